import Derived.Test.YtmifdccaajngcaaQPlaces1
import Derived.Test.YtmifdccaajngcaaQPlaces6
import Derived.Test.YtmifdccaajngcaaQPlaces4
set_option maxHeartbeats 8000000
set_option maxRecDepth 100000
section
namespace Go.Proofs.Ytmifdccaajngcaa.P
open Go.RowKit Go.Proofs.Sa.Ec Go.Proofs.Sa.Bf Go.Proofs.Sa.Yg
set_option linter.unusedVariables false
set_option linter.unusedSimpArgs false
attribute [local go_sem] Jk Gk ym xm Gj Fj Ik Fk
def Gb.l0:Nat→Int→List Int→Int→Int→Int→List (Dh)→List (yf)→Int→Int→Int→Int→Option (Bool)
 | 0,_,_,_,_,_,_,_,_,_,_,_=>none
 | k + 1,x5,x102000,x102001,x102002,x102003,x102004,x103000,x103001,x103002,x103003,x103004=>if x5 < (x103000.length:Int) then (if 0 ≤ x5 then ((Xa.f k x102000 x102001 x102002 x102003 x102004 ((Ea x103000 x5).f0) ((Ea x103000 x5).f1) ((Ea x103000 x5).f2) ((Ea x103000 x5).f3) ((Ea x103000 x5).f4) ((Ea x103000 x5).f5) ((Ea x103000 x5).f6)).bind fun t104=>(if t104=true then (Gb.l0 k (wrap64 (x5 + 1)) x102000 x102001 x102002 x102003 x102004 x103000 x103001 x103002 x103003 x103004) else (some false))) else (none)) else ((Za.f x103003 0 (wrap64 ((x102004.length:Int) - 1))).bind fun t105=>((Za.f x103002 0 (wrap64 (x102003 - 1))).bind fun t106=>(if x103001=0 then (if t105=true then (if x103002=0 then (some (x103004 == 0)) else (some false)) else (some false)) else (if x103001=1 then (if t105=true then (if t106=true then ((Za.f x103004 0 (wrap64 ((x102004.length:Int) - 1))).bind fun t107=>(some t107)) else (some false)) else (some false)) else (if x103001=2 then (if t106=true then (if x103003=0 then (some (x103004 == 0)) else (some false)) else (some false)) else (some false))))))
def Gb.f (k:Nat) (Ta:List Int) (Pa:Int) (Oa:Int) (Ma:Int) (Ra:List (Dh)) (Nd:List (yf)) (Lb:Int) (Rb:Int) (Sb:Int) (Uc:Int):Option (Bool):=Gb.l0 k 0 Ta Pa Oa Ma Ra Nd Lb Rb Sb Uc
theorem Gb.Qd:∀ k,(∀ y0 y1 y2 y3 y4 y5 y6 y7 y8 y9 rK,Nb (Gb.l0 k y0 y1 y2 y3 y4 y5 y6 y7 y8 y9 rK) (Gb.l0 (k + 1) y0 y1 y2 y3 y4 y5 y6 y7 y8 y9 rK))
 | 0=>fun _ _ _ _ _ _ _ _ _ _ _ r h=>by simp [Gb.l0] at h
 | k + 1=>by
  have Ff:=Gb.Qd k
  ·intro y0 y1 y2 y3 y4 y5 y6 y7 y8 y9 rK
   unfold Gb.l0
   repeat' first
   | (with_reducible exact Ff _ _ _ _ _ _ _ _ _ _ _)
   | (with_reducible exact Xa.mono _ _ _ _ _ _ _ _ _ _ _ _ _)
   | (with_reducible exact Nb.refl _)
   | (with_reducible exact Nb.none _)
   | (with_reducible refine Nb.ite ?_ ?_)
   | (with_reducible refine Nb.bind ?_ (fun _=>?_))
   | exact Ff _ _ _ _ _ _ _ _ _ _ _
   | exact Xa.mono _ _ _ _ _ _ _ _ _ _ _ _ _
   | exact Nb.none _
   | refine Nb.ite ?_ ?_
   | refine Nb.bind ?_ (fun _=>?_)
theorem Gb.mono:∀ a0 a1 a2 a3 a4 a5 a6 a7 a8 a9 k,Nb (Gb.f k a0 a1 a2 a3 a4 a5 a6 a7 a8 a9) (Gb.f (k + 1) a0 a1 a2 a3 a4 a5 a6 a7 a8 a9):=by
 intro a0 a1 a2 a3 a4 a5 a6 a7 a8 a9 k
 have Ff:=Gb.Qd k
 unfold Gb.f
 repeat' first
   | (with_reducible exact Ff _ _ _ _ _ _ _ _ _ _ _)
   | (with_reducible exact Xa.mono _ _ _ _ _ _ _ _ _ _ _ _ _)
   | (with_reducible exact Nb.refl _)
   | (with_reducible exact Nb.none _)
   | (with_reducible refine Nb.ite ?_ ?_)
   | (with_reducible refine Nb.bind ?_ (fun _=>?_))
   | exact Ff _ _ _ _ _ _ _ _ _ _ _
   | exact Xa.mono _ _ _ _ _ _ _ _ _ _ _ _ _
   | exact Nb.none _
   | refine Nb.ite ?_ ?_
   | refine Nb.bind ?_ (fun _=>?_)
def Gb.T4:Bool × List (List Nat × List Nat):=(true,[([],[]),([],[]),([1],[1]),([],[]),([2,3],[2,3]),([4],[4]),([0,5],[0,5]),([6],[6])])
def Gb.B4:List Nat:=[0,0,2,0,14,30,63,127]
theorem Gb.AV:Gm .any (opsOf Try.f87 4)=Gb.T4:=by kernel_rfl
theorem Gb.AR:um Gb.T4.2 Gb.B4=true:=by kernel_rfl
theorem Gb.calls (k:Nat) (Eb:Option Addr) (Db:Nat) (Ta:List Int) (Pa:Int) (Oa:Int) (Ma:Int) (yc:Option Addr) (Zb:Nat) (Ra:List (Dh)) (kg:Option Addr) (Tf:Nat) (Nd:List (yf)) (Lb:Int) (Rb:Int) (Sb:Int) (Uc:Int) (r:Bool) (w:World) (Kf:Kd.C (Kd.int .i64) w Eb Ta.length Ta) (Gf:Ta.length ≤ Db) (Bg:Kd.C Tp w yc Ra.length Ra) (Jg:Ra.length ≤ Zb) (eu:Kd.C Uj w kg Nd.length Nd) (fu:Nd.length ≤ Tf) (h:Gb.f k Ta Pa Oa Ma Ra Nd Lb Rb Sb Uc=some r) :
  Calls Try.prog 87 #[.agg #[.slice Eb Ta.length Db,.int .i64 Pa,.int .i64 Oa,.int .i64 Ma,.slice yc Ra.length Zb],.agg #[.slice kg Nd.length Tf,.int .i64 Lb,.int .i64 Rb,.int .i64 Sb,.int .i64 Uc]] w fun e w'=>e = .returned (.bool r)∧Below w.heap.size w w':=by
 have vB:=Try.underlying30
 have XJ:=Try.underlying68
 have MD:=Try.underlying70
 have Uf:=ja.mk Kf
 have ig:=ja.mk Gf
 clear Kf Gf
 have Zg:=ja.mk Bg
 have Li:=ja.mk Jg
 clear Bg Jg
 have Rm:=ja.mk eu
 have Qp:=ja.mk fu
 clear eu fu
 have HB:=ja.mk (Below.refl w.heap.size w)
 have H:(Gb.l0 k 0 Ta Pa Oa Ma Ra Nd Lb Rb Sb Uc)=some r:=h
 clear h
 have H':=ja.mk H
 clear H
 go_enter Try.func87,Try.ntmps87
 go_wp2_with (first|((with_reducible refine Pb (N:=2) rfl ?_);(try (refine Wg (by rfl) ?_;dsimp only));refine Kb ?hg (N:=2) ?hd (cs:=#[.slice Eb Ta.length Db,.int .i64 Pa,.int .i64 Oa,.int .i64 Ma,.slice yc Ra.length Zb]) (t:=30) ?hr ?_;(case hd=>rfl);(case hg=>rfl);(case hr=>first|(go_simp;done)|(go_simp;rfl));intro Da hg w3 Yb hb;have Qb:=ja.mk (Na (by repeat (first|(with_reducible first|exact HB.out|apply qa|apply ia|apply ua)|exact HB.out)) hb);have uc:=ja.mk (Yb);have Qc:=ja.mk ((by rw [hg];exact (Qa (by repeat (first|(with_reducible first|exact HB.out|apply qa|apply ia|apply ua)|exact HB.out))):w.heap.size ≤ Da));have Td:=ja.mk ((by rw [hg];exact (Qa (by repeat (first|(with_reducible first|exact HB.out|apply qa|apply ia|apply ua)|exact HB.out))):w.heap.size ≤ Da));clear HB;have HB:=Qb;have za:=uc;have Vf:=Qc;have Wa:=Td;clear Qb uc Qc Td hb Yb hg)|((with_reducible refine Pb (N:=3) rfl ?_);(try (refine Wg (by rfl) ?_;dsimp only));refine Kb ?hg (N:=3) ?hd (cs:=#[.slice kg Nd.length Tf,.int .i64 Lb,.int .i64 Rb,.int .i64 Sb,.int .i64 Uc]) (t:=68) ?hr ?_;(case hd=>rfl);(case hg=>rfl);(case hr=>first|(go_simp;done)|(go_simp;rfl));intro Ja hg w4 Yb hb;have Qb:=ja.mk (Ya (g:=Da) (o:=.cells #[.slice Eb Ta.length Db,.int .i64 Pa,.int .i64 Oa,.int .i64 Ma,.slice yc Ra.length Zb] 30 (0,0)) (by (with_reducible repeat (first|refine Ga ?_ _|refine Ia ?_|refine Fa ?_ _));exact za.out) hb);have uc:=ja.mk (Na (by repeat (first|(with_reducible first|exact HB.out|apply qa|apply ia|apply ua|refine Aa ?_ Wa.out)|exact HB.out)) hb);have Qc:=ja.mk (Yb);have Td:=ja.mk ((by rw [hg];exact (Qa (by repeat (first|(with_reducible first|exact HB.out|apply qa|apply ia|apply ua|refine Aa ?_ Wa.out)|exact HB.out))):w.heap.size ≤ Ja));have dh:=ja.mk ((by rw [hg];exact (Qa (by repeat (first|(with_reducible first|exact HB.out|apply qa|apply ia|apply ua|refine Aa ?_ Wa.out)|exact HB.out))):w.heap.size ≤ Ja));have Eh:=ja.mk ((by rw [hg];exact Nat.ne_of_lt (Pc (g:=Da) (o:=.cells #[.slice Eb Ta.length Db,.int .i64 Pa,.int .i64 Oa,.int .i64 Ma,.slice yc Ra.length Zb] 30 (0,0)) (by (with_reducible repeat (first|refine Ga ?_ _|refine Ia ?_|refine Fa ?_ _));exact za.out)):Da ≠ Ja));have Kh:=ja.mk ((by rw [hg];exact Nat.ne_of_gt (Pc (g:=Da) (o:=.cells #[.slice Eb Ta.length Db,.int .i64 Pa,.int .i64 Oa,.int .i64 Ma,.slice yc Ra.length Zb] 30 (0,0)) (by (with_reducible repeat (first|refine Ga ?_ _|refine Ia ?_|refine Fa ?_ _));exact za.out)):Ja ≠ Da));clear za HB;have za:=Qb;have HB:=uc;have Ba:=Qc;have Ci:=Td;have Dc:=dh;have qb:=Eh;have mb:=Kh;clear Qb uc Qc Td dh Eh Kh hb Yb hg))
 go_loopg [5] k (fun kq v5 w'=>∃ (Ca:Int),v5 = .int .i64 Ca∧ja (Gb.l0 kq Ca Ta Pa Oa Ma Ra Nd Lb Rb Sb Uc=some r)∧ja (kq ≤ k)∧ja (w'.heap[Da]? = some (.cells #[(.slice Eb Ta.length Db),.int .i64 Pa,.int .i64 Oa,.int .i64 Ma,(.slice yc Ra.length Zb)] 30 (0,0)))∧ja (w'.heap[Ja]? = some (.cells #[(.slice kg Nd.length Tf),.int .i64 Lb,.int .i64 Rb,.int .i64 Sb,.int .i64 Uc] 68 (0,0)))∧ja (Below w.heap.size w w'))
 case atStart=>exact ⟨(0),(by first|rfl|(simp;done)|(simp [*];done)),H',⟨Nat.le_refl _⟩,⟨by (with_reducible repeat (first|refine Ga ?_ _|refine Ia ?_|refine Fa ?_ _));exact za.out⟩,⟨by (with_reducible repeat (first|refine Ga ?_ _|refine Ia ?_|refine Fa ?_ _));exact Ba.out⟩,⟨by repeat (first|(with_reducible first|exact HB.out|apply qa|apply ia|apply ua|refine Aa ?_ Wa.out|refine Aa ?_ Dc.out)|exact HB.out)⟩⟩
 case round =>
  clear H'
  try clear c1
  try clear p2
  (try clear HA)
  (try clear Ig)
  (try clear za)
  (try clear Ba)
  (try clear HB)
  obtain ⟨Ca,rfl,HA,Ig,za,Ba,HB⟩:=hrel
  cases gk with
  | zero=>exact absurd HA.out (by simp [Gb.l0])
  | succ k1 =>
   have H:=HA.out
   clear HA
   simp only [Gb.l0] at H
   by_cases c5:Ca < (Nd.length:Int)
   ·rw [if_pos c5] at H
    have Ok:decide (Ca < (Nd.length:Int))=true:=decide_eq_true c5
    clear c5
    by_cases c6:0 ≤ Ca
    ·rw [if_pos c6] at H
     have El:decide (0 ≤ Ca)=true:=decide_eq_true c6
     clear c6
     replace H:=Option.bind_eq_some_iff.mp H
     obtain ⟨t104,Gx,H⟩:=H
     replace H:(if t104=true then (Gb.l0 k1 (wrap64 (Ca + 1)) Ta Pa Oa Ma Ra Nd Lb Rb Sb Uc) else (some false))=some r:=H
     have A7:=ja.mk Gx
     clear Gx
     by_cases c8:t104=true
     ·subst c8
      have H1:(Gb.l0 k1 (wrap64 (Ca + 1)) Ta Pa Oa Ma Ra Nd Lb Rb Sb Uc)=some r:=by rw [if_pos rfl] at H;exact H
      clear H
      have H:=H1
      clear H1
      have H':=ja.mk H
      clear H
      have kT:=mb.out
      have jT:=qb.out
      have Ak:wr.cell? ⟨Ja,0,none⟩=some (.slice kg Nd.length Tf):=(ga Ba.out 0).trans rfl
      have zk:wr.cell? ⟨Ja,1,none⟩=some (.int .i64 Lb):=(ga Ba.out 1).trans rfl
      have xk:wr.cell? ⟨Ja,2,none⟩=some (.int .i64 Rb):=(ga Ba.out 2).trans rfl
      have wk:wr.cell? ⟨Ja,3,none⟩=some (.int .i64 Sb):=(ga Ba.out 3).trans rfl
      have jl:wr.cell? ⟨Ja,4,none⟩=some (.int .i64 Uc):=(ga Ba.out 4).trans rfl
      have vk:=aa Ba.out 0
      have uk:=aa Ba.out 1
      have qk:=aa Ba.out 2
      have nk:=aa Ba.out 3
      have Wk:=aa Ba.out 4
      try go_wp2
      have Qb:=ja.mk (Ia za.out)
      have uc:=ja.mk (Ia Ba.out)
      have Qc:=ja.mk (ua HB.out)
      clear za Ba HB
      have za:=Qb
      have Ba:=uc
      have HB:=Qc
      clear Qb uc Qc
      have Tg:0 ≤ (Ca:Int):=of_decide_eq_true (by first|(with_reducible assumption)|assumption)
      have Sg:Ca < (Nd.length:Int):=of_decide_eq_true (by first|(with_reducible assumption)|assumption)
      obtain ⟨Ef,Cl,Ad,Yd,Xd,Wd,je,Df,Cf⟩:=kf Rm.out Ca Tg Sg
      have sn:=Cf
      have vn:=Df
      have zn:=je
      have Bn:=Wd
      have Cn:=Xd
      have Dn:=Yd
      have En:=Ad
      cases Cl
      replace Ad:=(HB.out.cell (World.block_lt_of_cell? w _ Ad)).trans Ad
      replace Yd:=(HB.out.cell (World.block_lt_of_cell? w _ Yd)).trans Yd
      replace Xd:=(HB.out.cell (World.block_lt_of_cell? w _ Xd)).trans Xd
      replace Wd:=(HB.out.cell (World.block_lt_of_cell? w _ Wd)).trans Wd
      replace je:=(HB.out.cell (World.block_lt_of_cell? w _ je)).trans je
      replace Df:=(HB.out.cell (World.block_lt_of_cell? w _ Df)).trans Df
      replace Cf:=(HB.out.cell (World.block_lt_of_cell? w _ Cf)).trans Cf
      replace Tg:=eq_true Tg
      replace Sg:=eq_true Sg
      refine Oi (n:=8) (S:=fun w'=>w'.cell? ⟨Da,0,none⟩=some (.slice Eb Ta.length Db)∧w'.cell? ⟨Da,1,none⟩=some (.int .i64 Pa)∧w'.cell? ⟨Da,2,none⟩=some (.int .i64 Oa)∧w'.cell? ⟨Da,3,none⟩=some (.int .i64 Ma)∧w'.cell? ⟨Da,4,none⟩=some (.slice yc Ra.length Zb)∧w'.cell? ⟨Ja,0,none⟩=some (.slice (some Ef) Nd.length Tf)∧w'.cell? ⟨Ja,1,none⟩=some (.int .i64 Lb)∧w'.cell? ⟨Ja,2,none⟩=some (.int .i64 Rb)∧w'.cell? ⟨Ja,3,none⟩=some (.int .i64 Sb)∧w'.cell? ⟨Ja,4,none⟩=some (.int .i64 Uc)∧w'.cell? (Ef.add ((Ca).toNat * 7))=some (.int .i64 ((Ea Nd Ca).f0))∧w'.cell? ⟨(Ef.add ((Ca).toNat * 7)).block,(Ef.add ((Ca).toNat * 7)).off + 1,none⟩=some (.int .i64 ((Ea Nd Ca).f1))∧w'.cell? ⟨(Ef.add ((Ca).toNat * 7)).block,(Ef.add ((Ca).toNat * 7)).off + 2,none⟩=some (.int .i64 ((Ea Nd Ca).f2))∧w'.cell? ⟨(Ef.add ((Ca).toNat * 7)).block,(Ef.add ((Ca).toNat * 7)).off + 3,none⟩=some (.int .i64 ((Ea Nd Ca).f3))∧w'.cell? ⟨(Ef.add ((Ca).toNat * 7)).block,(Ef.add ((Ca).toNat * 7)).off + 4,none⟩=some (.int .i64 ((Ea Nd Ca).f4))∧w'.cell? ⟨(Ef.add ((Ca).toNat * 7)).block,(Ef.add ((Ca).toNat * 7)).off + 5,none⟩=some (.int .i64 ((Ea Nd Ca).f5))∧w'.cell? ⟨(Ef.add ((Ca).toNat * 7)).block,(Ef.add ((Ca).toNat * 7)).off + 6,none⟩=some (.string ((Ea Nd Ca).f6))) (ds:=[]) #[false,false,false,false,false,false,false,false] (by kernel_rfl) rfl rfl ⟨(ga za.out 0).trans rfl,(ga za.out 1).trans rfl,(ga za.out 2).trans rfl,(ga za.out 3).trans rfl,(ga za.out 4).trans rfl,(ga Ba.out 0).trans rfl,(ga Ba.out 1).trans rfl,(ga Ba.out 2).trans rfl,(ga Ba.out 3).trans rfl,(ga Ba.out 4).trans rfl,((HB.out.cell (World.block_lt_of_cell? w _ En)).trans En),((HB.out.cell (World.block_lt_of_cell? w _ Dn)).trans Dn),((HB.out.cell (World.block_lt_of_cell? w _ Cn)).trans Cn),((HB.out.cell (World.block_lt_of_cell? w _ Bn)).trans Bn),((HB.out.cell (World.block_lt_of_cell? w _ zn)).trans zn),((HB.out.cell (World.block_lt_of_cell? w _ vn)).trans vn),((HB.out.cell (World.block_lt_of_cell? w _ sn)).trans sn)⟩ (fun hHeld=>?_);refine Xh Gb.AV Gb.AR (fun cg Vr=>?_)
      generalize wr.drew=Ei at za Ba HB Ad Yd Xd Wd je Df Cf hHeld ⊢
      refine Nc (i:=1) (N:=some 16) (v:=?_) (a':=?_) #[false,true,false,false,false,false,false,false] rfl rfl (ud cg.out (by kernel_rfl)) (fun _ _ _ h=>h) (Or.inl ⟨by rfl,?_⟩) ?_ ?_
      rotate_left
      ·intro w'
       go_simp
       with_reducible rfl
      rotate_left
      ·simp only [Act.put,List.setIfInBounds_toArray,List.set_cons_zero,List.set_cons_succ,Bb,Cb]
       rfl
      refine Nc (i:=3) (N:=some 18) (v:=?_) (a':=?_) #[false,true,false,true,false,false,false,false] rfl rfl (ud cg.out (by kernel_rfl)) (fun _ _ _ h=>h) (Or.inl ⟨by rfl,?_⟩) ?_ ?_
      rotate_left
      ·intro w'
       go_simp
       with_reducible rfl
      rotate_left
      ·simp only [Act.put,List.setIfInBounds_toArray,List.set_cons_zero,List.set_cons_succ,Bb,Cb]
       rfl
      refine Lf (i:=0) (N:=some 15) (v:=?_) (a':=?_) #[true,true,false,true,false,false,false,false] rfl rfl (Pf cg.out Vr.out (by kernel_rfl)) (fun _ _ _ h=>h) (Or.inl ⟨by rfl,?_⟩) hHeld ?_ ?_
      rotate_left
      ·rintro w' ⟨s0,s1,s2,s3,s4,s5,s6,s7,s8,s9,rN,qN,pN,oN,FV,EV,DV⟩
       go_simp
       with_reducible rfl
      rotate_left
      ·simp only [Act.put,List.setIfInBounds_toArray,List.set_cons_zero,List.set_cons_succ,Bb,Cb]
       rfl
      refine Lf (i:=2) (N:=some 17) (v:=?_) (a':=?_) #[true,true,true,true,false,false,false,false] rfl rfl (Pf cg.out Vr.out (by kernel_rfl)) (fun _ _ _ h=>h) (Or.inl ⟨by rfl,?_⟩) hHeld ?_ ?_
      rotate_left
      ·rintro w' ⟨s0,s1,s2,s3,s4,s5,s6,s7,s8,s9,rN,qN,pN,oN,FV,EV,DV⟩
       go_simp
       with_reducible rfl
      rotate_left
      ·simp only [Act.put,List.setIfInBounds_toArray,List.set_cons_zero,List.set_cons_succ,Bb,Cb]
       rfl
      refine Nc (i:=4) (N:=some 19) (v:=?_) (a':=?_) #[true,true,true,true,true,false,false,false] rfl rfl (ud cg.out (by kernel_rfl)) (fun _ _ _ h=>h) (Or.inl ⟨by rfl,?_⟩) ?_ ?_
      rotate_left
      ·intro w'
       go_simp
       with_reducible rfl
      rotate_left
      ·simp only [Act.put,List.setIfInBounds_toArray,List.set_cons_zero,List.set_cons_succ,Bb,Cb]
       rfl
      refine Lf (i:=5) (N:=some 20) (v:=?_) (a':=?_) #[true,true,true,true,true,true,false,false] rfl rfl (Pf cg.out Vr.out (by kernel_rfl)) (fun _ _ _ h=>h) (Or.inl ⟨by rfl,?_⟩) hHeld ?_ ?_
      rotate_left
      ·rintro w' ⟨s0,s1,s2,s3,s4,s5,s6,s7,s8,s9,rN,qN,pN,oN,FV,EV,DV⟩
       go_simp
       with_reducible rfl
      rotate_left
      ·simp only [Act.put,List.setIfInBounds_toArray,List.set_cons_zero,List.set_cons_succ,Bb,Cb]
       rfl
      refine gm (i:=6) (N:=some 21) #[true,true,true,true,true,true,true,false] rfl rfl (Pm cg.out (by kernel_rfl)) (by decide) (fun K hK=>?_)
      refine Qm Try.func111 (by kernel_rfl) rfl #[.agg #[.slice Eb Ta.length Db,.int .i64 Pa,.int .i64 Oa,.int .i64 Ma,.slice yc Ra.length Zb],.agg #[.int .i64 ((Ea Nd Ca).f0),.int .i64 ((Ea Nd Ca).f1),.int .i64 ((Ea Nd Ca).f2),.int .i64 ((Ea Nd Ca).f3),.int .i64 ((Ea Nd Ca).f4),.int .i64 ((Ea Nd Ca).f5),.string ((Ea Nd Ca).f6)]] (by rfl) rfl rfl (by (try simp only [List.map_toArray,List.map_cons,List.map_nil]);first|done|rfl|(simp only [List.length_drop,List.length_take];rfl)) ?_
      with_reducible refine (Xa.calls k1 _ _ Ta Pa Oa Ma _ _ Ra ((Ea Nd Ca).f0) ((Ea Nd Ca).f1) ((Ea Nd Ca).f2) ((Ea Nd Ca).f3) ((Ea Nd Ca).f4) ((Ea Nd Ca).f5) ((Ea Nd Ca).f6) true _ ?side1 ?side2 ?side3 ?side4 A7.out).mono ?_
      (case side1=>repeat (first|exact (Kd.Mb Uf.out HB.out)|(with_reducible refine Kd.Lc ?_ _)|(with_reducible refine Kd.Jc ?_ _)|(with_reducible refine Kd.Ed ?_)))
      (case side2=>exact ig.out)
      (case side3=>repeat (first|exact (Kd.Mb Zg.out HB.out)|(with_reducible refine Kd.Lc ?_ _)|(with_reducible refine Kd.Jc ?_ _)|(with_reducible refine Kd.Ed ?_)))
      (case side4=>exact Li.out)
      rintro e sA ⟨rfl,hb⟩
      refine ⟨_,rfl,?_⟩
      have Qb:=ja.mk (Ya (g:=Da) (o:=.cells #[.slice Eb Ta.length Db,.int .i64 Pa,.int .i64 Oa,.int .i64 Ma,.slice yc Ra.length Zb] 30 (0,0)) (by (with_reducible repeat (first|refine Ga ?_ _|refine Ia ?_|refine Fa ?_ _));exact za.out) hb)
      have uc:=ja.mk (Ya (g:=Ja) (o:=.cells #[.slice (some Ef) Nd.length Tf,.int .i64 Lb,.int .i64 Rb,.int .i64 Sb,.int .i64 Uc] 68 (0,0)) (by (with_reducible repeat (first|refine Ga ?_ _|refine Ia ?_|refine Fa ?_ _));exact Ba.out) hb)
      have Qc:=ja.mk (Na (by repeat (first|(with_reducible first|exact HB.out|apply qa|apply ia|apply ua|refine Aa ?_ Wa.out|refine Aa ?_ Dc.out)|exact HB.out)) hb)
      clear za Ba HB
      have za:=Qb
      have Ba:=uc
      have HB:=Qc
      clear Qb uc Qc
      (try clear hb)
      (try clear hb2)
      (try clear hk)
      (try clear hi)
      refine hK.out _ _ ⟨(ga za.out 0).trans rfl,(ga za.out 1).trans rfl,(ga za.out 2).trans rfl,(ga za.out 3).trans rfl,(ga za.out 4).trans rfl,(ga Ba.out 0).trans rfl,(ga Ba.out 1).trans rfl,(ga Ba.out 2).trans rfl,(ga Ba.out 3).trans rfl,(ga Ba.out 4).trans rfl,((HB.out.cell (World.block_lt_of_cell? w _ En)).trans En),((HB.out.cell (World.block_lt_of_cell? w _ Dn)).trans Dn),((HB.out.cell (World.block_lt_of_cell? w _ Cn)).trans Cn),((HB.out.cell (World.block_lt_of_cell? w _ Bn)).trans Bn),((HB.out.cell (World.block_lt_of_cell? w _ zn)).trans zn),((HB.out.cell (World.block_lt_of_cell? w _ vn)).trans vn),((HB.out.cell (World.block_lt_of_cell? w _ sn)).trans sn)⟩ (fun hHeld=>?_)
      clear hK K
      refine Mg (a':=?_) ?_ ?_
      rotate_left
      ·show Act.put _ (some 21) _=_
       simp only [Act.put,List.setIfInBounds_toArray,List.set_cons_zero,List.set_cons_succ,Bb,Cb]
       rfl
      refine Nc (i:=7) (N:=some 22) (v:=?_) (a':=?_) #[true,true,true,true,true,true,true,true] rfl rfl (ud cg.out (by kernel_rfl)) (fun _ _ _ h=>h) (Or.inl ⟨by rfl,?_⟩) ?_ ?_
      rotate_left
      ·intro w'
       go_simp
       with_reducible rfl
      rotate_left
      ·simp only [Act.put,List.setIfInBounds_toArray,List.set_cons_zero,List.set_cons_succ,Bb,Cb]
       rfl
      refine Mk (Bk cg.out (by kernel_rfl)) ?_
      try go_wp2
      go_roundg k1
      case measure=>have:=Ig.out;omega
      case rel=>exact ⟨(wrap64 (Ca + 1)),(by first|rfl|(simp;done)|(simp [*];done)),H',⟨by have:=Ig.out;omega⟩,⟨by (with_reducible repeat (first|refine Ga ?_ _|refine Ia ?_|refine Fa ?_ _));exact za.out⟩,⟨by (with_reducible repeat (first|refine Ga ?_ _|refine Ia ?_|refine Fa ?_ _));exact Ba.out⟩,⟨by repeat (first|(with_reducible first|exact HB.out|apply qa|apply ia|apply ua|refine Aa ?_ Wa.out|refine Aa ?_ Dc.out)|exact HB.out)⟩⟩
     ·replace c8:=Bool.eq_false_iff.mpr c8
      subst c8
      have H1:(some false)=some r:=by rw [if_neg (show ¬ (false=true) by decide)] at H;exact H
      clear H
      have H:=H1
      clear H1
      obtain rfl:=Option.some.inj H
      have eai:=mb.out
      have rah:=qb.out
      have Lp:wr.cell? ⟨Ja,0,none⟩=some (.slice kg Nd.length Tf):=(ga Ba.out 0).trans rfl
      have Kp:wr.cell? ⟨Ja,1,none⟩=some (.int .i64 Lb):=(ga Ba.out 1).trans rfl
      have Jp:wr.cell? ⟨Ja,2,none⟩=some (.int .i64 Rb):=(ga Ba.out 2).trans rfl
      have Ip:wr.cell? ⟨Ja,3,none⟩=some (.int .i64 Sb):=(ga Ba.out 3).trans rfl
      have Hp:wr.cell? ⟨Ja,4,none⟩=some (.int .i64 Uc):=(ga Ba.out 4).trans rfl
      have Dp:=aa Ba.out 0
      have Cp:=aa Ba.out 1
      have Bp:=aa Ba.out 2
      have Ap:=aa Ba.out 3
      have zp:=aa Ba.out 4
      try go_wp2
      have Qb:=ja.mk (Ia za.out)
      have uc:=ja.mk (Ia Ba.out)
      have Qc:=ja.mk (ua HB.out)
      clear za Ba HB
      have za:=Qb
      have Ba:=uc
      have HB:=Qc
      clear Qb uc Qc
      have Tg:0 ≤ (Ca:Int):=of_decide_eq_true (by first|(with_reducible assumption)|assumption)
      have Sg:Ca < (Nd.length:Int):=of_decide_eq_true (by first|(with_reducible assumption)|assumption)
      obtain ⟨Ef,Cl,Ad,Yd,Xd,Wd,je,Df,Cf⟩:=kf Rm.out Ca Tg Sg
      have sn:=Cf
      have vn:=Df
      have zn:=je
      have Bn:=Wd
      have Cn:=Xd
      have Dn:=Yd
      have En:=Ad
      cases Cl
      replace Ad:=(HB.out.cell (World.block_lt_of_cell? w _ Ad)).trans Ad
      replace Yd:=(HB.out.cell (World.block_lt_of_cell? w _ Yd)).trans Yd
      replace Xd:=(HB.out.cell (World.block_lt_of_cell? w _ Xd)).trans Xd
      replace Wd:=(HB.out.cell (World.block_lt_of_cell? w _ Wd)).trans Wd
      replace je:=(HB.out.cell (World.block_lt_of_cell? w _ je)).trans je
      replace Df:=(HB.out.cell (World.block_lt_of_cell? w _ Df)).trans Df
      replace Cf:=(HB.out.cell (World.block_lt_of_cell? w _ Cf)).trans Cf
      replace Tg:=eq_true Tg
      replace Sg:=eq_true Sg
      refine Oi (n:=8) (S:=fun w'=>w'.cell? ⟨Da,0,none⟩=some (.slice Eb Ta.length Db)∧w'.cell? ⟨Da,1,none⟩=some (.int .i64 Pa)∧w'.cell? ⟨Da,2,none⟩=some (.int .i64 Oa)∧w'.cell? ⟨Da,3,none⟩=some (.int .i64 Ma)∧w'.cell? ⟨Da,4,none⟩=some (.slice yc Ra.length Zb)∧w'.cell? ⟨Ja,0,none⟩=some (.slice (some Ef) Nd.length Tf)∧w'.cell? ⟨Ja,1,none⟩=some (.int .i64 Lb)∧w'.cell? ⟨Ja,2,none⟩=some (.int .i64 Rb)∧w'.cell? ⟨Ja,3,none⟩=some (.int .i64 Sb)∧w'.cell? ⟨Ja,4,none⟩=some (.int .i64 Uc)∧w'.cell? (Ef.add ((Ca).toNat * 7))=some (.int .i64 ((Ea Nd Ca).f0))∧w'.cell? ⟨(Ef.add ((Ca).toNat * 7)).block,(Ef.add ((Ca).toNat * 7)).off + 1,none⟩=some (.int .i64 ((Ea Nd Ca).f1))∧w'.cell? ⟨(Ef.add ((Ca).toNat * 7)).block,(Ef.add ((Ca).toNat * 7)).off + 2,none⟩=some (.int .i64 ((Ea Nd Ca).f2))∧w'.cell? ⟨(Ef.add ((Ca).toNat * 7)).block,(Ef.add ((Ca).toNat * 7)).off + 3,none⟩=some (.int .i64 ((Ea Nd Ca).f3))∧w'.cell? ⟨(Ef.add ((Ca).toNat * 7)).block,(Ef.add ((Ca).toNat * 7)).off + 4,none⟩=some (.int .i64 ((Ea Nd Ca).f4))∧w'.cell? ⟨(Ef.add ((Ca).toNat * 7)).block,(Ef.add ((Ca).toNat * 7)).off + 5,none⟩=some (.int .i64 ((Ea Nd Ca).f5))∧w'.cell? ⟨(Ef.add ((Ca).toNat * 7)).block,(Ef.add ((Ca).toNat * 7)).off + 6,none⟩=some (.string ((Ea Nd Ca).f6))) (ds:=[]) #[false,false,false,false,false,false,false,false] (by kernel_rfl) rfl rfl ⟨(ga za.out 0).trans rfl,(ga za.out 1).trans rfl,(ga za.out 2).trans rfl,(ga za.out 3).trans rfl,(ga za.out 4).trans rfl,(ga Ba.out 0).trans rfl,(ga Ba.out 1).trans rfl,(ga Ba.out 2).trans rfl,(ga Ba.out 3).trans rfl,(ga Ba.out 4).trans rfl,((HB.out.cell (World.block_lt_of_cell? w _ En)).trans En),((HB.out.cell (World.block_lt_of_cell? w _ Dn)).trans Dn),((HB.out.cell (World.block_lt_of_cell? w _ Cn)).trans Cn),((HB.out.cell (World.block_lt_of_cell? w _ Bn)).trans Bn),((HB.out.cell (World.block_lt_of_cell? w _ zn)).trans zn),((HB.out.cell (World.block_lt_of_cell? w _ vn)).trans vn),((HB.out.cell (World.block_lt_of_cell? w _ sn)).trans sn)⟩ (fun hHeld=>?_);refine Xh Gb.AV Gb.AR (fun cg Vr=>?_)
      generalize wr.drew=Fl at za Ba HB Ad Yd Xd Wd je Df Cf hHeld ⊢
      refine Nc (i:=1) (N:=some 16) (v:=?_) (a':=?_) #[false,true,false,false,false,false,false,false] rfl rfl (ud cg.out (by kernel_rfl)) (fun _ _ _ h=>h) (Or.inl ⟨by rfl,?_⟩) ?_ ?_
      rotate_left
      ·intro w'
       go_simp
       with_reducible rfl
      rotate_left
      ·simp only [Act.put,List.setIfInBounds_toArray,List.set_cons_zero,List.set_cons_succ,Bb,Cb]
       rfl
      refine Nc (i:=3) (N:=some 18) (v:=?_) (a':=?_) #[false,true,false,true,false,false,false,false] rfl rfl (ud cg.out (by kernel_rfl)) (fun _ _ _ h=>h) (Or.inl ⟨by rfl,?_⟩) ?_ ?_
      rotate_left
      ·intro w'
       go_simp
       with_reducible rfl
      rotate_left
      ·simp only [Act.put,List.setIfInBounds_toArray,List.set_cons_zero,List.set_cons_succ,Bb,Cb]
       rfl
      refine Lf (i:=0) (N:=some 15) (v:=?_) (a':=?_) #[true,true,false,true,false,false,false,false] rfl rfl (Pf cg.out Vr.out (by kernel_rfl)) (fun _ _ _ h=>h) (Or.inl ⟨by rfl,?_⟩) hHeld ?_ ?_
      rotate_left
      ·rintro w' ⟨s0,s1,s2,s3,s4,s5,s6,s7,s8,s9,rN,qN,pN,oN,FV,EV,DV⟩
       go_simp
       with_reducible rfl
      rotate_left
      ·simp only [Act.put,List.setIfInBounds_toArray,List.set_cons_zero,List.set_cons_succ,Bb,Cb]
       rfl
      refine Lf (i:=2) (N:=some 17) (v:=?_) (a':=?_) #[true,true,true,true,false,false,false,false] rfl rfl (Pf cg.out Vr.out (by kernel_rfl)) (fun _ _ _ h=>h) (Or.inl ⟨by rfl,?_⟩) hHeld ?_ ?_
      rotate_left
      ·rintro w' ⟨s0,s1,s2,s3,s4,s5,s6,s7,s8,s9,rN,qN,pN,oN,FV,EV,DV⟩
       go_simp
       with_reducible rfl
      rotate_left
      ·simp only [Act.put,List.setIfInBounds_toArray,List.set_cons_zero,List.set_cons_succ,Bb,Cb]
       rfl
      refine Nc (i:=4) (N:=some 19) (v:=?_) (a':=?_) #[true,true,true,true,true,false,false,false] rfl rfl (ud cg.out (by kernel_rfl)) (fun _ _ _ h=>h) (Or.inl ⟨by rfl,?_⟩) ?_ ?_
      rotate_left
      ·intro w'
       go_simp
       with_reducible rfl
      rotate_left
      ·simp only [Act.put,List.setIfInBounds_toArray,List.set_cons_zero,List.set_cons_succ,Bb,Cb]
       rfl
      refine Lf (i:=5) (N:=some 20) (v:=?_) (a':=?_) #[true,true,true,true,true,true,false,false] rfl rfl (Pf cg.out Vr.out (by kernel_rfl)) (fun _ _ _ h=>h) (Or.inl ⟨by rfl,?_⟩) hHeld ?_ ?_
      rotate_left
      ·rintro w' ⟨s0,s1,s2,s3,s4,s5,s6,s7,s8,s9,rN,qN,pN,oN,FV,EV,DV⟩
       go_simp
       with_reducible rfl
      rotate_left
      ·simp only [Act.put,List.setIfInBounds_toArray,List.set_cons_zero,List.set_cons_succ,Bb,Cb]
       rfl
      refine gm (i:=6) (N:=some 21) #[true,true,true,true,true,true,true,false] rfl rfl (Pm cg.out (by kernel_rfl)) (by decide) (fun K hK=>?_)
      refine Qm Try.func111 (by kernel_rfl) rfl #[.agg #[.slice Eb Ta.length Db,.int .i64 Pa,.int .i64 Oa,.int .i64 Ma,.slice yc Ra.length Zb],.agg #[.int .i64 ((Ea Nd Ca).f0),.int .i64 ((Ea Nd Ca).f1),.int .i64 ((Ea Nd Ca).f2),.int .i64 ((Ea Nd Ca).f3),.int .i64 ((Ea Nd Ca).f4),.int .i64 ((Ea Nd Ca).f5),.string ((Ea Nd Ca).f6)]] (by rfl) rfl rfl (by (try simp only [List.map_toArray,List.map_cons,List.map_nil]);first|done|rfl|(simp only [List.length_drop,List.length_take];rfl)) ?_
      with_reducible refine (Xa.calls k1 _ _ Ta Pa Oa Ma _ _ Ra ((Ea Nd Ca).f0) ((Ea Nd Ca).f1) ((Ea Nd Ca).f2) ((Ea Nd Ca).f3) ((Ea Nd Ca).f4) ((Ea Nd Ca).f5) ((Ea Nd Ca).f6) false _ ?side1 ?side2 ?side3 ?side4 A7.out).mono ?_
      (case side1=>repeat (first|exact (Kd.Mb Uf.out HB.out)|(with_reducible refine Kd.Lc ?_ _)|(with_reducible refine Kd.Jc ?_ _)|(with_reducible refine Kd.Ed ?_)))
      (case side2=>exact ig.out)
      (case side3=>repeat (first|exact (Kd.Mb Zg.out HB.out)|(with_reducible refine Kd.Lc ?_ _)|(with_reducible refine Kd.Jc ?_ _)|(with_reducible refine Kd.Ed ?_)))
      (case side4=>exact Li.out)
      rintro e Xz ⟨rfl,hb⟩
      refine ⟨_,rfl,?_⟩
      have Qb:=ja.mk (Ya (g:=Da) (o:=.cells #[.slice Eb Ta.length Db,.int .i64 Pa,.int .i64 Oa,.int .i64 Ma,.slice yc Ra.length Zb] 30 (0,0)) (by (with_reducible repeat (first|refine Ga ?_ _|refine Ia ?_|refine Fa ?_ _));exact za.out) hb)
      have uc:=ja.mk (Ya (g:=Ja) (o:=.cells #[.slice (some Ef) Nd.length Tf,.int .i64 Lb,.int .i64 Rb,.int .i64 Sb,.int .i64 Uc] 68 (0,0)) (by (with_reducible repeat (first|refine Ga ?_ _|refine Ia ?_|refine Fa ?_ _));exact Ba.out) hb)
      have Qc:=ja.mk (Na (by repeat (first|(with_reducible first|exact HB.out|apply qa|apply ia|apply ua|refine Aa ?_ Wa.out|refine Aa ?_ Dc.out)|exact HB.out)) hb)
      clear za Ba HB
      have za:=Qb
      have Ba:=uc
      have HB:=Qc
      clear Qb uc Qc
      (try clear hb)
      (try clear hb2)
      (try clear hk)
      (try clear hi)
      refine hK.out _ _ ⟨(ga za.out 0).trans rfl,(ga za.out 1).trans rfl,(ga za.out 2).trans rfl,(ga za.out 3).trans rfl,(ga za.out 4).trans rfl,(ga Ba.out 0).trans rfl,(ga Ba.out 1).trans rfl,(ga Ba.out 2).trans rfl,(ga Ba.out 3).trans rfl,(ga Ba.out 4).trans rfl,((HB.out.cell (World.block_lt_of_cell? w _ En)).trans En),((HB.out.cell (World.block_lt_of_cell? w _ Dn)).trans Dn),((HB.out.cell (World.block_lt_of_cell? w _ Cn)).trans Cn),((HB.out.cell (World.block_lt_of_cell? w _ Bn)).trans Bn),((HB.out.cell (World.block_lt_of_cell? w _ zn)).trans zn),((HB.out.cell (World.block_lt_of_cell? w _ vn)).trans vn),((HB.out.cell (World.block_lt_of_cell? w _ sn)).trans sn)⟩ (fun hHeld=>?_)
      clear hK K
      refine Mg (a':=?_) ?_ ?_
      rotate_left
      ·show Act.put _ (some 21) _=_
       simp only [Act.put,List.setIfInBounds_toArray,List.set_cons_zero,List.set_cons_succ,Bb,Cb]
       rfl
      refine Nc (i:=7) (N:=some 22) (v:=?_) (a':=?_) #[true,true,true,true,true,true,true,true] rfl rfl (ud cg.out (by kernel_rfl)) (fun _ _ _ h=>h) (Or.inl ⟨by rfl,?_⟩) ?_ ?_
      rotate_left
      ·intro w'
       go_simp
       with_reducible rfl
      rotate_left
      ·simp only [Act.put,List.setIfInBounds_toArray,List.set_cons_zero,List.set_cons_succ,Bb,Cb]
       rfl
      refine Mk (Bk cg.out (by kernel_rfl)) ?_
      try go_wp2
      go_ret
      exact ⟨by first|rfl|(simp [La,Ka] <;> rfl)|(simp [*,La,Ka] <;> rfl),by repeat (first|(with_reducible first|exact HB.out|apply qa|apply ia|apply ua|refine Aa ?_ Wa.out|refine Aa ?_ Dc.out)|exact HB.out)⟩
    ·rw [if_neg c6] at H
     exact absurd H (by simp)
   ·rw [if_neg c5] at H
    have Ok:decide (Ca < (Nd.length:Int))=false:=decide_eq_false c5
    clear c5
    replace H:=Option.bind_eq_some_iff.mp H
    obtain ⟨t105,X4,H⟩:=H
    replace H:((Za.f Rb 0 (wrap64 (Ma - 1))).bind fun t106=>(if Lb=0 then (if t105=true then (if Rb=0 then (some (Uc == 0)) else (some false)) else (some false)) else (if Lb=1 then (if t105=true then (if t106=true then ((Za.f Uc 0 (wrap64 ((Ra.length:Int) - 1))).bind fun t107=>(some t107)) else (some false)) else (some false)) else (if Lb=2 then (if t106=true then (if Sb=0 then (some (Uc == 0)) else (some false)) else (some false)) else (some false)))))=some r:=H
    have dN:=ja.mk X4
    clear X4
    replace H:=Option.bind_eq_some_iff.mp H
    obtain ⟨t106,PM,H⟩:=H
    replace H:(if Lb=0 then (if t105=true then (if Rb=0 then (some (Uc == 0)) else (some false)) else (some false)) else (if Lb=1 then (if t105=true then (if t106=true then ((Za.f Uc 0 (wrap64 ((Ra.length:Int) - 1))).bind fun t107=>(some t107)) else (some false)) else (some false)) else (if Lb=2 then (if t106=true then (if Sb=0 then (some (Uc == 0)) else (some false)) else (some false)) else (some false))))=some r:=H
    have qK:=ja.mk PM
    clear PM
    by_cases c19:Lb=0
    ·rw [if_pos c19] at H
     have jM:(Lb == 0)=true:=beq_iff_eq.mpr c19
     have K2:(Lb != 0)=false:=bne_eq_false_iff_eq.mpr c19
     clear c19
     by_cases c20:t105=true
     ·subst c20
      have H1:(if Rb=0 then (some (Uc == 0)) else (some false))=some r:=by rw [if_pos rfl] at H;exact H
      clear H
      have H:=H1
      clear H1
      by_cases c21:Rb=0
      ·rw [if_pos c21] at H
       have yR:(Rb == 0)=true:=beq_iff_eq.mpr c21
       have J2:(Rb != 0)=false:=bne_eq_false_iff_eq.mpr c21
       clear c21
       obtain rfl:=Option.some.inj H
       have aR:=mb.out
       have TQ:=qb.out
       have Yk:wr.cell? ⟨Ja,0,none⟩=some (.slice kg Nd.length Tf):=(ga Ba.out 0).trans rfl
       have Xk:wr.cell? ⟨Ja,1,none⟩=some (.int .i64 Lb):=(ga Ba.out 1).trans rfl
       have Gp:wr.cell? ⟨Ja,2,none⟩=some (.int .i64 Rb):=(ga Ba.out 2).trans rfl
       have Fp:wr.cell? ⟨Ja,3,none⟩=some (.int .i64 Sb):=(ga Ba.out 3).trans rfl
       have Ep:wr.cell? ⟨Ja,4,none⟩=some (.int .i64 Uc):=(ga Ba.out 4).trans rfl
       have Tk:=aa Ba.out 0
       have Sk:=aa Ba.out 1
       have yp:=aa Ba.out 2
       have xp:=aa Ba.out 3
       have vp:=aa Ba.out 4
       have Un:wr.cell? ⟨Da,0,none⟩=some (.slice Eb Ta.length Db):=(ga za.out 0).trans rfl
       have Tn:wr.cell? ⟨Da,1,none⟩=some (.int .i64 Pa):=(ga za.out 1).trans rfl
       have Jv:wr.cell? ⟨Da,2,none⟩=some (.int .i64 Oa):=(ga za.out 2).trans rfl
       have Iv:wr.cell? ⟨Da,3,none⟩=some (.int .i64 Ma):=(ga za.out 3).trans rfl
       have Hv:wr.cell? ⟨Da,4,none⟩=some (.slice yc Ra.length Zb):=(ga za.out 4).trans rfl
       have Pn:=aa za.out 0
       have Nn:=aa za.out 1
       have Su:=aa za.out 2
       have Ru:=aa za.out 3
       have Qu:=aa za.out 4
       go_wp2_with (first|((with_reducible refine xb (f:=54) rfl ?_);refine qd (some 29) rfl rfl Try.func54 (by kernel_rfl) rfl #[.int .i64 Sb,.int .i64 0,.int .i64 (wrap64 ((Ra.length:Int) - 1))] rfl (by (try simp only [List.map_toArray,List.map_cons,List.map_nil]);first|done|rfl|(simp only [List.length_drop,List.length_take];rfl)) ?_;(with_reducible refine (Za.calls Sb 0 (wrap64 ((Ra.length:Int) - 1)) true _ dN.out).mono ?_);rintro e w' ⟨rfl,⟨nd,rfl⟩⟩;refine ⟨_,rfl,?_⟩)|((with_reducible refine xb (f:=54) rfl ?_);refine qd (some 35) rfl rfl Try.func54 (by kernel_rfl) rfl #[.int .i64 Rb,.int .i64 0,.int .i64 (wrap64 (Ma - 1))] rfl (by (try simp only [List.map_toArray,List.map_cons,List.map_nil]);first|done|rfl|(simp only [List.length_drop,List.length_take];rfl)) ?_;(with_reducible refine (Za.calls Rb 0 (wrap64 (Ma - 1)) t106 _ qK.out).mono ?_);rintro e w' ⟨rfl,⟨nd,rfl⟩⟩;refine ⟨_,rfl,?_⟩))
       go_ret
       exact ⟨by first|rfl|(simp [La,Ka] <;> rfl)|(simp [*,La,Ka] <;> rfl),by repeat (first|(with_reducible first|exact HB.out|apply qa|apply ia|apply ua|refine Aa ?_ Wa.out|refine Aa ?_ Dc.out)|exact HB.out)⟩
      ·rw [if_neg c21] at H
       have yR:(Rb == 0)=false:=beq_eq_false_iff_ne.mpr c21
       have J2:(Rb != 0)=true:=bne_iff_ne.mpr c21
       obtain rfl:=Option.some.inj H
       have OW:=mb.out
       have wW:=qb.out
       have Lt:wr.cell? ⟨Ja,0,none⟩=some (.slice kg Nd.length Tf):=(ga Ba.out 0).trans rfl
       have Kt:wr.cell? ⟨Ja,1,none⟩=some (.int .i64 Lb):=(ga Ba.out 1).trans rfl
       have Jt:wr.cell? ⟨Ja,2,none⟩=some (.int .i64 Rb):=(ga Ba.out 2).trans rfl
       have Ht:wr.cell? ⟨Ja,3,none⟩=some (.int .i64 Sb):=(ga Ba.out 3).trans rfl
       have Gv:wr.cell? ⟨Ja,4,none⟩=some (.int .i64 Uc):=(ga Ba.out 4).trans rfl
       have Ct:=aa Ba.out 0
       have Bt:=aa Ba.out 1
       have yt:=aa Ba.out 2
       have qt:=aa Ba.out 3
       have Pu:=aa Ba.out 4
       have Fy:wr.cell? ⟨Da,0,none⟩=some (.slice Eb Ta.length Db):=(ga za.out 0).trans rfl
       have Ey:wr.cell? ⟨Da,1,none⟩=some (.int .i64 Pa):=(ga za.out 1).trans rfl
       have Dy:wr.cell? ⟨Da,2,none⟩=some (.int .i64 Oa):=(ga za.out 2).trans rfl
       have Cy:wr.cell? ⟨Da,3,none⟩=some (.int .i64 Ma):=(ga za.out 3).trans rfl
       have Ay:wr.cell? ⟨Da,4,none⟩=some (.slice yc Ra.length Zb):=(ga za.out 4).trans rfl
       have Yx:=aa za.out 0
       have Xx:=aa za.out 1
       have Wx:=aa za.out 2
       have Vx:=aa za.out 3
       have Ux:=aa za.out 4
       go_wp2_with (first|((with_reducible refine xb (f:=54) rfl ?_);refine qd (some 29) rfl rfl Try.func54 (by kernel_rfl) rfl #[.int .i64 Sb,.int .i64 0,.int .i64 (wrap64 ((Ra.length:Int) - 1))] rfl (by (try simp only [List.map_toArray,List.map_cons,List.map_nil]);first|done|rfl|(simp only [List.length_drop,List.length_take];rfl)) ?_;(with_reducible refine (Za.calls Sb 0 (wrap64 ((Ra.length:Int) - 1)) true _ dN.out).mono ?_);rintro e w' ⟨rfl,⟨nd,rfl⟩⟩;refine ⟨_,rfl,?_⟩)|((with_reducible refine xb (f:=54) rfl ?_);refine qd (some 35) rfl rfl Try.func54 (by kernel_rfl) rfl #[.int .i64 Rb,.int .i64 0,.int .i64 (wrap64 (Ma - 1))] rfl (by (try simp only [List.map_toArray,List.map_cons,List.map_nil]);first|done|rfl|(simp only [List.length_drop,List.length_take];rfl)) ?_;(with_reducible refine (Za.calls Rb 0 (wrap64 (Ma - 1)) t106 _ qK.out).mono ?_);rintro e w' ⟨rfl,⟨nd,rfl⟩⟩;refine ⟨_,rfl,?_⟩))
       go_ret
       exact ⟨by first|rfl|(simp [La,Ka] <;> rfl)|(simp [*,La,Ka] <;> rfl),by repeat (first|(with_reducible first|exact HB.out|apply qa|apply ia|apply ua|refine Aa ?_ Wa.out|refine Aa ?_ Dc.out)|exact HB.out)⟩
     ·replace c20:=Bool.eq_false_iff.mpr c20
      subst c20
      have H1:(some false)=some r:=by rw [if_neg (show ¬ (false=true) by decide)] at H;exact H
      clear H
      have H:=H1
      clear H1
      obtain rfl:=Option.some.inj H
      have NW:=mb.out
      have vW:=qb.out
      have Gt:wr.cell? ⟨Ja,0,none⟩=some (.slice kg Nd.length Tf):=(ga Ba.out 0).trans rfl
      have Ft:wr.cell? ⟨Ja,1,none⟩=some (.int .i64 Lb):=(ga Ba.out 1).trans rfl
      have JI:wr.cell? ⟨Ja,2,none⟩=some (.int .i64 Rb):=(ga Ba.out 2).trans rfl
      have II:wr.cell? ⟨Ja,3,none⟩=some (.int .i64 Sb):=(ga Ba.out 3).trans rfl
      have GI:wr.cell? ⟨Ja,4,none⟩=some (.int .i64 Uc):=(ga Ba.out 4).trans rfl
      have ot:=aa Ba.out 0
      have jt:=aa Ba.out 1
      have BH:=aa Ba.out 2
      have AH:=aa Ba.out 3
      have zH:=aa Ba.out 4
      have FI:wr.cell? ⟨Da,0,none⟩=some (.slice Eb Ta.length Db):=(ga za.out 0).trans rfl
      have EI:wr.cell? ⟨Da,1,none⟩=some (.int .i64 Pa):=(ga za.out 1).trans rfl
      have DI:wr.cell? ⟨Da,2,none⟩=some (.int .i64 Oa):=(ga za.out 2).trans rfl
      have CI:wr.cell? ⟨Da,3,none⟩=some (.int .i64 Ma):=(ga za.out 3).trans rfl
      have NP:wr.cell? ⟨Da,4,none⟩=some (.slice yc Ra.length Zb):=(ga za.out 4).trans rfl
      have yH:=aa za.out 0
      have xH:=aa za.out 1
      have wH:=aa za.out 2
      have vH:=aa za.out 3
      have CO:=aa za.out 4
      go_wp2_with (first|((with_reducible refine xb (f:=54) rfl ?_);refine qd (some 29) rfl rfl Try.func54 (by kernel_rfl) rfl #[.int .i64 Sb,.int .i64 0,.int .i64 (wrap64 ((Ra.length:Int) - 1))] rfl (by (try simp only [List.map_toArray,List.map_cons,List.map_nil]);first|done|rfl|(simp only [List.length_drop,List.length_take];rfl)) ?_;(with_reducible refine (Za.calls Sb 0 (wrap64 ((Ra.length:Int) - 1)) false _ dN.out).mono ?_);rintro e w' ⟨rfl,⟨nd,rfl⟩⟩;refine ⟨_,rfl,?_⟩)|((with_reducible refine xb (f:=54) rfl ?_);refine qd (some 35) rfl rfl Try.func54 (by kernel_rfl) rfl #[.int .i64 Rb,.int .i64 0,.int .i64 (wrap64 (Ma - 1))] rfl (by (try simp only [List.map_toArray,List.map_cons,List.map_nil]);first|done|rfl|(simp only [List.length_drop,List.length_take];rfl)) ?_;(with_reducible refine (Za.calls Rb 0 (wrap64 (Ma - 1)) t106 _ qK.out).mono ?_);rintro e w' ⟨rfl,⟨nd,rfl⟩⟩;refine ⟨_,rfl,?_⟩))
      go_ret
      exact ⟨by first|rfl|(simp [La,Ka] <;> rfl)|(simp [*,La,Ka] <;> rfl),by repeat (first|(with_reducible first|exact HB.out|apply qa|apply ia|apply ua|refine Aa ?_ Wa.out|refine Aa ?_ Dc.out)|exact HB.out)⟩
    ·rw [if_neg c19] at H
     have jM:(Lb == 0)=false:=beq_eq_false_iff_ne.mpr c19
     have K2:(Lb != 0)=true:=bne_iff_ne.mpr c19
     by_cases c31:Lb=1
     ·rw [if_pos c31] at H
      have F2:(Lb == 1)=true:=beq_iff_eq.mpr c31
      have E2:(Lb != 1)=false:=bne_eq_false_iff_eq.mpr c31
      clear c31
      by_cases c32:t105=true
      ·subst c32
       have H1:(if t106=true then ((Za.f Uc 0 (wrap64 ((Ra.length:Int) - 1))).bind fun t107=>(some t107)) else (some false))=some r:=by rw [if_pos rfl] at H;exact H
       clear H
       have H:=H1
       clear H1
       by_cases c33:t106=true
       ·subst c33
        have H1:((Za.f Uc 0 (wrap64 ((Ra.length:Int) - 1))).bind fun t107=>(some t107))=some r:=by rw [if_pos rfl] at H;exact H
        clear H
        have H:=H1
        clear H1
        replace H:=Option.bind_eq_some_iff.mp H
        obtain ⟨t107,O4,H⟩:=H
        replace H:(some t107)=some r:=H
        have A34:=ja.mk O4
        clear O4
        obtain rfl:=Option.some.inj H
        have IW:=mb.out
        have qW:=qb.out
        have Fv:wr.cell? ⟨Ja,0,none⟩=some (.slice kg Nd.length Tf):=(ga Ba.out 0).trans rfl
        have Dv:wr.cell? ⟨Ja,1,none⟩=some (.int .i64 Lb):=(ga Ba.out 1).trans rfl
        have tI:wr.cell? ⟨Ja,2,none⟩=some (.int .i64 Rb):=(ga Ba.out 2).trans rfl
        have sI:wr.cell? ⟨Ja,3,none⟩=some (.int .i64 Sb):=(ga Ba.out 3).trans rfl
        have rI:wr.cell? ⟨Ja,4,none⟩=some (.int .i64 Uc):=(ga Ba.out 4).trans rfl
        have Ou:=aa Ba.out 0
        have Nu:=aa Ba.out 1
        have nH:=aa Ba.out 2
        have mH:=aa Ba.out 3
        have lH:=aa Ba.out 4
        have GP:wr.cell? ⟨Da,0,none⟩=some (.slice Eb Ta.length Db):=(ga za.out 0).trans rfl
        have FP:wr.cell? ⟨Da,1,none⟩=some (.int .i64 Pa):=(ga za.out 1).trans rfl
        have EP:wr.cell? ⟨Da,2,none⟩=some (.int .i64 Oa):=(ga za.out 2).trans rfl
        have DP:wr.cell? ⟨Da,3,none⟩=some (.int .i64 Ma):=(ga za.out 3).trans rfl
        have CP:wr.cell? ⟨Da,4,none⟩=some (.slice yc Ra.length Zb):=(ga za.out 4).trans rfl
        have wO:=aa za.out 0
        have vO:=aa za.out 1
        have uO:=aa za.out 2
        have tO:=aa za.out 3
        have sO:=aa za.out 4
        go_wp2_with (first|((with_reducible refine xb (f:=54) rfl ?_);refine qd (some 29) rfl rfl Try.func54 (by kernel_rfl) rfl #[.int .i64 Sb,.int .i64 0,.int .i64 (wrap64 ((Ra.length:Int) - 1))] rfl (by (try simp only [List.map_toArray,List.map_cons,List.map_nil]);first|done|rfl|(simp only [List.length_drop,List.length_take];rfl)) ?_;(with_reducible refine (Za.calls Sb 0 (wrap64 ((Ra.length:Int) - 1)) true _ dN.out).mono ?_);rintro e w' ⟨rfl,⟨nd,rfl⟩⟩;refine ⟨_,rfl,?_⟩)|((with_reducible refine xb (f:=54) rfl ?_);refine qd (some 35) rfl rfl Try.func54 (by kernel_rfl) rfl #[.int .i64 Rb,.int .i64 0,.int .i64 (wrap64 (Ma - 1))] rfl (by (try simp only [List.map_toArray,List.map_cons,List.map_nil]);first|done|rfl|(simp only [List.length_drop,List.length_take];rfl)) ?_;(with_reducible refine (Za.calls Rb 0 (wrap64 (Ma - 1)) true _ qK.out).mono ?_);rintro e w' ⟨rfl,⟨nd,rfl⟩⟩;refine ⟨_,rfl,?_⟩)|(go_at_call 54;(with_reducible refine (Za.calls Uc 0 (wrap64 ((Ra.length:Int) - 1)) t107 _ A34.out).mono ?_);rintro e w' ⟨rfl,⟨nd,rfl⟩⟩))
        go_ret
        exact ⟨by first|rfl|(simp [La,Ka] <;> rfl)|(simp [*,La,Ka] <;> rfl),by repeat (first|(with_reducible first|exact HB.out|apply qa|apply ia|apply ua|refine Aa ?_ Wa.out|refine Aa ?_ Dc.out)|exact HB.out)⟩
       ·replace c33:=Bool.eq_false_iff.mpr c33
        subst c33
        have H1:(some false)=some r:=by rw [if_neg (show ¬ (false=true) by decide)] at H;exact H
        clear H
        have H:=H1
        clear H1
        obtain rfl:=Option.some.inj H
        have Wah:=mb.out
        have jah:=qb.out
        have oI:wr.cell? ⟨Ja,0,none⟩=some (.slice kg Nd.length Tf):=(ga Ba.out 0).trans rfl
        have nI:wr.cell? ⟨Ja,1,none⟩=some (.int .i64 Lb):=(ga Ba.out 1).trans rfl
        have mI:wr.cell? ⟨Ja,2,none⟩=some (.int .i64 Rb):=(ga Ba.out 2).trans rfl
        have lI:wr.cell? ⟨Ja,3,none⟩=some (.int .i64 Sb):=(ga Ba.out 3).trans rfl
        have kI:wr.cell? ⟨Ja,4,none⟩=some (.int .i64 Uc):=(ga Ba.out 4).trans rfl
        have iH:=aa Ba.out 0
        have gH:=aa Ba.out 1
        have fH:=aa Ba.out 2
        have eH:=aa Ba.out 3
        have dH:=aa Ba.out 4
        have qy:wr.cell? ⟨Da,0,none⟩=some (.slice Eb Ta.length Db):=(ga za.out 0).trans rfl
        have oy:wr.cell? ⟨Da,1,none⟩=some (.int .i64 Pa):=(ga za.out 1).trans rfl
        have ny:wr.cell? ⟨Da,2,none⟩=some (.int .i64 Oa):=(ga za.out 2).trans rfl
        have jy:wr.cell? ⟨Da,3,none⟩=some (.int .i64 Ma):=(ga za.out 3).trans rfl
        have iy:wr.cell? ⟨Da,4,none⟩=some (.slice yc Ra.length Zb):=(ga za.out 4).trans rfl
        have Nx:=aa za.out 0
        have Mx:=aa za.out 1
        have Lx:=aa za.out 2
        have Kx:=aa za.out 3
        have Jx:=aa za.out 4
        go_wp2_with (first|((with_reducible refine xb (f:=54) rfl ?_);refine qd (some 29) rfl rfl Try.func54 (by kernel_rfl) rfl #[.int .i64 Sb,.int .i64 0,.int .i64 (wrap64 ((Ra.length:Int) - 1))] rfl (by (try simp only [List.map_toArray,List.map_cons,List.map_nil]);first|done|rfl|(simp only [List.length_drop,List.length_take];rfl)) ?_;(with_reducible refine (Za.calls Sb 0 (wrap64 ((Ra.length:Int) - 1)) true _ dN.out).mono ?_);rintro e w' ⟨rfl,⟨nd,rfl⟩⟩;refine ⟨_,rfl,?_⟩)|((with_reducible refine xb (f:=54) rfl ?_);refine qd (some 35) rfl rfl Try.func54 (by kernel_rfl) rfl #[.int .i64 Rb,.int .i64 0,.int .i64 (wrap64 (Ma - 1))] rfl (by (try simp only [List.map_toArray,List.map_cons,List.map_nil]);first|done|rfl|(simp only [List.length_drop,List.length_take];rfl)) ?_;(with_reducible refine (Za.calls Rb 0 (wrap64 (Ma - 1)) false _ qK.out).mono ?_);rintro e w' ⟨rfl,⟨nd,rfl⟩⟩;refine ⟨_,rfl,?_⟩))
        go_ret
        exact ⟨by first|rfl|(simp [La,Ka] <;> rfl)|(simp [*,La,Ka] <;> rfl),by repeat (first|(with_reducible first|exact HB.out|apply qa|apply ia|apply ua|refine Aa ?_ Wa.out|refine Aa ?_ Dc.out)|exact HB.out)⟩
      ·replace c32:=Bool.eq_false_iff.mpr c32
       subst c32
       have H1:(some false)=some r:=by rw [if_neg (show ¬ (false=true) by decide)] at H;exact H
       clear H
       have H:=H1
       clear H1
       obtain rfl:=Option.some.inj H
       have FW:=mb.out
       have oW:=qb.out
       have jI:wr.cell? ⟨Ja,0,none⟩=some (.slice kg Nd.length Tf):=(ga Ba.out 0).trans rfl
       have iI:wr.cell? ⟨Ja,1,none⟩=some (.int .i64 Lb):=(ga Ba.out 1).trans rfl
       have gI:wr.cell? ⟨Ja,2,none⟩=some (.int .i64 Rb):=(ga Ba.out 2).trans rfl
       have fI:wr.cell? ⟨Ja,3,none⟩=some (.int .i64 Sb):=(ga Ba.out 3).trans rfl
       have eI:wr.cell? ⟨Ja,4,none⟩=some (.int .i64 Uc):=(ga Ba.out 4).trans rfl
       have cH:=aa Ba.out 0
       have bH:=aa Ba.out 1
       have aH:=aa Ba.out 2
       have ZG:=aa Ba.out 3
       have YG:=aa Ba.out 4
       have uP:wr.cell? ⟨Da,0,none⟩=some (.slice Eb Ta.length Db):=(ga za.out 0).trans rfl
       have tP:wr.cell? ⟨Da,1,none⟩=some (.int .i64 Pa):=(ga za.out 1).trans rfl
       have sP:wr.cell? ⟨Da,2,none⟩=some (.int .i64 Oa):=(ga za.out 2).trans rfl
       have rP:wr.cell? ⟨Da,3,none⟩=some (.int .i64 Ma):=(ga za.out 3).trans rfl
       have qP:wr.cell? ⟨Da,4,none⟩=some (.slice yc Ra.length Zb):=(ga za.out 4).trans rfl
       have kO:=aa za.out 0
       have jO:=aa za.out 1
       have iO:=aa za.out 2
       have hO:=aa za.out 3
       have gO:=aa za.out 4
       go_wp2_with (first|((with_reducible refine xb (f:=54) rfl ?_);refine qd (some 29) rfl rfl Try.func54 (by kernel_rfl) rfl #[.int .i64 Sb,.int .i64 0,.int .i64 (wrap64 ((Ra.length:Int) - 1))] rfl (by (try simp only [List.map_toArray,List.map_cons,List.map_nil]);first|done|rfl|(simp only [List.length_drop,List.length_take];rfl)) ?_;(with_reducible refine (Za.calls Sb 0 (wrap64 ((Ra.length:Int) - 1)) false _ dN.out).mono ?_);rintro e w' ⟨rfl,⟨nd,rfl⟩⟩;refine ⟨_,rfl,?_⟩)|((with_reducible refine xb (f:=54) rfl ?_);refine qd (some 35) rfl rfl Try.func54 (by kernel_rfl) rfl #[.int .i64 Rb,.int .i64 0,.int .i64 (wrap64 (Ma - 1))] rfl (by (try simp only [List.map_toArray,List.map_cons,List.map_nil]);first|done|rfl|(simp only [List.length_drop,List.length_take];rfl)) ?_;(with_reducible refine (Za.calls Rb 0 (wrap64 (Ma - 1)) t106 _ qK.out).mono ?_);rintro e w' ⟨rfl,⟨nd,rfl⟩⟩;refine ⟨_,rfl,?_⟩))
       go_ret
       exact ⟨by first|rfl|(simp [La,Ka] <;> rfl)|(simp [*,La,Ka] <;> rfl),by repeat (first|(with_reducible first|exact HB.out|apply qa|apply ia|apply ua|refine Aa ?_ Wa.out|refine Aa ?_ Dc.out)|exact HB.out)⟩
     ·rw [if_neg c31] at H
      have F2:(Lb == 1)=false:=beq_eq_false_iff_ne.mpr c31
      have E2:(Lb != 1)=true:=bne_iff_ne.mpr c31
      by_cases c44:Lb=2
      ·rw [if_pos c44] at H
       have gM:(Lb == 2)=true:=beq_iff_eq.mpr c44
       have fM:(Lb != 2)=false:=bne_eq_false_iff_eq.mpr c44
       clear c44
       by_cases c45:t106=true
       ·subst c45
        have H1:(if Sb=0 then (some (Uc == 0)) else (some false))=some r:=by rw [if_pos rfl] at H;exact H
        clear H
        have H:=H1
        clear H1
        by_cases c46:Sb=0
        ·rw [if_pos c46] at H
         have eM:(Sb == 0)=true:=beq_iff_eq.mpr c46
         have dM:(Sb != 0)=false:=bne_eq_false_iff_eq.mpr c46
         clear c46
         obtain rfl:=Option.some.inj H
         have WQ:=mb.out
         have NQ:=qb.out
         have Cv:wr.cell? ⟨Ja,0,none⟩=some (.slice kg Nd.length Tf):=(ga Ba.out 0).trans rfl
         have Bv:wr.cell? ⟨Ja,1,none⟩=some (.int .i64 Lb):=(ga Ba.out 1).trans rfl
         have nC:wr.cell? ⟨Ja,2,none⟩=some (.int .i64 Rb):=(ga Ba.out 2).trans rfl
         have mC:wr.cell? ⟨Ja,3,none⟩=some (.int .i64 Sb):=(ga Ba.out 3).trans rfl
         have lC:wr.cell? ⟨Ja,4,none⟩=some (.int .i64 Uc):=(ga Ba.out 4).trans rfl
         have Mu:=aa Ba.out 0
         have Lu:=aa Ba.out 1
         have zB:=aa Ba.out 2
         have yB:=aa Ba.out 3
         have xB:=aa Ba.out 4
         have iP:wr.cell? ⟨Da,0,none⟩=some (.slice Eb Ta.length Db):=(ga za.out 0).trans rfl
         have gP:wr.cell? ⟨Da,1,none⟩=some (.int .i64 Pa):=(ga za.out 1).trans rfl
         have fP:wr.cell? ⟨Da,2,none⟩=some (.int .i64 Oa):=(ga za.out 2).trans rfl
         have eP:wr.cell? ⟨Da,3,none⟩=some (.int .i64 Ma):=(ga za.out 3).trans rfl
         have dP:wr.cell? ⟨Da,4,none⟩=some (.slice yc Ra.length Zb):=(ga za.out 4).trans rfl
         have XN:=aa za.out 0
         have WN:=aa za.out 1
         have VN:=aa za.out 2
         have UN:=aa za.out 3
         have TN:=aa za.out 4
         go_wp2_with (first|((with_reducible refine xb (f:=54) rfl ?_);refine qd (some 29) rfl rfl Try.func54 (by kernel_rfl) rfl #[.int .i64 Sb,.int .i64 0,.int .i64 (wrap64 ((Ra.length:Int) - 1))] rfl (by (try simp only [List.map_toArray,List.map_cons,List.map_nil]);first|done|rfl|(simp only [List.length_drop,List.length_take];rfl)) ?_;(with_reducible refine (Za.calls Sb 0 (wrap64 ((Ra.length:Int) - 1)) t105 _ dN.out).mono ?_);rintro e w' ⟨rfl,⟨nd,rfl⟩⟩;refine ⟨_,rfl,?_⟩)|((with_reducible refine xb (f:=54) rfl ?_);refine qd (some 35) rfl rfl Try.func54 (by kernel_rfl) rfl #[.int .i64 Rb,.int .i64 0,.int .i64 (wrap64 (Ma - 1))] rfl (by (try simp only [List.map_toArray,List.map_cons,List.map_nil]);first|done|rfl|(simp only [List.length_drop,List.length_take];rfl)) ?_;(with_reducible refine (Za.calls Rb 0 (wrap64 (Ma - 1)) true _ qK.out).mono ?_);rintro e w' ⟨rfl,⟨nd,rfl⟩⟩;refine ⟨_,rfl,?_⟩))
         go_ret
         exact ⟨by first|rfl|(simp [La,Ka] <;> rfl)|(simp [*,La,Ka] <;> rfl),by repeat (first|(with_reducible first|exact HB.out|apply qa|apply ia|apply ua|refine Aa ?_ Wa.out|refine Aa ?_ Dc.out)|exact HB.out)⟩
        ·rw [if_neg c46] at H
         have eM:(Sb == 0)=false:=beq_eq_false_iff_ne.mpr c46
         have dM:(Sb != 0)=true:=bne_iff_ne.mpr c46
         obtain rfl:=Option.some.inj H
         have Qah:=mb.out
         have dah:=qb.out
         have Lac:wr.cell? ⟨Ja,0,none⟩=some (.slice kg Nd.length Tf):=(ga Ba.out 0).trans rfl
         have Kac:wr.cell? ⟨Ja,1,none⟩=some (.int .i64 Lb):=(ga Ba.out 1).trans rfl
         have Jac:wr.cell? ⟨Ja,2,none⟩=some (.int .i64 Rb):=(ga Ba.out 2).trans rfl
         have Iac:wr.cell? ⟨Ja,3,none⟩=some (.int .i64 Sb):=(ga Ba.out 3).trans rfl
         have Hac:wr.cell? ⟨Ja,4,none⟩=some (.int .i64 Uc):=(ga Ba.out 4).trans rfl
         have d_:=aa Ba.out 0
         have b_:=aa Ba.out 1
         have Z9:=aa Ba.out 2
         have Y9:=aa Ba.out 3
         have X9:=aa Ba.out 4
         have ZH:wr.cell? ⟨Da,0,none⟩=some (.slice Eb Ta.length Db):=(ga za.out 0).trans rfl
         have YH:wr.cell? ⟨Da,1,none⟩=some (.int .i64 Pa):=(ga za.out 1).trans rfl
         have XH:wr.cell? ⟨Da,2,none⟩=some (.int .i64 Oa):=(ga za.out 2).trans rfl
         have WH:wr.cell? ⟨Da,3,none⟩=some (.int .i64 Ma):=(ga za.out 3).trans rfl
         have VH:wr.cell? ⟨Da,4,none⟩=some (.slice yc Ra.length Zb):=(ga za.out 4).trans rfl
         have SG:=aa za.out 0
         have RG:=aa za.out 1
         have QG:=aa za.out 2
         have PG:=aa za.out 3
         have OG:=aa za.out 4
         go_wp2_with (first|((with_reducible refine xb (f:=54) rfl ?_);refine qd (some 29) rfl rfl Try.func54 (by kernel_rfl) rfl #[.int .i64 Sb,.int .i64 0,.int .i64 (wrap64 ((Ra.length:Int) - 1))] rfl (by (try simp only [List.map_toArray,List.map_cons,List.map_nil]);first|done|rfl|(simp only [List.length_drop,List.length_take];rfl)) ?_;(with_reducible refine (Za.calls Sb 0 (wrap64 ((Ra.length:Int) - 1)) t105 _ dN.out).mono ?_);rintro e w' ⟨rfl,⟨nd,rfl⟩⟩;refine ⟨_,rfl,?_⟩)|((with_reducible refine xb (f:=54) rfl ?_);refine qd (some 35) rfl rfl Try.func54 (by kernel_rfl) rfl #[.int .i64 Rb,.int .i64 0,.int .i64 (wrap64 (Ma - 1))] rfl (by (try simp only [List.map_toArray,List.map_cons,List.map_nil]);first|done|rfl|(simp only [List.length_drop,List.length_take];rfl)) ?_;(with_reducible refine (Za.calls Rb 0 (wrap64 (Ma - 1)) true _ qK.out).mono ?_);rintro e w' ⟨rfl,⟨nd,rfl⟩⟩;refine ⟨_,rfl,?_⟩))
         go_ret
         exact ⟨by first|rfl|(simp [La,Ka] <;> rfl)|(simp [*,La,Ka] <;> rfl),by repeat (first|(with_reducible first|exact HB.out|apply qa|apply ia|apply ua|refine Aa ?_ Wa.out|refine Aa ?_ Dc.out)|exact HB.out)⟩
       ·replace c45:=Bool.eq_false_iff.mpr c45
        subst c45
        have H1:(some false)=some r:=by rw [if_neg (show ¬ (false=true) by decide)] at H;exact H
        clear H
        have H:=H1
        clear H1
        obtain rfl:=Option.some.inj H
        have Oah:=mb.out
        have bah:=qb.out
        have Bac:wr.cell? ⟨Ja,0,none⟩=some (.slice kg Nd.length Tf):=(ga Ba.out 0).trans rfl
        have Aac:wr.cell? ⟨Ja,1,none⟩=some (.int .i64 Lb):=(ga Ba.out 1).trans rfl
        have zac:wr.cell? ⟨Ja,2,none⟩=some (.int .i64 Rb):=(ga Ba.out 2).trans rfl
        have yac:wr.cell? ⟨Ja,3,none⟩=some (.int .i64 Sb):=(ga Ba.out 3).trans rfl
        have xac:wr.cell? ⟨Ja,4,none⟩=some (.int .i64 Uc):=(ga Ba.out 4).trans rfl
        have R9:=aa Ba.out 0
        have Q9:=aa Ba.out 1
        have P9:=aa Ba.out 2
        have O9:=aa Ba.out 3
        have N9:=aa Ba.out 4
        have wac:wr.cell? ⟨Da,0,none⟩=some (.slice Eb Ta.length Db):=(ga za.out 0).trans rfl
        have vac:wr.cell? ⟨Da,1,none⟩=some (.int .i64 Pa):=(ga za.out 1).trans rfl
        have uac:wr.cell? ⟨Da,2,none⟩=some (.int .i64 Oa):=(ga za.out 2).trans rfl
        have sac:wr.cell? ⟨Da,3,none⟩=some (.int .i64 Ma):=(ga za.out 3).trans rfl
        have rac:wr.cell? ⟨Da,4,none⟩=some (.slice yc Ra.length Zb):=(ga za.out 4).trans rfl
        have M9:=aa za.out 0
        have L9:=aa za.out 1
        have K9:=aa za.out 2
        have J9:=aa za.out 3
        have I9:=aa za.out 4
        go_wp2_with (first|((with_reducible refine xb (f:=54) rfl ?_);refine qd (some 29) rfl rfl Try.func54 (by kernel_rfl) rfl #[.int .i64 Sb,.int .i64 0,.int .i64 (wrap64 ((Ra.length:Int) - 1))] rfl (by (try simp only [List.map_toArray,List.map_cons,List.map_nil]);first|done|rfl|(simp only [List.length_drop,List.length_take];rfl)) ?_;(with_reducible refine (Za.calls Sb 0 (wrap64 ((Ra.length:Int) - 1)) t105 _ dN.out).mono ?_);rintro e w' ⟨rfl,⟨nd,rfl⟩⟩;refine ⟨_,rfl,?_⟩)|((with_reducible refine xb (f:=54) rfl ?_);refine qd (some 35) rfl rfl Try.func54 (by kernel_rfl) rfl #[.int .i64 Rb,.int .i64 0,.int .i64 (wrap64 (Ma - 1))] rfl (by (try simp only [List.map_toArray,List.map_cons,List.map_nil]);first|done|rfl|(simp only [List.length_drop,List.length_take];rfl)) ?_;(with_reducible refine (Za.calls Rb 0 (wrap64 (Ma - 1)) false _ qK.out).mono ?_);rintro e w' ⟨rfl,⟨nd,rfl⟩⟩;refine ⟨_,rfl,?_⟩))
        go_ret
        exact ⟨by first|rfl|(simp [La,Ka] <;> rfl)|(simp [*,La,Ka] <;> rfl),by repeat (first|(with_reducible first|exact HB.out|apply qa|apply ia|apply ua|refine Aa ?_ Wa.out|refine Aa ?_ Dc.out)|exact HB.out)⟩
      ·rw [if_neg c44] at H
       have gM:(Lb == 2)=false:=beq_eq_false_iff_ne.mpr c44
       have fM:(Lb != 2)=true:=bne_iff_ne.mpr c44
       obtain rfl:=Option.some.inj H
       have DW:=mb.out
       have mW:=qb.out
       have cP:wr.cell? ⟨Ja,0,none⟩=some (.slice kg Nd.length Tf):=(ga Ba.out 0).trans rfl
       have ZO:wr.cell? ⟨Ja,1,none⟩=some (.int .i64 Lb):=(ga Ba.out 1).trans rfl
       have qac:wr.cell? ⟨Ja,2,none⟩=some (.int .i64 Rb):=(ga Ba.out 2).trans rfl
       have pac:wr.cell? ⟨Ja,3,none⟩=some (.int .i64 Sb):=(ga Ba.out 3).trans rfl
       have oac:wr.cell? ⟨Ja,4,none⟩=some (.int .i64 Uc):=(ga Ba.out 4).trans rfl
       have SN:=aa Ba.out 0
       have RN:=aa Ba.out 1
       have H9:=aa Ba.out 2
       have G9:=aa Ba.out 3
       have F9:=aa Ba.out 4
       have YO:wr.cell? ⟨Da,0,none⟩=some (.slice Eb Ta.length Db):=(ga za.out 0).trans rfl
       have XO:wr.cell? ⟨Da,1,none⟩=some (.int .i64 Pa):=(ga za.out 1).trans rfl
       have WO:wr.cell? ⟨Da,2,none⟩=some (.int .i64 Oa):=(ga za.out 2).trans rfl
       have VO:wr.cell? ⟨Da,3,none⟩=some (.int .i64 Ma):=(ga za.out 3).trans rfl
       have UO:wr.cell? ⟨Da,4,none⟩=some (.slice yc Ra.length Zb):=(ga za.out 4).trans rfl
       have QN:=aa za.out 0
       have PN:=aa za.out 1
       have NN:=aa za.out 2
       have MN:=aa za.out 3
       have LN:=aa za.out 4
       go_wp2_with (first|((with_reducible refine xb (f:=54) rfl ?_);refine qd (some 29) rfl rfl Try.func54 (by kernel_rfl) rfl #[.int .i64 Sb,.int .i64 0,.int .i64 (wrap64 ((Ra.length:Int) - 1))] rfl (by (try simp only [List.map_toArray,List.map_cons,List.map_nil]);first|done|rfl|(simp only [List.length_drop,List.length_take];rfl)) ?_;(with_reducible refine (Za.calls Sb 0 (wrap64 ((Ra.length:Int) - 1)) t105 _ dN.out).mono ?_);rintro e w' ⟨rfl,⟨nd,rfl⟩⟩;refine ⟨_,rfl,?_⟩)|((with_reducible refine xb (f:=54) rfl ?_);refine qd (some 35) rfl rfl Try.func54 (by kernel_rfl) rfl #[.int .i64 Rb,.int .i64 0,.int .i64 (wrap64 (Ma - 1))] rfl (by (try simp only [List.map_toArray,List.map_cons,List.map_nil]);first|done|rfl|(simp only [List.length_drop,List.length_take];rfl)) ?_;(with_reducible refine (Za.calls Rb 0 (wrap64 (Ma - 1)) t106 _ qK.out).mono ?_);rintro e w' ⟨rfl,⟨nd,rfl⟩⟩;refine ⟨_,rfl,?_⟩))
       go_ret
       exact ⟨by first|rfl|(simp [La,Ka] <;> rfl)|(simp [*,La,Ka] <;> rfl),by repeat (first|(with_reducible first|exact HB.out|apply qa|apply ia|apply ua|refine Aa ?_ Wa.out|refine Aa ?_ Dc.out)|exact HB.out)⟩
mutual
def Va.l0:Nat→Int→List Int→Int→Int→Int→List (Dh)→Option (Bool)
 | 0,_,_,_,_,_,_=>none
 | k + 1,x3,x102000,x102001,x102002,x102003,x102004=>if x3 < (x102000.length:Int) then (if 0 ≤ x3 then ((Za.f (rd x102000 x3) 1 16).bind fun t103=>(if t103=true then (Va.l0 k (wrap64 (x3 + 1)) x102000 x102001 x102002 x102003 x102004) else (some false))) else (none)) else ((Za.f (x102000.length:Int) 1 4).bind fun t104=>(if t104=true then ((Za.f x102002 0 20).bind fun t105=>(if t105=true then ((Za.f x102001 0 6).bind fun t106=>(if t106=true then (if x102001 > x102002 then (Va.j1 k true x102000 x102001 x102002 x102003 x102004) else ((Za.f x102003 x102002 1000).bind fun t107=>(if t107=true then ((Za.f (x102004.length:Int) 1 300).bind fun t108=>(Va.j1 k (!t108) x102000 x102001 x102002 x102003 x102004)) else (Va.j1 k true x102000 x102001 x102002 x102003 x102004)))) else (Va.j1 k true x102000 x102001 x102002 x102003 x102004))) else (Va.j1 k true x102000 x102001 x102002 x102003 x102004))) else (Va.j1 k true x102000 x102001 x102002 x102003 x102004)))
def Va.j1:Nat→Bool→List Int→Int→Int→Int→List (Dh)→Option (Bool)
 | 0,_,_,_,_,_,_=>none
 | k + 1,x58,x102000,x102001,x102002,x102003,x102004=>if x58=true then (some false) else (Va.l1 k 0 0 x102000 x102001 x102002 x102003 x102004)
def Va.l1:Nat→Int→Int→List Int→Int→Int→Int→List (Dh)→Option (Bool)
 | 0,_,_,_,_,_,_,_=>none
 | k + 1,x4,x5,x102000,x102001,x102002,x102003,x102004=>if x5 < (x102004.length:Int) then (if 0 ≤ x5 then (if (wrap64 (x4 + (((Ua x102004 x5).f0).length:Int))) > 1000 then (some false) else ((Gb.f k x102000 x102001 x102002 x102003 x102004 ((Ua x102004 x5).f0) ((Ua x102004 x5).f1) ((Ua x102004 x5).f2) ((Ua x102004 x5).f3) ((Ua x102004 x5).f4)).bind fun t111=>(if t111=true then (Va.l1 k (wrap64 (x4 + (((Ua x102004 x5).f0).length:Int))) (wrap64 (x5 + 1)) x102000 x102001 x102002 x102003 x102004) else (some false)))) else (none)) else (some true)
end
def Va.f (k:Nat) (Ta:List Int) (Pa:Int) (Oa:Int) (Ma:Int) (Ra:List (Dh)):Option (Bool):=Va.l0 k 0 Ta Pa Oa Ma Ra
theorem Va.Qd:∀ k,(∀ y0 y1 y2 y3 y4 y5,Nb (Va.l0 k y0 y1 y2 y3 y4 y5) (Va.l0 (k + 1) y0 y1 y2 y3 y4 y5))∧(∀ y0 y1 y2 y3 y4 y5,Nb (Va.j1 k y0 y1 y2 y3 y4 y5) (Va.j1 (k + 1) y0 y1 y2 y3 y4 y5))∧(∀ y0 y1 y2 y3 y4 y5 y6,Nb (Va.l1 k y0 y1 y2 y3 y4 y5 y6) (Va.l1 (k + 1) y0 y1 y2 y3 y4 y5 y6))
 | 0=>⟨fun _ _ _ _ _ _ r h=>by simp [Va.l0] at h,fun _ _ _ _ _ _ r h=>by simp [Va.j1] at h,fun _ _ _ _ _ _ _ r h=>by simp [Va.l1] at h⟩
 | k + 1=>by
  obtain ⟨Ff,ih1,ih2⟩:=Va.Qd k
  refine ⟨?_,?_,?_⟩
  ·intro y0 y1 y2 y3 y4 y5
   unfold Va.l0
   repeat' first
   | (with_reducible exact Ff _ _ _ _ _ _)
   | (with_reducible exact ih1 _ _ _ _ _ _)
   | (with_reducible exact ih2 _ _ _ _ _ _ _)
   | (with_reducible exact Gb.mono _ _ _ _ _ _ _ _ _ _ _)
   | (with_reducible exact Nb.refl _)
   | (with_reducible exact Nb.none _)
   | (with_reducible refine Nb.ite ?_ ?_)
   | (with_reducible refine Nb.bind ?_ (fun _=>?_))
   | exact Ff _ _ _ _ _ _
   | exact ih1 _ _ _ _ _ _
   | exact ih2 _ _ _ _ _ _ _
   | exact Gb.mono _ _ _ _ _ _ _ _ _ _ _
   | exact Nb.none _
   | refine Nb.ite ?_ ?_
   | refine Nb.bind ?_ (fun _=>?_)
  ·intro y0 y1 y2 y3 y4 y5
   unfold Va.j1
   repeat' first
   | (with_reducible exact Ff _ _ _ _ _ _)
   | (with_reducible exact ih1 _ _ _ _ _ _)
   | (with_reducible exact ih2 _ _ _ _ _ _ _)
   | (with_reducible exact Gb.mono _ _ _ _ _ _ _ _ _ _ _)
   | (with_reducible exact Nb.refl _)
   | (with_reducible exact Nb.none _)
   | (with_reducible refine Nb.ite ?_ ?_)
   | (with_reducible refine Nb.bind ?_ (fun _=>?_))
   | exact Ff _ _ _ _ _ _
   | exact ih1 _ _ _ _ _ _
   | exact ih2 _ _ _ _ _ _ _
   | exact Gb.mono _ _ _ _ _ _ _ _ _ _ _
   | exact Nb.none _
   | refine Nb.ite ?_ ?_
   | refine Nb.bind ?_ (fun _=>?_)
  ·intro y0 y1 y2 y3 y4 y5 y6
   unfold Va.l1
   repeat' first
   | (with_reducible exact Ff _ _ _ _ _ _)
   | (with_reducible exact ih1 _ _ _ _ _ _)
   | (with_reducible exact ih2 _ _ _ _ _ _ _)
   | (with_reducible exact Gb.mono _ _ _ _ _ _ _ _ _ _ _)
   | (with_reducible exact Nb.refl _)
   | (with_reducible exact Nb.none _)
   | (with_reducible refine Nb.ite ?_ ?_)
   | (with_reducible refine Nb.bind ?_ (fun _=>?_))
   | exact Ff _ _ _ _ _ _
   | exact ih1 _ _ _ _ _ _
   | exact ih2 _ _ _ _ _ _ _
   | exact Gb.mono _ _ _ _ _ _ _ _ _ _ _
   | exact Nb.none _
   | refine Nb.ite ?_ ?_
   | refine Nb.bind ?_ (fun _=>?_)
theorem Va.mono:∀ a0 a1 a2 a3 a4 k,Nb (Va.f k a0 a1 a2 a3 a4) (Va.f (k + 1) a0 a1 a2 a3 a4):=by
 intro a0 a1 a2 a3 a4 k
 obtain ⟨Ff,ih1,ih2⟩:=Va.Qd k
 unfold Va.f
 repeat' first
   | (with_reducible exact Ff _ _ _ _ _ _)
   | (with_reducible exact ih1 _ _ _ _ _ _)
   | (with_reducible exact ih2 _ _ _ _ _ _ _)
   | (with_reducible exact Gb.mono _ _ _ _ _ _ _ _ _ _ _)
   | (with_reducible exact Nb.refl _)
   | (with_reducible exact Nb.none _)
   | (with_reducible refine Nb.ite ?_ ?_)
   | (with_reducible refine Nb.bind ?_ (fun _=>?_))
   | exact Ff _ _ _ _ _ _
   | exact ih1 _ _ _ _ _ _
   | exact ih2 _ _ _ _ _ _ _
   | exact Gb.mono _ _ _ _ _ _ _ _ _ _ _
   | exact Nb.none _
   | refine Nb.ite ?_ ?_
   | refine Nb.bind ?_ (fun _=>?_)
def Va.T13:Bool × List (List Nat × List Nat):=(true,[([],[]),([0],[0]),([1],[1]),([2],[2]),([2],[2]),([4,2],[2,4]),([2],[2]),([5,6,2],[2,5,6]),([7,2],[2,7]),([3,8,2,2],[2,3,8]),([9,2],[2,9]),([2,10],[2,10])])
def Va.B13:List Nat:=[0,1,3,7,7,23,7,119,247,511,1023,2047]
theorem Va.wK:Gm .any (opsOf Try.f53 13)=Va.T13:=by kernel_rfl
theorem Va.ZF:um Va.T13.2 Va.B13=true:=by kernel_rfl
theorem Va.calls (k:Nat) (Eb:Option Addr) (Db:Nat) (Ta:List Int) (Pa:Int) (Oa:Int) (Ma:Int) (yc:Option Addr) (Zb:Nat) (Ra:List (Dh)) (r:Bool) (w:World) (Kf:Kd.C (Kd.int .i64) w Eb Ta.length Ta) (Gf:Ta.length ≤ Db) (Bg:Kd.C Tp w yc Ra.length Ra) (Jg:Ra.length ≤ Zb) (h:Va.f k Ta Pa Oa Ma Ra=some r) :
  Calls Try.prog 53 #[.agg #[.slice Eb Ta.length Db,.int .i64 Pa,.int .i64 Oa,.int .i64 Ma,.slice yc Ra.length Zb]] w fun e w'=>e = .returned (.bool r)∧Below w.heap.size w w':=by
 have vB:=Try.underlying30
 have XJ:=Try.underlying68
 have Uf:=ja.mk Kf
 have ig:=ja.mk Gf
 clear Kf Gf
 have Zg:=ja.mk Bg
 have Li:=ja.mk Jg
 clear Bg Jg
 have HB:=ja.mk (Below.refl w.heap.size w)
 have H:(Va.l0 k 0 Ta Pa Oa Ma Ra)=some r:=h
 clear h
 have H':=ja.mk H
 clear H
 go_enter Try.func53,Try.ntmps53
 go_wp2_with (first|((with_reducible refine Pb (N:=1) rfl ?_);(try (refine Wg (by rfl) ?_;dsimp only));refine Kb ?hg (N:=1) ?hd (cs:=#[.slice Eb Ta.length Db,.int .i64 Pa,.int .i64 Oa,.int .i64 Ma,.slice yc Ra.length Zb]) (t:=30) ?hr ?_;(case hd=>rfl);(case hg=>rfl);(case hr=>first|(go_simp;done)|(go_simp;rfl));intro Da hg w2 Yb hb;have Qb:=ja.mk (Na (by repeat (first|(with_reducible first|exact HB.out|apply qa|apply ia|apply ua)|exact HB.out)) hb);have uc:=ja.mk (Yb);have Qc:=ja.mk ((by rw [hg];exact (Qa (by repeat (first|(with_reducible first|exact HB.out|apply qa|apply ia|apply ua)|exact HB.out))):w.heap.size ≤ Da));have Td:=ja.mk ((by rw [hg];exact (Qa (by repeat (first|(with_reducible first|exact HB.out|apply qa|apply ia|apply ua)|exact HB.out))):w.heap.size ≤ Da));clear HB;have HB:=Qb;have za:=uc;have Vf:=Qc;have Wa:=Td;clear Qb uc Qc Td hb Yb hg))
 go_loopg [3] k (fun kq v3 w'=>∃ (uf:Int),v3 = .int .i64 uf∧ja (Va.l0 kq uf Ta Pa Oa Ma Ra=some r)∧ja (kq ≤ k)∧ja (w'.heap[Da]? = some (.cells #[(.slice Eb Ta.length Db),.int .i64 Pa,.int .i64 Oa,.int .i64 Ma,(.slice yc Ra.length Zb)] 30 (0,0)))∧ja (Below w.heap.size w w'))
 case atStart=>exact ⟨(0),(by first|rfl|(simp;done)|(simp [*];done)),H',⟨Nat.le_refl _⟩,⟨by (with_reducible repeat (first|refine Ga ?_ _|refine Ia ?_|refine Fa ?_ _));exact za.out⟩,⟨by repeat (first|(with_reducible first|exact HB.out|apply qa|apply ia|apply ua|refine Aa ?_ Wa.out)|exact HB.out)⟩⟩
 case round =>
  clear H'
  try clear p2
  (try clear HA)
  (try clear Ig)
  (try clear za)
  (try clear HB)
  obtain ⟨uf,rfl,HA,Ig,za,HB⟩:=hrel
  cases gk with
  | zero=>exact absurd HA.out (by simp [Va.l0])
  | succ k1 =>
   have H:=HA.out
   clear HA
   simp only [Va.l0] at H
   by_cases c3:uf < (Ta.length:Int)
   ·rw [if_pos c3] at H
    have Jh:decide (uf < (Ta.length:Int))=true:=decide_eq_true c3
    clear c3
    by_cases c4:0 ≤ uf
    ·rw [if_pos c4] at H
     have si:decide (0 ≤ uf)=true:=decide_eq_true c4
     clear c4
     replace H:=Option.bind_eq_some_iff.mp H
     obtain ⟨t103,OM,H⟩:=H
     replace H:(if t103=true then (Va.l0 k1 (wrap64 (uf + 1)) Ta Pa Oa Ma Ra) else (some false))=some r:=H
     have A5:=ja.mk OM
     clear OM
     by_cases c6:t103=true
     ·subst c6
      have H1:(Va.l0 k1 (wrap64 (uf + 1)) Ta Pa Oa Ma Ra)=some r:=by rw [if_pos rfl] at H;exact H
      clear H
      have H:=H1
      clear H1
      have H':=ja.mk H
      clear H
      have tr:wr.cell? ⟨Da,0,none⟩=some (.slice Eb Ta.length Db):=(ga za.out 0).trans rfl
      have sr:wr.cell? ⟨Da,1,none⟩=some (.int .i64 Pa):=(ga za.out 1).trans rfl
      have nr:wr.cell? ⟨Da,2,none⟩=some (.int .i64 Oa):=(ga za.out 2).trans rfl
      have kr:wr.cell? ⟨Da,3,none⟩=some (.int .i64 Ma):=(ga za.out 3).trans rfl
      have jr:wr.cell? ⟨Da,4,none⟩=some (.slice yc Ra.length Zb):=(ga za.out 4).trans rfl
      have Kq:=aa za.out 0
      have Jq:=aa za.out 1
      have Iq:=aa za.out 2
      have Hq:=aa za.out 3
      have Gq:=aa za.out 4
      have Jf:0 ≤ (uf:Int):=of_decide_eq_true (by first|(with_reducible assumption)|assumption)
      have Hf:uf < (Ta.length:Int):=of_decide_eq_true (by first|(with_reducible assumption)|assumption)
      obtain ⟨xe,gj,Rc⟩:=Kd.bq Uf.out uf Jf Hf
      cases gj
      replace Rc:=(HB.out.cell (World.block_lt_of_cell? w _ Rc)).trans Rc
      replace Jf:=eq_true Jf
      replace Hf:=eq_true Hf
      go_wp2_with (first|((with_reducible refine xb (f:=54) rfl ?_);refine qd (some 18) rfl rfl Try.func54 (by kernel_rfl) rfl #[.int .i64 (rd Ta uf),.int .i64 1,.int .i64 16] rfl (by (try simp only [List.map_toArray,List.map_cons,List.map_nil]);first|done|rfl|(simp only [List.length_drop,List.length_take];rfl)) ?_;(with_reducible refine (Za.calls (rd Ta uf) 1 16 true _ A5.out).mono ?_);rintro e w' ⟨rfl,⟨nd,rfl⟩⟩;refine ⟨_,rfl,?_⟩))
      go_roundg k1
      case measure=>have:=Ig.out;omega
      case rel=>exact ⟨(wrap64 (uf + 1)),(by first|rfl|(simp;done)|(simp [*];done)),H',⟨by have:=Ig.out;omega⟩,⟨by (with_reducible repeat (first|refine Ga ?_ _|refine Ia ?_|refine Fa ?_ _));exact za.out⟩,⟨by repeat (first|(with_reducible first|exact HB.out|apply qa|apply ia|apply ua|refine Aa ?_ Wa.out)|exact HB.out)⟩⟩
     ·replace c6:=Bool.eq_false_iff.mpr c6
      subst c6
      have H1:(some false)=some r:=by rw [if_neg (show ¬ (false=true) by decide)] at H;exact H
      clear H
      have H:=H1
      clear H1
      obtain rfl:=Option.some.inj H
      have wF:wr.cell? ⟨Da,0,none⟩=some (.slice Eb Ta.length Db):=(ga za.out 0).trans rfl
      have vF:wr.cell? ⟨Da,1,none⟩=some (.int .i64 Pa):=(ga za.out 1).trans rfl
      have uF:wr.cell? ⟨Da,2,none⟩=some (.int .i64 Oa):=(ga za.out 2).trans rfl
      have sF:wr.cell? ⟨Da,3,none⟩=some (.int .i64 Ma):=(ga za.out 3).trans rfl
      have rF:wr.cell? ⟨Da,4,none⟩=some (.slice yc Ra.length Zb):=(ga za.out 4).trans rfl
      have mF:=aa za.out 0
      have lF:=aa za.out 1
      have kF:=aa za.out 2
      have jF:=aa za.out 3
      have iF:=aa za.out 4
      have Jf:0 ≤ (uf:Int):=of_decide_eq_true (by first|(with_reducible assumption)|assumption)
      have Hf:uf < (Ta.length:Int):=of_decide_eq_true (by first|(with_reducible assumption)|assumption)
      obtain ⟨xe,gj,Rc⟩:=Kd.bq Uf.out uf Jf Hf
      cases gj
      replace Rc:=(HB.out.cell (World.block_lt_of_cell? w _ Rc)).trans Rc
      replace Jf:=eq_true Jf
      replace Hf:=eq_true Hf
      go_wp2_with (first|((with_reducible refine xb (f:=54) rfl ?_);refine qd (some 18) rfl rfl Try.func54 (by kernel_rfl) rfl #[.int .i64 (rd Ta uf),.int .i64 1,.int .i64 16] rfl (by (try simp only [List.map_toArray,List.map_cons,List.map_nil]);first|done|rfl|(simp only [List.length_drop,List.length_take];rfl)) ?_;(with_reducible refine (Za.calls (rd Ta uf) 1 16 false _ A5.out).mono ?_);rintro e w' ⟨rfl,⟨nd,rfl⟩⟩;refine ⟨_,rfl,?_⟩))
      go_ret
      exact ⟨by first|rfl|(simp [La,Ka] <;> rfl)|(simp [*,La,Ka] <;> rfl),by repeat (first|(with_reducible first|exact HB.out|apply qa|apply ia|apply ua|refine Aa ?_ Wa.out)|exact HB.out)⟩
    ·rw [if_neg c4] at H
     exact absurd H (by simp)
   ·rw [if_neg c3] at H
    have Jh:decide (uf < (Ta.length:Int))=false:=decide_eq_false c3
    clear c3
    have HC9:=ja.mk H
    clear H
    have Ak:wr.cell? ⟨Da,0,none⟩=some (.slice Eb Ta.length Db):=(ga za.out 0).trans rfl
    have zk:wr.cell? ⟨Da,1,none⟩=some (.int .i64 Pa):=(ga za.out 1).trans rfl
    have xk:wr.cell? ⟨Da,2,none⟩=some (.int .i64 Oa):=(ga za.out 2).trans rfl
    have wk:wr.cell? ⟨Da,3,none⟩=some (.int .i64 Ma):=(ga za.out 3).trans rfl
    have jl:wr.cell? ⟨Da,4,none⟩=some (.slice yc Ra.length Zb):=(ga za.out 4).trans rfl
    have vk:=aa za.out 0
    have uk:=aa za.out 1
    have qk:=aa za.out 2
    have nk:=aa za.out 3
    have Wk:=aa za.out 4
    go_upto_region 6 with (fail)
    go_cut [58] (fun v58 wc=>∃ (kq:Nat) (uG:Bool),v58 = .bool uG∧ja (Va.j1 kq uG Ta Pa Oa Ma Ra=some r)∧ja (kq ≤ k1)∧ja (wc.heap[Da]? = some (.cells #[(.slice Eb Ta.length Db),.int .i64 Pa,.int .i64 Oa,.int .i64 Ma,(.slice yc Ra.length Zb)] 30 (0,0)))∧ja (Below w.heap.size w wc))
    case first =>
     have H:=HC9.out
     clear HC9
     replace H:=Option.bind_eq_some_iff.mp H
     obtain ⟨t104,wE,H⟩:=H
     replace H:(if t104=true then ((Za.f Oa 0 20).bind fun t105=>(if t105=true then ((Za.f Pa 0 6).bind fun t106=>(if t106=true then (if Pa > Oa then (Va.j1 k1 true Ta Pa Oa Ma Ra) else ((Za.f Ma Oa 1000).bind fun t107=>(if t107=true then ((Za.f (Ra.length:Int) 1 300).bind fun t108=>(Va.j1 k1 (!t108) Ta Pa Oa Ma Ra)) else (Va.j1 k1 true Ta Pa Oa Ma Ra)))) else (Va.j1 k1 true Ta Pa Oa Ma Ra))) else (Va.j1 k1 true Ta Pa Oa Ma Ra))) else (Va.j1 k1 true Ta Pa Oa Ma Ra))=some r:=H
     have QM:=ja.mk wE
     clear wE
     by_cases c12:t104=true
     ·subst c12
      have H1:((Za.f Oa 0 20).bind fun t105=>(if t105=true then ((Za.f Pa 0 6).bind fun t106=>(if t106=true then (if Pa > Oa then (Va.j1 k1 true Ta Pa Oa Ma Ra) else ((Za.f Ma Oa 1000).bind fun t107=>(if t107=true then ((Za.f (Ra.length:Int) 1 300).bind fun t108=>(Va.j1 k1 (!t108) Ta Pa Oa Ma Ra)) else (Va.j1 k1 true Ta Pa Oa Ma Ra)))) else (Va.j1 k1 true Ta Pa Oa Ma Ra))) else (Va.j1 k1 true Ta Pa Oa Ma Ra)))=some r:=by rw [if_pos rfl] at H;exact H
      clear H
      have H:=H1
      clear H1
      replace H:=Option.bind_eq_some_iff.mp H
      obtain ⟨t105,j5,H⟩:=H
      replace H:(if t105=true then ((Za.f Pa 0 6).bind fun t106=>(if t106=true then (if Pa > Oa then (Va.j1 k1 true Ta Pa Oa Ma Ra) else ((Za.f Ma Oa 1000).bind fun t107=>(if t107=true then ((Za.f (Ra.length:Int) 1 300).bind fun t108=>(Va.j1 k1 (!t108) Ta Pa Oa Ma Ra)) else (Va.j1 k1 true Ta Pa Oa Ma Ra)))) else (Va.j1 k1 true Ta Pa Oa Ma Ra))) else (Va.j1 k1 true Ta Pa Oa Ma Ra))=some r:=H
      have m5:=ja.mk j5
      clear j5
      by_cases c14:t105=true
      ·subst c14
       have H1:((Za.f Pa 0 6).bind fun t106=>(if t106=true then (if Pa > Oa then (Va.j1 k1 true Ta Pa Oa Ma Ra) else ((Za.f Ma Oa 1000).bind fun t107=>(if t107=true then ((Za.f (Ra.length:Int) 1 300).bind fun t108=>(Va.j1 k1 (!t108) Ta Pa Oa Ma Ra)) else (Va.j1 k1 true Ta Pa Oa Ma Ra)))) else (Va.j1 k1 true Ta Pa Oa Ma Ra)))=some r:=by rw [if_pos rfl] at H;exact H
       clear H
       have H:=H1
       clear H1
       replace H:=Option.bind_eq_some_iff.mp H
       obtain ⟨t106,Z4,H⟩:=H
       replace H:(if t106=true then (if Pa > Oa then (Va.j1 k1 true Ta Pa Oa Ma Ra) else ((Za.f Ma Oa 1000).bind fun t107=>(if t107=true then ((Za.f (Ra.length:Int) 1 300).bind fun t108=>(Va.j1 k1 (!t108) Ta Pa Oa Ma Ra)) else (Va.j1 k1 true Ta Pa Oa Ma Ra)))) else (Va.j1 k1 true Ta Pa Oa Ma Ra))=some r:=H
       have A15:=ja.mk Z4
       clear Z4
       by_cases c16:t106=true
       ·subst c16
        have H1:(if Pa > Oa then (Va.j1 k1 true Ta Pa Oa Ma Ra) else ((Za.f Ma Oa 1000).bind fun t107=>(if t107=true then ((Za.f (Ra.length:Int) 1 300).bind fun t108=>(Va.j1 k1 (!t108) Ta Pa Oa Ma Ra)) else (Va.j1 k1 true Ta Pa Oa Ma Ra))))=some r:=by rw [if_pos rfl] at H;exact H
        clear H
        have H:=H1
        clear H1
        by_cases c17:Pa > Oa
        ·rw [if_pos c17] at H
         have jw:decide (Oa < Pa)=true:=decide_eq_true c17
         clear c17
         (first|rw [jw]|(simp only [Bb,Cb];rw [jw])|skip)
         have H':=ja.mk H
         clear H
         have Jr:wr.cell? ⟨Da,0,none⟩=some (.slice Eb Ta.length Db):=(ga za.out 0).trans rfl
         have Ir:wr.cell? ⟨Da,1,none⟩=some (.int .i64 Pa):=(ga za.out 1).trans rfl
         have Hr:wr.cell? ⟨Da,2,none⟩=some (.int .i64 Oa):=(ga za.out 2).trans rfl
         have Gr:wr.cell? ⟨Da,3,none⟩=some (.int .i64 Ma):=(ga za.out 3).trans rfl
         have Er:wr.cell? ⟨Da,4,none⟩=some (.slice yc Ra.length Zb):=(ga za.out 4).trans rfl
         have Wq:=aa za.out 0
         have Vq:=aa za.out 1
         have Uq:=aa za.out 2
         have Sq:=aa za.out 3
         have Rq:=aa za.out 4
         go_wp2_with (first|((with_reducible refine xb (f:=54) rfl ?_);refine qd (some 23) rfl rfl Try.func54 (by kernel_rfl) rfl #[.int .i64 (Ta.length:Int),.int .i64 1,.int .i64 4] rfl (by (try simp only [List.map_toArray,List.map_cons,List.map_nil]);first|done|rfl|(simp only [List.length_drop,List.length_take];rfl)) ?_;(with_reducible refine (Za.calls (Ta.length:Int) 1 4 true _ QM.out).mono ?_);rintro e w' ⟨rfl,⟨nd,rfl⟩⟩;refine ⟨_,rfl,?_⟩)|(go_at_call 54;(with_reducible refine (Za.calls Oa 0 20 true _ m5.out).mono ?_);rintro e w' ⟨rfl,⟨nd,rfl⟩⟩)|(go_at_call 54;(with_reducible refine (Za.calls Pa 0 6 true _ A15.out).mono ?_);rintro e w' ⟨rfl,⟨nd,rfl⟩⟩))
         go_meet
         case rel=>exact ⟨_,(true),(by first|rfl|(simp;done)|(simp [*];done)),H',⟨by have:=Ig.out;first|omega|exact Nat.le_refl _⟩,⟨by (with_reducible repeat (first|refine Ga ?_ _|refine Ia ?_|refine Fa ?_ _));exact za.out⟩,⟨by repeat (first|(with_reducible first|exact HB.out|apply qa|apply ia|apply ua|refine Aa ?_ Wa.out)|exact HB.out)⟩⟩
        ·rw [if_neg c17] at H
         have jw:decide (Oa < Pa)=false:=decide_eq_false c17
         clear c17
         (first|rw [jw]|(simp only [Bb,Cb];rw [jw])|skip)
         replace H:=Option.bind_eq_some_iff.mp H
         obtain ⟨t107,W4,H⟩:=H
         replace H:(if t107=true then ((Za.f (Ra.length:Int) 1 300).bind fun t108=>(Va.j1 k1 (!t108) Ta Pa Oa Ma Ra)) else (Va.j1 k1 true Ta Pa Oa Ma Ra))=some r:=H
         have A19:=ja.mk W4
         clear W4
         by_cases c20:t107=true
         ·subst c20
          have H1:((Za.f (Ra.length:Int) 1 300).bind fun t108=>(Va.j1 k1 (!t108) Ta Pa Oa Ma Ra))=some r:=by rw [if_pos rfl] at H;exact H
          clear H
          have H:=H1
          clear H1
          replace H:=Option.bind_eq_some_iff.mp H
          obtain ⟨t108,U4,H⟩:=H
          replace H:(Va.j1 k1 (!t108) Ta Pa Oa Ma Ra)=some r:=H
          have A21:=ja.mk U4
          clear U4
          have H':=ja.mk H
          clear H
          have Ov:wr.cell? ⟨Da,0,none⟩=some (.slice Eb Ta.length Db):=(ga za.out 0).trans rfl
          have Nv:wr.cell? ⟨Da,1,none⟩=some (.int .i64 Pa):=(ga za.out 1).trans rfl
          have Mv:wr.cell? ⟨Da,2,none⟩=some (.int .i64 Oa):=(ga za.out 2).trans rfl
          have Lv:wr.cell? ⟨Da,3,none⟩=some (.int .i64 Ma):=(ga za.out 3).trans rfl
          have Kv:wr.cell? ⟨Da,4,none⟩=some (.slice yc Ra.length Zb):=(ga za.out 4).trans rfl
          have Xu:=aa za.out 0
          have Wu:=aa za.out 1
          have Vu:=aa za.out 2
          have Uu:=aa za.out 3
          have Tu:=aa za.out 4
          go_wp2_with (first|((with_reducible refine xb (f:=54) rfl ?_);refine qd (some 23) rfl rfl Try.func54 (by kernel_rfl) rfl #[.int .i64 (Ta.length:Int),.int .i64 1,.int .i64 4] rfl (by (try simp only [List.map_toArray,List.map_cons,List.map_nil]);first|done|rfl|(simp only [List.length_drop,List.length_take];rfl)) ?_;(with_reducible refine (Za.calls (Ta.length:Int) 1 4 true _ QM.out).mono ?_);rintro e w' ⟨rfl,⟨nd,rfl⟩⟩;refine ⟨_,rfl,?_⟩)|(go_at_call 54;(with_reducible refine (Za.calls Oa 0 20 true _ m5.out).mono ?_);rintro e w' ⟨rfl,⟨nd,rfl⟩⟩)|(go_at_call 54;(with_reducible refine (Za.calls Pa 0 6 true _ A15.out).mono ?_);rintro e w' ⟨rfl,⟨nd,rfl⟩⟩)|(go_at_call 54;(with_reducible refine (Za.calls Ma Oa 1000 true _ A19.out).mono ?_);rintro e w' ⟨rfl,⟨nd,rfl⟩⟩)|(go_at_call 54;(with_reducible refine (Za.calls (Ra.length:Int) 1 300 t108 _ A21.out).mono ?_);rintro e w' ⟨rfl,⟨nd,rfl⟩⟩))
          go_meet
          case rel=>exact ⟨_,(!t108),(by first|rfl|(simp;done)|(simp [*];done)),H',⟨by have:=Ig.out;first|omega|exact Nat.le_refl _⟩,⟨by (with_reducible repeat (first|refine Ga ?_ _|refine Ia ?_|refine Fa ?_ _));exact za.out⟩,⟨by repeat (first|(with_reducible first|exact HB.out|apply qa|apply ia|apply ua|refine Aa ?_ Wa.out)|exact HB.out)⟩⟩
         ·replace c20:=Bool.eq_false_iff.mpr c20
          subst c20
          have H1:(Va.j1 k1 true Ta Pa Oa Ma Ra)=some r:=by rw [if_neg (show ¬ (false=true) by decide)] at H;exact H
          clear H
          have H:=H1
          clear H1
          have H':=ja.mk H
          clear H
          have Yk:wr.cell? ⟨Da,0,none⟩=some (.slice Eb Ta.length Db):=(ga za.out 0).trans rfl
          have Xk:wr.cell? ⟨Da,1,none⟩=some (.int .i64 Pa):=(ga za.out 1).trans rfl
          have Gp:wr.cell? ⟨Da,2,none⟩=some (.int .i64 Oa):=(ga za.out 2).trans rfl
          have Fp:wr.cell? ⟨Da,3,none⟩=some (.int .i64 Ma):=(ga za.out 3).trans rfl
          have Ep:wr.cell? ⟨Da,4,none⟩=some (.slice yc Ra.length Zb):=(ga za.out 4).trans rfl
          have Tk:=aa za.out 0
          have Sk:=aa za.out 1
          have yp:=aa za.out 2
          have xp:=aa za.out 3
          have vp:=aa za.out 4
          go_wp2_with (first|((with_reducible refine xb (f:=54) rfl ?_);refine qd (some 23) rfl rfl Try.func54 (by kernel_rfl) rfl #[.int .i64 (Ta.length:Int),.int .i64 1,.int .i64 4] rfl (by (try simp only [List.map_toArray,List.map_cons,List.map_nil]);first|done|rfl|(simp only [List.length_drop,List.length_take];rfl)) ?_;(with_reducible refine (Za.calls (Ta.length:Int) 1 4 true _ QM.out).mono ?_);rintro e w' ⟨rfl,⟨nd,rfl⟩⟩;refine ⟨_,rfl,?_⟩)|(go_at_call 54;(with_reducible refine (Za.calls Oa 0 20 true _ m5.out).mono ?_);rintro e w' ⟨rfl,⟨nd,rfl⟩⟩)|(go_at_call 54;(with_reducible refine (Za.calls Pa 0 6 true _ A15.out).mono ?_);rintro e w' ⟨rfl,⟨nd,rfl⟩⟩)|(go_at_call 54;(with_reducible refine (Za.calls Ma Oa 1000 false _ A19.out).mono ?_);rintro e w' ⟨rfl,⟨nd,rfl⟩⟩))
          go_meet
          case rel=>exact ⟨_,(true),(by first|rfl|(simp;done)|(simp [*];done)),H',⟨by have:=Ig.out;first|omega|exact Nat.le_refl _⟩,⟨by (with_reducible repeat (first|refine Ga ?_ _|refine Ia ?_|refine Fa ?_ _));exact za.out⟩,⟨by repeat (first|(with_reducible first|exact HB.out|apply qa|apply ia|apply ua|refine Aa ?_ Wa.out)|exact HB.out)⟩⟩
       ·replace c16:=Bool.eq_false_iff.mpr c16
        subst c16
        have H1:(Va.j1 k1 true Ta Pa Oa Ma Ra)=some r:=by rw [if_neg (show ¬ (false=true) by decide)] at H;exact H
        clear H
        have H:=H1
        clear H1
        have H':=ja.mk H
        clear H
        have Un:wr.cell? ⟨Da,0,none⟩=some (.slice Eb Ta.length Db):=(ga za.out 0).trans rfl
        have Tn:wr.cell? ⟨Da,1,none⟩=some (.int .i64 Pa):=(ga za.out 1).trans rfl
        have Jv:wr.cell? ⟨Da,2,none⟩=some (.int .i64 Oa):=(ga za.out 2).trans rfl
        have Iv:wr.cell? ⟨Da,3,none⟩=some (.int .i64 Ma):=(ga za.out 3).trans rfl
        have Hv:wr.cell? ⟨Da,4,none⟩=some (.slice yc Ra.length Zb):=(ga za.out 4).trans rfl
        have Pn:=aa za.out 0
        have Nn:=aa za.out 1
        have Su:=aa za.out 2
        have Ru:=aa za.out 3
        have Qu:=aa za.out 4
        go_wp2_with (first|((with_reducible refine xb (f:=54) rfl ?_);refine qd (some 23) rfl rfl Try.func54 (by kernel_rfl) rfl #[.int .i64 (Ta.length:Int),.int .i64 1,.int .i64 4] rfl (by (try simp only [List.map_toArray,List.map_cons,List.map_nil]);first|done|rfl|(simp only [List.length_drop,List.length_take];rfl)) ?_;(with_reducible refine (Za.calls (Ta.length:Int) 1 4 true _ QM.out).mono ?_);rintro e w' ⟨rfl,⟨nd,rfl⟩⟩;refine ⟨_,rfl,?_⟩)|(go_at_call 54;(with_reducible refine (Za.calls Oa 0 20 true _ m5.out).mono ?_);rintro e w' ⟨rfl,⟨nd,rfl⟩⟩)|(go_at_call 54;(with_reducible refine (Za.calls Pa 0 6 false _ A15.out).mono ?_);rintro e w' ⟨rfl,⟨nd,rfl⟩⟩))
        go_meet
        case rel=>exact ⟨_,(true),(by first|rfl|(simp;done)|(simp [*];done)),H',⟨by have:=Ig.out;first|omega|exact Nat.le_refl _⟩,⟨by (with_reducible repeat (first|refine Ga ?_ _|refine Ia ?_|refine Fa ?_ _));exact za.out⟩,⟨by repeat (first|(with_reducible first|exact HB.out|apply qa|apply ia|apply ua|refine Aa ?_ Wa.out)|exact HB.out)⟩⟩
      ·replace c14:=Bool.eq_false_iff.mpr c14
       subst c14
       have H1:(Va.j1 k1 true Ta Pa Oa Ma Ra)=some r:=by rw [if_neg (show ¬ (false=true) by decide)] at H;exact H
       clear H
       have H:=H1
       clear H1
       have H':=ja.mk H
       clear H
       have Br:wr.cell? ⟨Da,0,none⟩=some (.slice Eb Ta.length Db):=(ga za.out 0).trans rfl
       have Ar:wr.cell? ⟨Da,1,none⟩=some (.int .i64 Pa):=(ga za.out 1).trans rfl
       have vr:wr.cell? ⟨Da,2,none⟩=some (.int .i64 Oa):=(ga za.out 2).trans rfl
       have ur:wr.cell? ⟨Da,3,none⟩=some (.int .i64 Ma):=(ga za.out 3).trans rfl
       have Mt:wr.cell? ⟨Da,4,none⟩=some (.slice yc Ra.length Zb):=(ga za.out 4).trans rfl
       have Oq:=aa za.out 0
       have Nq:=aa za.out 1
       have Mq:=aa za.out 2
       have Lq:=aa za.out 3
       have Dt:=aa za.out 4
       go_wp2_with (first|((with_reducible refine xb (f:=54) rfl ?_);refine qd (some 23) rfl rfl Try.func54 (by kernel_rfl) rfl #[.int .i64 (Ta.length:Int),.int .i64 1,.int .i64 4] rfl (by (try simp only [List.map_toArray,List.map_cons,List.map_nil]);first|done|rfl|(simp only [List.length_drop,List.length_take];rfl)) ?_;(with_reducible refine (Za.calls (Ta.length:Int) 1 4 true _ QM.out).mono ?_);rintro e w' ⟨rfl,⟨nd,rfl⟩⟩;refine ⟨_,rfl,?_⟩)|(go_at_call 54;(with_reducible refine (Za.calls Oa 0 20 false _ m5.out).mono ?_);rintro e w' ⟨rfl,⟨nd,rfl⟩⟩))
       go_meet
       case rel=>exact ⟨_,(true),(by first|rfl|(simp;done)|(simp [*];done)),H',⟨by have:=Ig.out;first|omega|exact Nat.le_refl _⟩,⟨by (with_reducible repeat (first|refine Ga ?_ _|refine Ia ?_|refine Fa ?_ _));exact za.out⟩,⟨by repeat (first|(with_reducible first|exact HB.out|apply qa|apply ia|apply ua|refine Aa ?_ Wa.out)|exact HB.out)⟩⟩
     ·replace c12:=Bool.eq_false_iff.mpr c12
      subst c12
      have H1:(Va.j1 k1 true Ta Pa Oa Ma Ra)=some r:=by rw [if_neg (show ¬ (false=true) by decide)] at H;exact H
      clear H
      have H:=H1
      clear H1
      have H':=ja.mk H
      clear H
      have Lt:wr.cell? ⟨Da,0,none⟩=some (.slice Eb Ta.length Db):=(ga za.out 0).trans rfl
      have Kt:wr.cell? ⟨Da,1,none⟩=some (.int .i64 Pa):=(ga za.out 1).trans rfl
      have Jt:wr.cell? ⟨Da,2,none⟩=some (.int .i64 Oa):=(ga za.out 2).trans rfl
      have Ht:wr.cell? ⟨Da,3,none⟩=some (.int .i64 Ma):=(ga za.out 3).trans rfl
      have Gv:wr.cell? ⟨Da,4,none⟩=some (.slice yc Ra.length Zb):=(ga za.out 4).trans rfl
      have Ct:=aa za.out 0
      have Bt:=aa za.out 1
      have yt:=aa za.out 2
      have qt:=aa za.out 3
      have Pu:=aa za.out 4
      go_wp2_with (first|((with_reducible refine xb (f:=54) rfl ?_);refine qd (some 23) rfl rfl Try.func54 (by kernel_rfl) rfl #[.int .i64 (Ta.length:Int),.int .i64 1,.int .i64 4] rfl (by (try simp only [List.map_toArray,List.map_cons,List.map_nil]);first|done|rfl|(simp only [List.length_drop,List.length_take];rfl)) ?_;(with_reducible refine (Za.calls (Ta.length:Int) 1 4 false _ QM.out).mono ?_);rintro e w' ⟨rfl,⟨nd,rfl⟩⟩;refine ⟨_,rfl,?_⟩))
      go_meet
      case rel=>exact ⟨_,(true),(by first|rfl|(simp;done)|(simp [*];done)),H',⟨by have:=Ig.out;first|omega|exact Nat.le_refl _⟩,⟨by (with_reducible repeat (first|refine Ga ?_ _|refine Ia ?_|refine Fa ?_ _));exact za.out⟩,⟨by repeat (first|(with_reducible first|exact HB.out|apply qa|apply ia|apply ua|refine Aa ?_ Wa.out)|exact HB.out)⟩⟩
    case rest =>
     clear HC9
     try clear c1
     try clear p1
     try clear q1
     try clear hx1
     try clear c2
     try clear p2
     try clear c3
     try clear Jh
     try clear c4
     try clear si
     try clear c5
     try clear c6
     try clear p6
     try clear CG
     try clear BG
     try clear hx10
     try clear c12
     try clear c14
     try clear c16
     try clear c17
     try clear jw
     try clear c20
     try clear Ak
     try clear zk
     try clear xk
     try clear wk
     try clear jl
     try clear Jr
     try clear Ir
     try clear Hr
     try clear Gr
     try clear Er
     try clear Ov
     try clear Nv
     try clear Mv
     try clear Lv
     try clear Kv
     try clear Yk
     try clear Xk
     try clear Gp
     try clear Fp
     try clear Ep
     try clear Un
     try clear Tn
     try clear Jv
     try clear Iv
     try clear Hv
     try clear Br
     try clear Ar
     try clear vr
     try clear ur
     try clear Mt
     try clear Lt
     try clear Kt
     try clear Jt
     try clear Ht
     try clear Gv
     try clear tr
     try clear sr
     try clear nr
     try clear kr
     try clear jr
     try clear wF
     try clear vF
     try clear uF
     try clear sF
     try clear rF
     try clear vk
     try clear uk
     try clear qk
     try clear nk
     try clear Wk
     try clear Wq
     try clear Vq
     try clear Uq
     try clear Sq
     try clear Rq
     try clear Xu
     try clear Wu
     try clear Vu
     try clear Uu
     try clear Tu
     try clear Tk
     try clear Sk
     try clear yp
     try clear xp
     try clear vp
     try clear Pn
     try clear Nn
     try clear Su
     try clear Ru
     try clear Qu
     try clear Oq
     try clear Nq
     try clear Mq
     try clear Lq
     try clear Dt
     try clear Ct
     try clear Bt
     try clear yt
     try clear qt
     try clear Pu
     try clear Kq
     try clear Jq
     try clear Iq
     try clear Hq
     try clear Gq
     try clear mF
     try clear lF
     try clear kF
     try clear jF
     try clear iF
     try clear Rc
     try clear Jf
     try clear p2
     try clear Hf
     obtain ⟨kq,uG,rfl,HA,HJ8,za,HB⟩:=hcut
     cases kq with
     | zero=>exact absurd HA.out (by simp [Va.j1])
     | succ kj8 =>
      have H:=HA.out
      clear HA
      simp only [Va.j1] at H
      by_cases c27:uG=true
      ·subst c27
       have H1:(some false)=some r:=by rw [if_pos rfl] at H;exact H
       clear H
       have H:=H1
       clear H1
       obtain rfl:=Option.some.inj H
       go_wp2
       go_ret
       exact ⟨by first|rfl|(simp [La,Ka] <;> rfl)|(simp [*,La,Ka] <;> rfl),by repeat (first|(with_reducible first|exact HB.out|apply qa|apply ia|apply ua|refine Aa ?_ Wa.out)|exact HB.out)⟩
      ·replace c27:=Bool.eq_false_iff.mpr c27
       subst c27
       have H1:(Va.l1 kj8 0 0 Ta Pa Oa Ma Ra)=some r:=by rw [if_neg (show ¬ (false=true) by decide)] at H;exact H
       clear H
       have H:=H1
       clear H1
       have H':=ja.mk H
       clear H
       go_wp2
       go_loopg [4,5] kj8 (fun kq v4 v5 w'=>∃ (NA:Int) (Nf:Int),v4 = .int .i64 NA∧v5 = .int .i64 Nf∧ja (Va.l1 kq NA Nf Ta Pa Oa Ma Ra=some r)∧ja (kq ≤ kj8)∧ja (w'.heap[Da]? = some (.cells #[(.slice Eb Ta.length Db),.int .i64 Pa,.int .i64 Oa,.int .i64 Ma,(.slice yc Ra.length Zb)] 30 (0,0)))∧ja (Below w.heap.size w w'))
       case atStart=>exact ⟨(0),(0),(by first|rfl|(simp;done)|(simp [*];done)),(by first|rfl|(simp;done)|(simp [*];done)),H',⟨Nat.le_refl _⟩,⟨by (with_reducible repeat (first|refine Ga ?_ _|refine Ia ?_|refine Fa ?_ _));exact za.out⟩,⟨by repeat (first|(with_reducible first|exact HB.out|apply qa|apply ia|apply ua|refine Aa ?_ Wa.out)|exact HB.out)⟩⟩
       case round =>
        clear H'
        try clear c1
        try clear p1
        try clear q1
        try clear hx1
        try clear c2
        try clear p2
        try clear c3
        try clear Jh
        try clear c4
        try clear si
        try clear c5
        try clear c6
        try clear p6
        try clear CG
        try clear BG
        try clear hx10
        try clear c12
        try clear c14
        try clear c16
        try clear c17
        try clear jw
        try clear c20
        try clear c27
        try clear Ak
        try clear zk
        try clear xk
        try clear wk
        try clear jl
        try clear Jr
        try clear Ir
        try clear Hr
        try clear Gr
        try clear Er
        try clear Ov
        try clear Nv
        try clear Mv
        try clear Lv
        try clear Kv
        try clear Yk
        try clear Xk
        try clear Gp
        try clear Fp
        try clear Ep
        try clear Un
        try clear Tn
        try clear Jv
        try clear Iv
        try clear Hv
        try clear Br
        try clear Ar
        try clear vr
        try clear ur
        try clear Mt
        try clear Lt
        try clear Kt
        try clear Jt
        try clear Ht
        try clear Gv
        try clear tr
        try clear sr
        try clear nr
        try clear kr
        try clear jr
        try clear wF
        try clear vF
        try clear uF
        try clear sF
        try clear rF
        try clear vk
        try clear uk
        try clear qk
        try clear nk
        try clear Wk
        try clear Wq
        try clear Vq
        try clear Uq
        try clear Sq
        try clear Rq
        try clear Xu
        try clear Wu
        try clear Vu
        try clear Uu
        try clear Tu
        try clear Tk
        try clear Sk
        try clear yp
        try clear xp
        try clear vp
        try clear Pn
        try clear Nn
        try clear Su
        try clear Ru
        try clear Qu
        try clear Oq
        try clear Nq
        try clear Mq
        try clear Lq
        try clear Dt
        try clear Ct
        try clear Bt
        try clear yt
        try clear qt
        try clear Pu
        try clear Kq
        try clear Jq
        try clear Iq
        try clear Hq
        try clear Gq
        try clear mF
        try clear lF
        try clear kF
        try clear jF
        try clear iF
        try clear Rc
        try clear p1
        try clear CG
        try clear Jf
        try clear p2
        try clear p6
        try clear q1
        try clear BG
        try clear Hf
        (try clear HA)
        (try clear rV)
        (try clear za)
        (try clear HB)
        obtain ⟨NA,Nf,rfl,rfl,HA,rV,za,HB⟩:=hrel
        cases gk with
        | zero=>exact absurd HA.out (by simp [Va.l1])
        | succ k3 =>
         have H:=HA.out
         clear HA
         simp only [Va.l1] at H
         by_cases c28:Nf < (Ra.length:Int)
         ·rw [if_pos c28] at H
          have G2:decide (Nf < (Ra.length:Int))=true:=decide_eq_true c28
          clear c28
          by_cases c29:0 ≤ Nf
          ·rw [if_pos c29] at H
           have Dz:decide (0 ≤ Nf)=true:=decide_eq_true c29
           clear c29
           by_cases c30:(wrap64 (NA + (((Ua Ra Nf).f0).length:Int))) > 1000
           ·rw [if_pos c30] at H
            have bJ:decide (1000 < (wrap64 (NA + (((Ua Ra Nf).f0).length:Int))))=true:=decide_eq_true c30
            clear c30
            obtain rfl:=Option.some.inj H
            have zy:wr.cell? ⟨Da,0,none⟩=some (.slice Eb Ta.length Db):=(ga za.out 0).trans rfl
            have yy:wr.cell? ⟨Da,1,none⟩=some (.int .i64 Pa):=(ga za.out 1).trans rfl
            have xy:wr.cell? ⟨Da,2,none⟩=some (.int .i64 Oa):=(ga za.out 2).trans rfl
            have uy:wr.cell? ⟨Da,3,none⟩=some (.int .i64 Ma):=(ga za.out 3).trans rfl
            have CC:wr.cell? ⟨Da,4,none⟩=some (.slice yc Ra.length Zb):=(ga za.out 4).trans rfl
            have Tx:=aa za.out 0
            have Sx:=aa za.out 1
            have Rx:=aa za.out 2
            have Qx:=aa za.out 3
            have PB:=aa za.out 4
            have Yy:0 ≤ (Nf:Int):=of_decide_eq_true (by first|(with_reducible assumption)|assumption)
            have Xy:Nf < (Ra.length:Int):=of_decide_eq_true (by first|(with_reducible assumption)|assumption)
            obtain ⟨Ti,RM,lM,YL,Nl,Ml,Ll,Kl,Jl,gp,qp⟩:=Zf Zg.out Nf Yy Xy
            cases YL
            replace Nl:=(HB.out.cell (World.block_lt_of_cell? w _ Nl)).trans Nl
            replace Ml:=(HB.out.cell (World.block_lt_of_cell? w _ Ml)).trans Ml
            replace Ll:=(HB.out.cell (World.block_lt_of_cell? w _ Ll)).trans Ll
            replace Kl:=(HB.out.cell (World.block_lt_of_cell? w _ Kl)).trans Kl
            replace Jl:=(HB.out.cell (World.block_lt_of_cell? w _ Jl)).trans Jl
            have nJ:=ja.mk qp
            have xJ:=ja.mk gp
            clear qp gp
            replace Yy:=eq_true Yy
            replace Xy:=eq_true Xy
            try go_wp2
            have Qb:=ja.mk (Ia za.out)
            have uc:=ja.mk (ua HB.out)
            clear za HB
            have za:=Qb
            have HB:=uc
            clear Qb uc
            refine Oi (n:=12) (S:=fun w'=>True) (ds:=[]) #[false,false,false,false,false,false,false,false,false,false,false,false] (by kernel_rfl) rfl rfl trivial (fun hHeld=>?_);refine Xh Va.wK Va.ZF (fun cg Vr=>?_)
            generalize wr.drew=w32 at za HB hHeld ⊢
            refine Nc (i:=0) (N:=some 75) (v:=?_) (a':=?_) #[true,false,false,false,false,false,false,false,false,false,false,false] rfl rfl (ud cg.out (by kernel_rfl)) (fun _ _ _ h=>h) (Or.inl ⟨by rfl,?_⟩) ?_ ?_
            rotate_left
            ·intro w'
             go_simp
             with_reducible rfl
            rotate_left
            ·simp only [Act.put,List.setIfInBounds_toArray,List.set_cons_zero,List.set_cons_succ,Bb,Cb]
             rfl
            refine Nc (i:=1) (N:=some 76) (v:=?_) (a':=?_) #[true,true,false,false,false,false,false,false,false,false,false,false] rfl rfl (ud cg.out (by kernel_rfl)) (fun _ _ _ h=>h) (Or.inl ⟨by rfl,?_⟩) ?_ ?_
            rotate_left
            ·intro w'
             go_simp
             with_reducible rfl
            rotate_left
            ·simp only [Act.put,List.setIfInBounds_toArray,List.set_cons_zero,List.set_cons_succ,Bb,Cb]
             rfl
            refine Nc (i:=2) (N:=some 77) (v:=?_) (a':=?_) #[true,true,true,false,false,false,false,false,false,false,false,false] rfl rfl (ud cg.out (by kernel_rfl)) (fun _ _ _ h=>h) (Or.inl ⟨by rfl,?_⟩) ?_ ?_
            rotate_left
            ·intro w'
             go_simp
             with_reducible rfl
            rotate_left
            ·simp only [Act.put,List.setIfInBounds_toArray,List.set_cons_zero,List.set_cons_succ,Bb,Cb]
             rfl
            refine Nc (i:=3) (N:=some 78) (v:=undef) (a':=?_) #[true,true,true,true,false,false,false,false,false,false,false,false] rfl rfl (ud cg.out (by kernel_rfl)) (fun _ _ _ h=>h) (Or.inr ⟨by rfl,rfl⟩) ?_ ?_
            rotate_left
            ·simp only [Act.put,List.setIfInBounds_toArray,List.set_cons_zero,List.set_cons_succ,Bb,Cb]
             rfl
            refine Nc (i:=4) (N:=some 79) (v:=undef) (a':=?_) #[true,true,true,true,true,false,false,false,false,false,false,false] rfl rfl (ud cg.out (by kernel_rfl)) (fun _ _ _ h=>h) (Or.inr ⟨by rfl,rfl⟩) ?_ ?_
            rotate_left
            ·simp only [Act.put,List.setIfInBounds_toArray,List.set_cons_zero,List.set_cons_succ,Bb,Cb]
             rfl
            refine Nc (i:=5) (N:=some 80) (v:=undef) (a':=?_) #[true,true,true,true,true,true,false,false,false,false,false,false] rfl rfl (ud cg.out (by kernel_rfl)) (fun _ _ _ h=>h) (Or.inr ⟨by rfl,rfl⟩) ?_ ?_
            rotate_left
            ·simp only [Act.put,List.setIfInBounds_toArray,List.set_cons_zero,List.set_cons_succ,Bb,Cb]
             rfl
            refine Nc (i:=6) (N:=some 81) (v:=undef) (a':=?_) #[true,true,true,true,true,true,true,false,false,false,false,false] rfl rfl (ud cg.out (by kernel_rfl)) (fun _ _ _ h=>h) (Or.inr ⟨by rfl,rfl⟩) ?_ ?_
            rotate_left
            ·simp only [Act.put,List.setIfInBounds_toArray,List.set_cons_zero,List.set_cons_succ,Bb,Cb]
             rfl
            refine Nc (i:=7) (N:=some 82) (v:=undef) (a':=?_) #[true,true,true,true,true,true,true,true,false,false,false,false] rfl rfl (ud cg.out (by kernel_rfl)) (fun _ _ _ h=>h) (Or.inr ⟨by rfl,rfl⟩) ?_ ?_
            rotate_left
            ·simp only [Act.put,List.setIfInBounds_toArray,List.set_cons_zero,List.set_cons_succ,Bb,Cb]
             rfl
            refine Nc (i:=8) (N:=some 83) (v:=undef) (a':=?_) #[true,true,true,true,true,true,true,true,true,false,false,false] rfl rfl (ud cg.out (by kernel_rfl)) (fun _ _ _ h=>h) (Or.inr ⟨by rfl,rfl⟩) ?_ ?_
            rotate_left
            ·simp only [Act.put,List.setIfInBounds_toArray,List.set_cons_zero,List.set_cons_succ,Bb,Cb]
             rfl
            refine Nc (i:=9) (N:=some 84) (v:=undef) (a':=?_) #[true,true,true,true,true,true,true,true,true,true,false,false] rfl rfl (ud cg.out (by kernel_rfl)) (fun _ _ _ h=>h) (Or.inr ⟨by rfl,rfl⟩) ?_ ?_
            rotate_left
            ·simp only [Act.put,List.setIfInBounds_toArray,List.set_cons_zero,List.set_cons_succ,Bb,Cb]
             rfl
            refine Nc (i:=10) (N:=some 85) (v:=undef) (a':=?_) #[true,true,true,true,true,true,true,true,true,true,true,false] rfl rfl (ud cg.out (by kernel_rfl)) (fun _ _ _ h=>h) (Or.inr ⟨by rfl,rfl⟩) ?_ ?_
            rotate_left
            ·simp only [Act.put,List.setIfInBounds_toArray,List.set_cons_zero,List.set_cons_succ,Bb,Cb]
             rfl
            refine Nc (i:=11) (N:=some 86) (v:=?_) (a':=?_) #[true,true,true,true,true,true,true,true,true,true,true,true] rfl rfl (ud cg.out (by kernel_rfl)) (fun _ _ _ h=>h) (Or.inl ⟨by rfl,?_⟩) ?_ ?_
            rotate_left
            ·intro w'
             go_simp
             with_reducible rfl
            rotate_left
            ·simp only [Act.put,List.setIfInBounds_toArray,List.set_cons_zero,List.set_cons_succ,Bb,Cb]
             rfl
            refine Mk (Bk cg.out (by kernel_rfl)) ?_
            try go_wp2
            go_ret
            exact ⟨by first|rfl|(simp [La,Ka] <;> rfl)|(simp [*,La,Ka] <;> rfl),by repeat (first|(with_reducible first|exact HB.out|apply qa|apply ia|apply ua|refine Aa ?_ Wa.out)|exact HB.out)⟩
           ·rw [if_neg c30] at H
            have bJ:decide (1000 < (wrap64 (NA + (((Ua Ra Nf).f0).length:Int))))=false:=decide_eq_false c30
            clear c30
            replace H:=Option.bind_eq_some_iff.mp H
            obtain ⟨t111,P4,H⟩:=H
            replace H:(if t111=true then (Va.l1 k3 (wrap64 (NA + (((Ua Ra Nf).f0).length:Int))) (wrap64 (Nf + 1)) Ta Pa Oa Ma Ra) else (some false))=some r:=H
            have A33:=ja.mk P4
            clear P4
            by_cases c34:t111=true
            ·subst c34
             have H1:(Va.l1 k3 (wrap64 (NA + (((Ua Ra Nf).f0).length:Int))) (wrap64 (Nf + 1)) Ta Pa Oa Ma Ra)=some r:=by rw [if_pos rfl] at H;exact H
             clear H
             have H:=H1
             clear H1
             have H':=ja.mk H
             clear H
             have sy:wr.cell? ⟨Da,0,none⟩=some (.slice Eb Ta.length Db):=(ga za.out 0).trans rfl
             have ry:wr.cell? ⟨Da,1,none⟩=some (.int .i64 Pa):=(ga za.out 1).trans rfl
             have KP:wr.cell? ⟨Da,2,none⟩=some (.int .i64 Oa):=(ga za.out 2).trans rfl
             have JP:wr.cell? ⟨Da,3,none⟩=some (.int .i64 Ma):=(ga za.out 3).trans rfl
             have IP:wr.cell? ⟨Da,4,none⟩=some (.slice yc Ra.length Zb):=(ga za.out 4).trans rfl
             have Px:=aa za.out 0
             have Ox:=aa za.out 1
             have zO:=aa za.out 2
             have yO:=aa za.out 3
             have xO:=aa za.out 4
             have Yy:0 ≤ (Nf:Int):=of_decide_eq_true (by first|(with_reducible assumption)|assumption)
             have Xy:Nf < (Ra.length:Int):=of_decide_eq_true (by first|(with_reducible assumption)|assumption)
             obtain ⟨Ti,RM,lM,YL,Nl,Ml,Ll,Kl,Jl,gp,qp⟩:=Zf Zg.out Nf Yy Xy
             cases YL
             replace Nl:=(HB.out.cell (World.block_lt_of_cell? w _ Nl)).trans Nl
             replace Ml:=(HB.out.cell (World.block_lt_of_cell? w _ Ml)).trans Ml
             replace Ll:=(HB.out.cell (World.block_lt_of_cell? w _ Ll)).trans Ll
             replace Kl:=(HB.out.cell (World.block_lt_of_cell? w _ Kl)).trans Kl
             replace Jl:=(HB.out.cell (World.block_lt_of_cell? w _ Jl)).trans Jl
             have nJ:=ja.mk qp
             have xJ:=ja.mk gp
             clear qp gp
             replace Yy:=eq_true Yy
             replace Xy:=eq_true Xy
             try go_wp2
             have Qb:=ja.mk (Ia za.out)
             have uc:=ja.mk (ua HB.out)
             clear za HB
             have za:=Qb
             have HB:=uc
             clear Qb uc
             have Ax:0 ≤ (Nf:Int):=of_decide_eq_true (by first|(with_reducible assumption)|assumption)
             have zx:Nf < (Ra.length:Int):=of_decide_eq_true (by first|(with_reducible assumption)|assumption)
             obtain ⟨Hz,Uw,Iw,XL,Zi,Yi,Xi,Wi,Vi,ep,lp⟩:=Zf Zg.out Nf Ax zx
             have Vm:=Vi
             have Wm:=Wi
             have Xm:=Xi
             have Ym:=Yi
             have Zm:=Zi
             obtain rfl:Ti=Hz:=(by injection XL)
             replace Zi:=(HB.out.cell (World.block_lt_of_cell? w _ Zi)).trans Zi
             replace Yi:=(HB.out.cell (World.block_lt_of_cell? w _ Yi)).trans Yi
             replace Xi:=(HB.out.cell (World.block_lt_of_cell? w _ Xi)).trans Xi
             replace Wi:=(HB.out.cell (World.block_lt_of_cell? w _ Wi)).trans Wi
             replace Vi:=(HB.out.cell (World.block_lt_of_cell? w _ Vi)).trans Vi
             have Pp:=ja.mk lp
             have Ky:=ja.mk ep
             clear lp ep
             replace Ax:=eq_true Ax
             replace zx:=eq_true zx
             refine Oi (n:=12) (S:=fun w'=>w'.cell? ⟨Da,0,none⟩=some (.slice Eb Ta.length Db)∧w'.cell? ⟨Da,1,none⟩=some (.int .i64 Pa)∧w'.cell? ⟨Da,2,none⟩=some (.int .i64 Oa)∧w'.cell? ⟨Da,3,none⟩=some (.int .i64 Ma)∧w'.cell? ⟨Da,4,none⟩=some (.slice (some Ti) Ra.length Zb)∧w'.cell? (Ti.add ((Nf).toNat * 5))=some (.slice Uw ((Ua Ra Nf).f0).length Iw)∧w'.cell? ⟨(Ti.add ((Nf).toNat * 5)).block,(Ti.add ((Nf).toNat * 5)).off + 1,none⟩=some (.int .i64 ((Ua Ra Nf).f1))∧w'.cell? ⟨(Ti.add ((Nf).toNat * 5)).block,(Ti.add ((Nf).toNat * 5)).off + 2,none⟩=some (.int .i64 ((Ua Ra Nf).f2))∧w'.cell? ⟨(Ti.add ((Nf).toNat * 5)).block,(Ti.add ((Nf).toNat * 5)).off + 3,none⟩=some (.int .i64 ((Ua Ra Nf).f3))∧w'.cell? ⟨(Ti.add ((Nf).toNat * 5)).block,(Ti.add ((Nf).toNat * 5)).off + 4,none⟩=some (.int .i64 ((Ua Ra Nf).f4))) (ds:=[]) #[false,false,false,false,false,false,false,false,false,false,false,false] (by kernel_rfl) rfl rfl ⟨(ga za.out 0).trans rfl,(ga za.out 1).trans rfl,(ga za.out 2).trans rfl,(ga za.out 3).trans rfl,(ga za.out 4).trans rfl,((HB.out.cell (World.block_lt_of_cell? w _ Zm)).trans Zm),((HB.out.cell (World.block_lt_of_cell? w _ Ym)).trans Ym),((HB.out.cell (World.block_lt_of_cell? w _ Xm)).trans Xm),((HB.out.cell (World.block_lt_of_cell? w _ Wm)).trans Wm),((HB.out.cell (World.block_lt_of_cell? w _ Vm)).trans Vm)⟩ (fun hHeld=>?_);refine Xh Va.wK Va.ZF (fun cg Vr=>?_)
             generalize wr.drew=EE at za HB Pp Zi Yi Xi Wi Vi hHeld ⊢
             refine Nc (i:=0) (N:=some 75) (v:=?_) (a':=?_) #[true,false,false,false,false,false,false,false,false,false,false,false] rfl rfl (ud cg.out (by kernel_rfl)) (fun _ _ _ h=>h) (Or.inl ⟨by rfl,?_⟩) ?_ ?_
             rotate_left
             ·intro w'
              go_simp
              with_reducible rfl
             rotate_left
             ·simp only [Act.put,List.setIfInBounds_toArray,List.set_cons_zero,List.set_cons_succ,Bb,Cb]
              rfl
             refine Nc (i:=1) (N:=some 76) (v:=?_) (a':=?_) #[true,true,false,false,false,false,false,false,false,false,false,false] rfl rfl (ud cg.out (by kernel_rfl)) (fun _ _ _ h=>h) (Or.inl ⟨by rfl,?_⟩) ?_ ?_
             rotate_left
             ·intro w'
              go_simp
              with_reducible rfl
             rotate_left
             ·simp only [Act.put,List.setIfInBounds_toArray,List.set_cons_zero,List.set_cons_succ,Bb,Cb]
              rfl
             refine Nc (i:=2) (N:=some 77) (v:=?_) (a':=?_) #[true,true,true,false,false,false,false,false,false,false,false,false] rfl rfl (ud cg.out (by kernel_rfl)) (fun _ _ _ h=>h) (Or.inl ⟨by rfl,?_⟩) ?_ ?_
             rotate_left
             ·intro w'
              go_simp
              with_reducible rfl
             rotate_left
             ·simp only [Act.put,List.setIfInBounds_toArray,List.set_cons_zero,List.set_cons_succ,Bb,Cb]
              rfl
             refine Nc (i:=4) (N:=some 79) (v:=?_) (a':=?_) #[true,true,true,false,true,false,false,false,false,false,false,false] rfl rfl (ud cg.out (by kernel_rfl)) (fun _ _ _ h=>h) (Or.inl ⟨by rfl,?_⟩) ?_ ?_
             rotate_left
             ·intro w'
              go_simp
              with_reducible rfl
             rotate_left
             ·simp only [Act.put,List.setIfInBounds_toArray,List.set_cons_zero,List.set_cons_succ,Bb,Cb]
              rfl
             refine Nc (i:=6) (N:=some 81) (v:=?_) (a':=?_) #[true,true,true,false,true,false,true,false,false,false,false,false] rfl rfl (ud cg.out (by kernel_rfl)) (fun _ _ _ h=>h) (Or.inl ⟨by rfl,?_⟩) ?_ ?_
             rotate_left
             ·intro w'
              go_simp
              with_reducible rfl
             rotate_left
             ·simp only [Act.put,List.setIfInBounds_toArray,List.set_cons_zero,List.set_cons_succ,Bb,Cb]
              rfl
             refine Lf (i:=3) (N:=some 78) (v:=?_) (a':=?_) #[true,true,true,true,true,false,true,false,false,false,false,false] rfl rfl (Pf cg.out Vr.out (by kernel_rfl)) (fun _ _ _ h=>h) (Or.inl ⟨by rfl,?_⟩) hHeld ?_ ?_
             rotate_left
             ·rintro w' ⟨s0,s1,s2,s3,s4,s5,s6,s7,s8,s9⟩
              go_simp
              with_reducible rfl
             rotate_left
             ·simp only [Act.put,List.setIfInBounds_toArray,List.set_cons_zero,List.set_cons_succ,Bb,Cb]
              rfl
             refine Lf (i:=5) (N:=some 80) (v:=?_) (a':=?_) #[true,true,true,true,true,true,true,false,false,false,false,false] rfl rfl (Pf cg.out Vr.out (by kernel_rfl)) (fun _ _ _ h=>h) (Or.inl ⟨by rfl,?_⟩) hHeld ?_ ?_
             rotate_left
             ·rintro w' ⟨s0,s1,s2,s3,s4,s5,s6,s7,s8,s9⟩
              go_simp
              with_reducible rfl
             rotate_left
             ·simp only [Act.put,List.setIfInBounds_toArray,List.set_cons_zero,List.set_cons_succ,Bb,Cb]
              rfl
             refine Nc (i:=7) (N:=some 82) (v:=?_) (a':=?_) #[true,true,true,true,true,true,true,true,false,false,false,false] rfl rfl (ud cg.out (by kernel_rfl)) (fun _ _ _ h=>h) (Or.inl ⟨by rfl,?_⟩) ?_ ?_
             rotate_left
             ·intro w'
              go_simp
              with_reducible rfl
             rotate_left
             ·simp only [Act.put,List.setIfInBounds_toArray,List.set_cons_zero,List.set_cons_succ,Bb,Cb]
              rfl
             refine Lf (i:=8) (N:=some 83) (v:=?_) (a':=?_) #[true,true,true,true,true,true,true,true,true,false,false,false] rfl rfl (Pf cg.out Vr.out (by kernel_rfl)) (fun _ _ _ h=>h) (Or.inl ⟨by rfl,?_⟩) hHeld ?_ ?_
             rotate_left
             ·rintro w' ⟨s0,s1,s2,s3,s4,s5,s6,s7,s8,s9⟩
              go_simp
              with_reducible rfl
             rotate_left
             ·simp only [Act.put,List.setIfInBounds_toArray,List.set_cons_zero,List.set_cons_succ,Bb,Cb]
              rfl
             refine gm (i:=9) (N:=some 84) #[true,true,true,true,true,true,true,true,true,true,false,false] rfl rfl (Pm cg.out (by kernel_rfl)) (by decide) (fun K hK=>?_)
             refine Qm Try.func87 (by kernel_rfl) rfl #[.agg #[.slice Eb Ta.length Db,.int .i64 Pa,.int .i64 Oa,.int .i64 Ma,.slice (some Ti) Ra.length Zb],.agg #[.slice Uw ((Ua Ra Nf).f0).length Iw,.int .i64 ((Ua Ra Nf).f1),.int .i64 ((Ua Ra Nf).f2),.int .i64 ((Ua Ra Nf).f3),.int .i64 ((Ua Ra Nf).f4)]] (by rfl) rfl rfl (by (try simp only [List.map_toArray,List.map_cons,List.map_nil]);first|done|rfl|(simp only [List.length_drop,List.length_take];rfl)) ?_
             with_reducible refine (Gb.calls k3 _ _ Ta Pa Oa Ma _ _ Ra _ _ ((Ua Ra Nf).f0) ((Ua Ra Nf).f1) ((Ua Ra Nf).f2) ((Ua Ra Nf).f3) ((Ua Ra Nf).f4) true _ ?side1 ?side2 ?side3 ?side4 ?side5 ?side6 A33.out).mono ?_
             (case side1=>repeat (first|exact (Kd.Mb Uf.out HB.out)|(with_reducible refine Kd.Lc ?_ _)|(with_reducible refine Kd.Jc ?_ _)|(with_reducible refine Kd.Ed ?_)))
             (case side2=>exact ig.out)
             (case side3=>repeat (first|exact (Kd.Mb Zg.out HB.out)|(with_reducible refine Kd.Lc ?_ _)|(with_reducible refine Kd.Jc ?_ _)|(with_reducible refine Kd.Ed ?_)))
             (case side4=>exact Li.out)
             (case side5=>repeat (first|exact (Kd.Mb Pp.out HB.out)|(with_reducible refine Kd.Lc ?_ _)|(with_reducible refine Kd.Jc ?_ _)|(with_reducible refine Kd.Ed ?_)))
             (case side6=>exact Ky.out)
             rintro e w37 ⟨rfl,hb⟩
             refine ⟨_,rfl,?_⟩
             have Qb:=ja.mk (Ya (g:=Da) (o:=.cells #[.slice Eb Ta.length Db,.int .i64 Pa,.int .i64 Oa,.int .i64 Ma,.slice (some Ti) Ra.length Zb] 30 (0,0)) (by (with_reducible repeat (first|refine Ga ?_ _|refine Ia ?_|refine Fa ?_ _));exact za.out) hb)
             have uc:=ja.mk (Na (by repeat (first|(with_reducible first|exact HB.out|apply qa|apply ia|apply ua|refine Aa ?_ Wa.out)|exact HB.out)) hb)
             clear za HB
             have za:=Qb
             have HB:=uc
             clear Qb uc
             (try clear hb)
             (try clear hb2)
             (try clear hk)
             (try clear hi)
             refine hK.out _ _ ⟨(ga za.out 0).trans rfl,(ga za.out 1).trans rfl,(ga za.out 2).trans rfl,(ga za.out 3).trans rfl,(ga za.out 4).trans rfl,((HB.out.cell (World.block_lt_of_cell? w _ Zm)).trans Zm),((HB.out.cell (World.block_lt_of_cell? w _ Ym)).trans Ym),((HB.out.cell (World.block_lt_of_cell? w _ Xm)).trans Xm),((HB.out.cell (World.block_lt_of_cell? w _ Wm)).trans Wm),((HB.out.cell (World.block_lt_of_cell? w _ Vm)).trans Vm)⟩ (fun hHeld=>?_)
             clear hK K
             refine Mg (a':=?_) ?_ ?_
             rotate_left
             ·show Act.put _ (some 84) _=_
              simp only [Act.put,List.setIfInBounds_toArray,List.set_cons_zero,List.set_cons_succ,Bb,Cb]
              rfl
             refine Nc (i:=10) (N:=some 85) (v:=?_) (a':=?_) #[true,true,true,true,true,true,true,true,true,true,true,false] rfl rfl (ud cg.out (by kernel_rfl)) (fun _ _ _ h=>h) (Or.inl ⟨by rfl,?_⟩) ?_ ?_
             rotate_left
             ·intro w'
              go_simp
              with_reducible rfl
             rotate_left
             ·simp only [Act.put,List.setIfInBounds_toArray,List.set_cons_zero,List.set_cons_succ,Bb,Cb]
              rfl
             refine Nc (i:=11) (N:=some 86) (v:=?_) (a':=?_) #[true,true,true,true,true,true,true,true,true,true,true,true] rfl rfl (ud cg.out (by kernel_rfl)) (fun _ _ _ h=>h) (Or.inl ⟨by rfl,?_⟩) ?_ ?_
             rotate_left
             ·intro w'
              go_simp
              with_reducible rfl
             rotate_left
             ·simp only [Act.put,List.setIfInBounds_toArray,List.set_cons_zero,List.set_cons_succ,Bb,Cb]
              rfl
             refine Mk (Bk cg.out (by kernel_rfl)) ?_
             try go_wp2
             go_roundg k3
             case measure=>have:=Ig.out;have:=HJ8.out;have:=rV.out;omega
             case rel=>exact ⟨(wrap64 (NA + (((Ua Ra Nf).f0).length:Int))),(wrap64 (Nf + 1)),(by first|rfl|(simp;done)|(simp [*];done)),(by first|rfl|(simp;done)|(simp [*];done)),H',⟨by have:=Ig.out;have:=HJ8.out;have:=rV.out;omega⟩,⟨by (with_reducible repeat (first|refine Ga ?_ _|refine Ia ?_|refine Fa ?_ _));exact za.out⟩,⟨by repeat (first|(with_reducible first|exact HB.out|apply qa|apply ia|apply ua|refine Aa ?_ Wa.out)|exact HB.out)⟩⟩
            ·replace c34:=Bool.eq_false_iff.mpr c34
             subst c34
             have H1:(some false)=some r:=by rw [if_neg (show ¬ (false=true) by decide)] at H;exact H
             clear H
             have H:=H1
             clear H1
             obtain rfl:=Option.some.inj H
             have tC:wr.cell? ⟨Da,0,none⟩=some (.slice Eb Ta.length Db):=(ga za.out 0).trans rfl
             have sC:wr.cell? ⟨Da,1,none⟩=some (.int .i64 Pa):=(ga za.out 1).trans rfl
             have rC:wr.cell? ⟨Da,2,none⟩=some (.int .i64 Oa):=(ga za.out 2).trans rfl
             have qC:wr.cell? ⟨Da,3,none⟩=some (.int .i64 Ma):=(ga za.out 3).trans rfl
             have oC:wr.cell? ⟨Da,4,none⟩=some (.slice yc Ra.length Zb):=(ga za.out 4).trans rfl
             have EB:=aa za.out 0
             have DB:=aa za.out 1
             have CB:=aa za.out 2
             have BB:=aa za.out 3
             have AB:=aa za.out 4
             have Yy:0 ≤ (Nf:Int):=of_decide_eq_true (by first|(with_reducible assumption)|assumption)
             have Xy:Nf < (Ra.length:Int):=of_decide_eq_true (by first|(with_reducible assumption)|assumption)
             obtain ⟨Ti,RM,lM,YL,Nl,Ml,Ll,Kl,Jl,gp,qp⟩:=Zf Zg.out Nf Yy Xy
             cases YL
             replace Nl:=(HB.out.cell (World.block_lt_of_cell? w _ Nl)).trans Nl
             replace Ml:=(HB.out.cell (World.block_lt_of_cell? w _ Ml)).trans Ml
             replace Ll:=(HB.out.cell (World.block_lt_of_cell? w _ Ll)).trans Ll
             replace Kl:=(HB.out.cell (World.block_lt_of_cell? w _ Kl)).trans Kl
             replace Jl:=(HB.out.cell (World.block_lt_of_cell? w _ Jl)).trans Jl
             have nJ:=ja.mk qp
             have xJ:=ja.mk gp
             clear qp gp
             replace Yy:=eq_true Yy
             replace Xy:=eq_true Xy
             try go_wp2
             have Qb:=ja.mk (Ia za.out)
             have uc:=ja.mk (ua HB.out)
             clear za HB
             have za:=Qb
             have HB:=uc
             clear Qb uc
             have Ax:0 ≤ (Nf:Int):=of_decide_eq_true (by first|(with_reducible assumption)|assumption)
             have zx:Nf < (Ra.length:Int):=of_decide_eq_true (by first|(with_reducible assumption)|assumption)
             obtain ⟨Hz,Uw,Iw,XL,Zi,Yi,Xi,Wi,Vi,ep,lp⟩:=Zf Zg.out Nf Ax zx
             have Vm:=Vi
             have Wm:=Wi
             have Xm:=Xi
             have Ym:=Yi
             have Zm:=Zi
             obtain rfl:Ti=Hz:=(by injection XL)
             replace Zi:=(HB.out.cell (World.block_lt_of_cell? w _ Zi)).trans Zi
             replace Yi:=(HB.out.cell (World.block_lt_of_cell? w _ Yi)).trans Yi
             replace Xi:=(HB.out.cell (World.block_lt_of_cell? w _ Xi)).trans Xi
             replace Wi:=(HB.out.cell (World.block_lt_of_cell? w _ Wi)).trans Wi
             replace Vi:=(HB.out.cell (World.block_lt_of_cell? w _ Vi)).trans Vi
             have Pp:=ja.mk lp
             have Ky:=ja.mk ep
             clear lp ep
             replace Ax:=eq_true Ax
             replace zx:=eq_true zx
             refine Oi (n:=12) (S:=fun w'=>w'.cell? ⟨Da,0,none⟩=some (.slice Eb Ta.length Db)∧w'.cell? ⟨Da,1,none⟩=some (.int .i64 Pa)∧w'.cell? ⟨Da,2,none⟩=some (.int .i64 Oa)∧w'.cell? ⟨Da,3,none⟩=some (.int .i64 Ma)∧w'.cell? ⟨Da,4,none⟩=some (.slice (some Ti) Ra.length Zb)∧w'.cell? (Ti.add ((Nf).toNat * 5))=some (.slice Uw ((Ua Ra Nf).f0).length Iw)∧w'.cell? ⟨(Ti.add ((Nf).toNat * 5)).block,(Ti.add ((Nf).toNat * 5)).off + 1,none⟩=some (.int .i64 ((Ua Ra Nf).f1))∧w'.cell? ⟨(Ti.add ((Nf).toNat * 5)).block,(Ti.add ((Nf).toNat * 5)).off + 2,none⟩=some (.int .i64 ((Ua Ra Nf).f2))∧w'.cell? ⟨(Ti.add ((Nf).toNat * 5)).block,(Ti.add ((Nf).toNat * 5)).off + 3,none⟩=some (.int .i64 ((Ua Ra Nf).f3))∧w'.cell? ⟨(Ti.add ((Nf).toNat * 5)).block,(Ti.add ((Nf).toNat * 5)).off + 4,none⟩=some (.int .i64 ((Ua Ra Nf).f4))) (ds:=[]) #[false,false,false,false,false,false,false,false,false,false,false,false] (by kernel_rfl) rfl rfl ⟨(ga za.out 0).trans rfl,(ga za.out 1).trans rfl,(ga za.out 2).trans rfl,(ga za.out 3).trans rfl,(ga za.out 4).trans rfl,((HB.out.cell (World.block_lt_of_cell? w _ Zm)).trans Zm),((HB.out.cell (World.block_lt_of_cell? w _ Ym)).trans Ym),((HB.out.cell (World.block_lt_of_cell? w _ Xm)).trans Xm),((HB.out.cell (World.block_lt_of_cell? w _ Wm)).trans Wm),((HB.out.cell (World.block_lt_of_cell? w _ Vm)).trans Vm)⟩ (fun hHeld=>?_);refine Xh Va.wK Va.ZF (fun cg Vr=>?_)
             generalize wr.drew=w39 at za HB Pp Zi Yi Xi Wi Vi hHeld ⊢
             refine Nc (i:=0) (N:=some 75) (v:=?_) (a':=?_) #[true,false,false,false,false,false,false,false,false,false,false,false] rfl rfl (ud cg.out (by kernel_rfl)) (fun _ _ _ h=>h) (Or.inl ⟨by rfl,?_⟩) ?_ ?_
             rotate_left
             ·intro w'
              go_simp
              with_reducible rfl
             rotate_left
             ·simp only [Act.put,List.setIfInBounds_toArray,List.set_cons_zero,List.set_cons_succ,Bb,Cb]
              rfl
             refine Nc (i:=1) (N:=some 76) (v:=?_) (a':=?_) #[true,true,false,false,false,false,false,false,false,false,false,false] rfl rfl (ud cg.out (by kernel_rfl)) (fun _ _ _ h=>h) (Or.inl ⟨by rfl,?_⟩) ?_ ?_
             rotate_left
             ·intro w'
              go_simp
              with_reducible rfl
             rotate_left
             ·simp only [Act.put,List.setIfInBounds_toArray,List.set_cons_zero,List.set_cons_succ,Bb,Cb]
              rfl
             refine Nc (i:=2) (N:=some 77) (v:=?_) (a':=?_) #[true,true,true,false,false,false,false,false,false,false,false,false] rfl rfl (ud cg.out (by kernel_rfl)) (fun _ _ _ h=>h) (Or.inl ⟨by rfl,?_⟩) ?_ ?_
             rotate_left
             ·intro w'
              go_simp
              with_reducible rfl
             rotate_left
             ·simp only [Act.put,List.setIfInBounds_toArray,List.set_cons_zero,List.set_cons_succ,Bb,Cb]
              rfl
             refine Nc (i:=4) (N:=some 79) (v:=?_) (a':=?_) #[true,true,true,false,true,false,false,false,false,false,false,false] rfl rfl (ud cg.out (by kernel_rfl)) (fun _ _ _ h=>h) (Or.inl ⟨by rfl,?_⟩) ?_ ?_
             rotate_left
             ·intro w'
              go_simp
              with_reducible rfl
             rotate_left
             ·simp only [Act.put,List.setIfInBounds_toArray,List.set_cons_zero,List.set_cons_succ,Bb,Cb]
              rfl
             refine Nc (i:=6) (N:=some 81) (v:=?_) (a':=?_) #[true,true,true,false,true,false,true,false,false,false,false,false] rfl rfl (ud cg.out (by kernel_rfl)) (fun _ _ _ h=>h) (Or.inl ⟨by rfl,?_⟩) ?_ ?_
             rotate_left
             ·intro w'
              go_simp
              with_reducible rfl
             rotate_left
             ·simp only [Act.put,List.setIfInBounds_toArray,List.set_cons_zero,List.set_cons_succ,Bb,Cb]
              rfl
             refine Lf (i:=3) (N:=some 78) (v:=?_) (a':=?_) #[true,true,true,true,true,false,true,false,false,false,false,false] rfl rfl (Pf cg.out Vr.out (by kernel_rfl)) (fun _ _ _ h=>h) (Or.inl ⟨by rfl,?_⟩) hHeld ?_ ?_
             rotate_left
             ·rintro w' ⟨s0,s1,s2,s3,s4,s5,s6,s7,s8,s9⟩
              go_simp
              with_reducible rfl
             rotate_left
             ·simp only [Act.put,List.setIfInBounds_toArray,List.set_cons_zero,List.set_cons_succ,Bb,Cb]
              rfl
             refine Lf (i:=5) (N:=some 80) (v:=?_) (a':=?_) #[true,true,true,true,true,true,true,false,false,false,false,false] rfl rfl (Pf cg.out Vr.out (by kernel_rfl)) (fun _ _ _ h=>h) (Or.inl ⟨by rfl,?_⟩) hHeld ?_ ?_
             rotate_left
             ·rintro w' ⟨s0,s1,s2,s3,s4,s5,s6,s7,s8,s9⟩
              go_simp
              with_reducible rfl
             rotate_left
             ·simp only [Act.put,List.setIfInBounds_toArray,List.set_cons_zero,List.set_cons_succ,Bb,Cb]
              rfl
             refine Nc (i:=7) (N:=some 82) (v:=?_) (a':=?_) #[true,true,true,true,true,true,true,true,false,false,false,false] rfl rfl (ud cg.out (by kernel_rfl)) (fun _ _ _ h=>h) (Or.inl ⟨by rfl,?_⟩) ?_ ?_
             rotate_left
             ·intro w'
              go_simp
              with_reducible rfl
             rotate_left
             ·simp only [Act.put,List.setIfInBounds_toArray,List.set_cons_zero,List.set_cons_succ,Bb,Cb]
              rfl
             refine Lf (i:=8) (N:=some 83) (v:=?_) (a':=?_) #[true,true,true,true,true,true,true,true,true,false,false,false] rfl rfl (Pf cg.out Vr.out (by kernel_rfl)) (fun _ _ _ h=>h) (Or.inl ⟨by rfl,?_⟩) hHeld ?_ ?_
             rotate_left
             ·rintro w' ⟨s0,s1,s2,s3,s4,s5,s6,s7,s8,s9⟩
              go_simp
              with_reducible rfl
             rotate_left
             ·simp only [Act.put,List.setIfInBounds_toArray,List.set_cons_zero,List.set_cons_succ,Bb,Cb]
              rfl
             refine gm (i:=9) (N:=some 84) #[true,true,true,true,true,true,true,true,true,true,false,false] rfl rfl (Pm cg.out (by kernel_rfl)) (by decide) (fun K hK=>?_)
             refine Qm Try.func87 (by kernel_rfl) rfl #[.agg #[.slice Eb Ta.length Db,.int .i64 Pa,.int .i64 Oa,.int .i64 Ma,.slice (some Ti) Ra.length Zb],.agg #[.slice Uw ((Ua Ra Nf).f0).length Iw,.int .i64 ((Ua Ra Nf).f1),.int .i64 ((Ua Ra Nf).f2),.int .i64 ((Ua Ra Nf).f3),.int .i64 ((Ua Ra Nf).f4)]] (by rfl) rfl rfl (by (try simp only [List.map_toArray,List.map_cons,List.map_nil]);first|done|rfl|(simp only [List.length_drop,List.length_take];rfl)) ?_
             with_reducible refine (Gb.calls k3 _ _ Ta Pa Oa Ma _ _ Ra _ _ ((Ua Ra Nf).f0) ((Ua Ra Nf).f1) ((Ua Ra Nf).f2) ((Ua Ra Nf).f3) ((Ua Ra Nf).f4) false _ ?side1 ?side2 ?side3 ?side4 ?side5 ?side6 A33.out).mono ?_
             (case side1=>repeat (first|exact (Kd.Mb Uf.out HB.out)|(with_reducible refine Kd.Lc ?_ _)|(with_reducible refine Kd.Jc ?_ _)|(with_reducible refine Kd.Ed ?_)))
             (case side2=>exact ig.out)
             (case side3=>repeat (first|exact (Kd.Mb Zg.out HB.out)|(with_reducible refine Kd.Lc ?_ _)|(with_reducible refine Kd.Jc ?_ _)|(with_reducible refine Kd.Ed ?_)))
             (case side4=>exact Li.out)
             (case side5=>repeat (first|exact (Kd.Mb Pp.out HB.out)|(with_reducible refine Kd.Lc ?_ _)|(with_reducible refine Kd.Jc ?_ _)|(with_reducible refine Kd.Ed ?_)))
             (case side6=>exact Ky.out)
             rintro e w40 ⟨rfl,hb⟩
             refine ⟨_,rfl,?_⟩
             have Qb:=ja.mk (Ya (g:=Da) (o:=.cells #[.slice Eb Ta.length Db,.int .i64 Pa,.int .i64 Oa,.int .i64 Ma,.slice (some Ti) Ra.length Zb] 30 (0,0)) (by (with_reducible repeat (first|refine Ga ?_ _|refine Ia ?_|refine Fa ?_ _));exact za.out) hb)
             have uc:=ja.mk (Na (by repeat (first|(with_reducible first|exact HB.out|apply qa|apply ia|apply ua|refine Aa ?_ Wa.out)|exact HB.out)) hb)
             clear za HB
             have za:=Qb
             have HB:=uc
             clear Qb uc
             (try clear hb)
             (try clear hb2)
             (try clear hk)
             (try clear hi)
             refine hK.out _ _ ⟨(ga za.out 0).trans rfl,(ga za.out 1).trans rfl,(ga za.out 2).trans rfl,(ga za.out 3).trans rfl,(ga za.out 4).trans rfl,((HB.out.cell (World.block_lt_of_cell? w _ Zm)).trans Zm),((HB.out.cell (World.block_lt_of_cell? w _ Ym)).trans Ym),((HB.out.cell (World.block_lt_of_cell? w _ Xm)).trans Xm),((HB.out.cell (World.block_lt_of_cell? w _ Wm)).trans Wm),((HB.out.cell (World.block_lt_of_cell? w _ Vm)).trans Vm)⟩ (fun hHeld=>?_)
             clear hK K
             refine Mg (a':=?_) ?_ ?_
             rotate_left
             ·show Act.put _ (some 84) _=_
              simp only [Act.put,List.setIfInBounds_toArray,List.set_cons_zero,List.set_cons_succ,Bb,Cb]
              rfl
             refine Nc (i:=10) (N:=some 85) (v:=?_) (a':=?_) #[true,true,true,true,true,true,true,true,true,true,true,false] rfl rfl (ud cg.out (by kernel_rfl)) (fun _ _ _ h=>h) (Or.inl ⟨by rfl,?_⟩) ?_ ?_
             rotate_left
             ·intro w'
              go_simp
              with_reducible rfl
             rotate_left
             ·simp only [Act.put,List.setIfInBounds_toArray,List.set_cons_zero,List.set_cons_succ,Bb,Cb]
              rfl
             refine Nc (i:=11) (N:=some 86) (v:=?_) (a':=?_) #[true,true,true,true,true,true,true,true,true,true,true,true] rfl rfl (ud cg.out (by kernel_rfl)) (fun _ _ _ h=>h) (Or.inl ⟨by rfl,?_⟩) ?_ ?_
             rotate_left
             ·intro w'
              go_simp
              with_reducible rfl
             rotate_left
             ·simp only [Act.put,List.setIfInBounds_toArray,List.set_cons_zero,List.set_cons_succ,Bb,Cb]
              rfl
             refine Mk (Bk cg.out (by kernel_rfl)) ?_
             try go_wp2
             go_ret
             exact ⟨by first|rfl|(simp [La,Ka] <;> rfl)|(simp [*,La,Ka] <;> rfl),by repeat (first|(with_reducible first|exact HB.out|apply qa|apply ia|apply ua|refine Aa ?_ Wa.out)|exact HB.out)⟩
          ·rw [if_neg c29] at H
           exact absurd H (by simp)
         ·rw [if_neg c28] at H
          have G2:decide (Nf < (Ra.length:Int))=false:=decide_eq_false c28
          clear c28
          obtain rfl:=Option.some.inj H
          have gy:wr.cell? ⟨Da,0,none⟩=some (.slice Eb Ta.length Db):=(ga za.out 0).trans rfl
          have cy:wr.cell? ⟨Da,1,none⟩=some (.int .i64 Pa):=(ga za.out 1).trans rfl
          have zP:wr.cell? ⟨Da,2,none⟩=some (.int .i64 Oa):=(ga za.out 2).trans rfl
          have yP:wr.cell? ⟨Da,3,none⟩=some (.int .i64 Ma):=(ga za.out 3).trans rfl
          have xP:wr.cell? ⟨Da,4,none⟩=some (.slice yc Ra.length Zb):=(ga za.out 4).trans rfl
          have Ix:=aa za.out 0
          have Hx:=aa za.out 1
          have pO:=aa za.out 2
          have oO:=aa za.out 3
          have nO:=aa za.out 4
          go_wp2
          go_ret
          exact ⟨by first|rfl|(simp [La,Ka] <;> rfl)|(simp [*,La,Ka] <;> rfl),by repeat (first|(with_reducible first|exact HB.out|apply qa|apply ia|apply ua|refine Aa ?_ Wa.out)|exact HB.out)⟩
end Go.Proofs.Ytmifdccaajngcaa.P
end
section
namespace Go.Proofs.Ytmifdccaajngcaa.P
open Go.RowKit Go.Proofs.Sa.Ec Go.Proofs.Sa.Bf Go.Proofs.Sa.Yg
set_option linter.unusedVariables false
set_option linter.unusedSimpArgs false
open Classical in
noncomputable def Fx (n:Nat) (p:Nat→Prop):Bool:=decide (∀ j,j < n→p j)
open Classical in
theorem jK {n:Nat} {p:Nat→Prop} (h:∀ j,j < n→p j):Fx n p=true:=by
 unfold Fx
 exact decide_eq_true h
open Classical in
theorem nE {n:Nat} {p:Nat→Prop}:Fx n p=true ↔ ∀ j,j < n→p j:=by
 unfold Fx
 exact decide_eq_true_iff
theorem cG {n i:Nat} {p:Nat→Prop} (hi:i < n) (h:¬ p i):Fx n p=false:=by
 cases e:Fx n p with
 | false=>rfl
 | true=>exact absurd (nE.mp e i hi) h
theorem RF {ρ:Type} {n:Nat} {R e:ρ} (p:Nat→Prop) (f:Nat→Nat→Option ρ) (hend:Ev (f n) R) (hyes:∀ i,i < n→p i→∀ r,Ev (f (i + 1)) r→Ev (f i) r) (hno:∀ i,i < n→¬ p i→Ev (f i) e):Ev (f 0) (bif Fx n p then R else e):=by
 have key:∀ d i,i + d=n→(∀ j,j < i→p j)→Ev (f i) (bif Fx n p then R else e):=by
  intro d
  induction d with
  | zero =>
   intro i hi h
   have:i=n:=by omega
   subst this
   rw [jK h]
   exact hend
  | succ d ih =>
   intro i hi h
   by_cases hp:p i
   ·refine hyes i (by omega) hp _ (ih (i + 1) (by omega) ?_)
    intro j hj
    by_cases hji:j=i
    ·rw [hji];exact hp
    ·exact h j (by omega)
   ·rw [cG (by omega) hp]
    exact hno i (by omega) hp
 exact key n 0 (by omega) (fun j hj=>absurd hj (by omega))
theorem Kw {α:Type} (l:List α) (z:α) (q:α→Bool):Fx l.length (fun j=>q (l.getD j z)=true) = !(l.any fun x=>!q x):=by
 rw [Bool.eq_iff_iff,nE]
 simp only [Bool.not_eq_true',List.any_eq_false,Bool.not_eq_true',Bool.not_eq_false]
 constructor
 ·intro h x hx
  obtain ⟨j,hj,rfl⟩:=List.mem_iff_getElem.mp hx
  have:=h j hj
  rw [List.getD_eq_getElem?_getD,List.getElem?_eq_getElem hj] at this
  simpa using this
 ·intro h j hj
  have:=h l[j] (List.getElem_mem hj)
  rw [List.getD_eq_getElem?_getD,List.getElem?_eq_getElem hj]
  simpa using this
end Go.Proofs.Ytmifdccaajngcaa.P
end
section
namespace Go.Proofs.Ytmifdccaajngcaa.P
open Go.RowKit Go.Proofs.Sa.Ec Go.Proofs.Sa.Bf Go.Proofs.Sa.Yg
set_option linter.unusedVariables false
set_option linter.unusedSimpArgs false
theorem TK (a b c:Int):Za.f a b c=some (fk a b c):=by
 unfold Za.f fk
 by_cases h:a ≥ b
 ·rw [if_pos h]
  have h':b ≤ a:=h
  simp [h']
 ·rw [if_neg h]
  have h':¬ b ≤ a:=h
  simp [h']
end Go.Proofs.Ytmifdccaajngcaa.P
end
