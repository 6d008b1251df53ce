import Derived.Test.YtmifdccaajngcaaQKnown1
import Derived.Test.YtmifdccaajngcaaQKnown8
import Derived.Test.YtmifdccaajngcaaQKnown7
import Derived.Test.YtmifdccaajngcaaQKnown6
section
namespace Go.Proofs.Ytmifdccaajngcaa.P
open Go.RowKit Go.Proofs.Na.mc Go.Proofs.Na.jf Go.Proofs.Na.xg
set_option linter.unusedVariables false
set_option linter.unusedSimpArgs false
attribute [local go_sem] Hj Fj Rk Qk Li Ki Gj Ej
def Ab.l0:Nat→Int→List Int→Int→Int→Int→List (gh)→List (Bf)→Int→Int→Int→Int→Option (Bool)
 | 0,_,_,_,_,_,_,_,_,_,_,_=>none
 | k + 1,x5,x102000,ke,x102002,x102003,x102004,x103000,x103001,x103002,x103003,x103004=>if x5 < (x103000.length:Int) then (if 0 ≤ x5 then ((Ya.f k x102000 ke x102002 x102003 x102004 ((Ja x103000 x5).f0) ((Ja x103000 x5).f1) ((Ja x103000 x5).f2) ((Ja x103000 x5).f3) ((Ja x103000 x5).f4) ((Ja x103000 x5).f5) ((Ja x103000 x5).f6)).bind fun t104=>(if t104=true then (Ab.l0 k (wrap64 (x5 + 1)) x102000 ke x102002 x102003 x102004 x103000 x103001 x103002 x103003 x103004) else (some false))) else (none)) else ((Za.f x103003 0 (wrap64 ((x102004.length:Int) - 1))).bind fun t105=>((Za.f x103002 0 (wrap64 (x102003 - 1))).bind fun t106=>(if x103001=0 then (if t105=true then (if x103002=0 then (some (x103004 == 0)) else (some false)) else (some false)) else (if x103001=1 then (if t105=true then (if t106=true then ((Za.f x103004 0 (wrap64 ((x102004.length:Int) - 1))).bind fun t107=>(some t107)) else (some false)) else (some false)) else (if x103001=2 then (if t106=true then (if x103003=0 then (some (x103004 == 0)) else (some false)) else (some false)) else (some false))))))
def Ab.f (k:Nat) (Ta:List Int) (Ma:Int) (Oa:Int) (Pa:Int) (Sa:List (gh)) (Dd:List (Bf)) (Fb:Int) (Ob:Int) (Rb:Int) (Qc:Int):Option (Bool):=Ab.l0 k 0 Ta Ma Oa Pa Sa Dd Fb Ob Rb Qc
theorem Ab.Sd:∀ k,(∀ y0 y1 y2 y3 y4 y5 y6 y7 y8 y9 dJ,Lb (Ab.l0 k y0 y1 y2 y3 y4 y5 y6 y7 y8 y9 dJ) (Ab.l0 (k + 1) y0 y1 y2 y3 y4 y5 y6 y7 y8 y9 dJ))
 | 0=>fun _ _ _ _ _ _ _ _ _ _ _ r h=>by simp [Ab.l0] at h
 | k + 1=>by
  have Ff:=Ab.Sd k
  ·intro y0 y1 y2 y3 y4 y5 y6 y7 y8 y9 dJ
   unfold Ab.l0
   repeat' first
   | (with_reducible exact Ff _ _ _ _ _ _ _ _ _ _ _)
   | (with_reducible exact Ya.mono _ _ _ _ _ _ _ _ _ _ _ _ _)
   | (with_reducible exact Lb.refl _)
   | (with_reducible exact Lb.none _)
   | (with_reducible refine Lb.ite ?_ ?_)
   | (with_reducible refine Lb.bind ?_ (fun _=>?_))
   | exact Ff _ _ _ _ _ _ _ _ _ _ _
   | exact Ya.mono _ _ _ _ _ _ _ _ _ _ _ _ _
   | exact Lb.none _
   | refine Lb.ite ?_ ?_
   | refine Lb.bind ?_ (fun _=>?_)
theorem Ab.mono:∀ a0 a1 a2 a3 a4 a5 a6 a7 a8 a9 k,Lb (Ab.f k a0 a1 a2 a3 a4 a5 a6 a7 a8 a9) (Ab.f (k + 1) a0 a1 a2 a3 a4 a5 a6 a7 a8 a9):=by
 intro a0 a1 a2 a3 a4 a5 a6 a7 a8 a9 k
 have Ff:=Ab.Sd k
 unfold Ab.f
 repeat' first
   | (with_reducible exact Ff _ _ _ _ _ _ _ _ _ _ _)
   | (with_reducible exact Ya.mono _ _ _ _ _ _ _ _ _ _ _ _ _)
   | (with_reducible exact Lb.refl _)
   | (with_reducible exact Lb.none _)
   | (with_reducible refine Lb.ite ?_ ?_)
   | (with_reducible refine Lb.bind ?_ (fun _=>?_))
   | exact Ff _ _ _ _ _ _ _ _ _ _ _
   | exact Ya.mono _ _ _ _ _ _ _ _ _ _ _ _ _
   | exact Lb.none _
   | refine Lb.ite ?_ ?_
   | refine Lb.bind ?_ (fun _=>?_)
def Ab.T4:Bool × List (List Nat × List Nat):=(true,[([],[]),([],[]),([1],[1]),([],[]),([2,3],[2,3]),([4],[4]),([0,5],[0,5]),([6],[6])])
def Ab.B4:List Nat:=[0,0,2,0,14,30,63,127]
theorem Ab.XV:Xl .any (opsOf Try.f87 4)=Ab.T4:=by kernel_rfl
theorem Ab.SR:Ml Ab.T4.2 Ab.B4=true:=by kernel_rfl
set_option maxHeartbeats 8000000 in
set_option maxRecDepth 100000 in
theorem Ab.calls (k:Nat) (Cb:Option Addr) (Bb:Nat) (Ta:List Int) (Ma:Int) (Oa:Int) (Pa:Int) (yc:Option Addr) (Xb:Nat) (Sa:List (gh)) (Vf:Option Addr) (Nf:Nat) (Dd:List (Bf)) (Fb:Int) (Ob:Int) (Rb:Int) (Qc:Int) (r:Bool) (w:World) (Rf:Kd.C (Kd.int .i64) w Cb Ta.length Ta) (Pf:Ta.length ≤ Bb) (Bg:Kd.C Wo w yc Sa.length Sa) (Eg:Sa.length ≤ Xb) (js:Kd.C Ij w Vf Dd.length Dd) (Bs:Dd.length ≤ Nf) (h:Ab.f k Ta Ma Oa Pa Sa Dd Fb Ob Rb Qc=some r) :
  Calls Try.prog 87 #[.agg #[.slice Cb Ta.length Bb,.int .i64 Ma,.int .i64 Oa,.int .i64 Pa,.slice yc Sa.length Xb],.agg #[.slice Vf Dd.length Nf,.int .i64 Fb,.int .i64 Ob,.int .i64 Rb,.int .i64 Qc]] w fun e w'=>e = .returned (.bool r)∧Below w.heap.size w w':=by
 have ZB:=Try.underlying30
 have JI:=Try.underlying68
 have YB:=Try.underlying70
 have ig:=ja.mk Rf
 have mg:=ja.mk Pf
 clear Rf Pf
 have oh:=ja.mk Bg
 have qj:=ja.mk Eg
 clear Bg Eg
 have xm:=ja.mk js
 have zo:=ja.mk Bs
 clear js Bs
 have HB:=ja.mk (Below.refl w.heap.size w)
 have H:(Ab.l0 k 0 Ta Ma Oa Pa Sa Dd Fb Ob Rb Qc)=some r:=h
 clear h
 have H':=ja.mk H
 clear H
 go_enter Try.func87,Try.ntmps87
 go_wp2_with (first|((with_reducible refine Kb (N:=2) rfl ?_);(try (refine Ch (by rfl) ?_;dsimp only));refine Eb ?hg (N:=2) ?hd (cs:=#[.slice Cb Ta.length Bb,.int .i64 Ma,.int .i64 Oa,.int .i64 Pa,.slice yc Sa.length Xb]) (t:=30) ?hr ?_;(case hd=>rfl);(case hg=>rfl);(case hr=>first|(go_simp;done)|(go_simp;rfl));intro Ea hg w3 Tb hb;have Gb:=ja.mk (Qa (by repeat (first|(with_reducible first|exact HB.out|apply qa|apply ia|apply ua)|exact HB.out)) hb);have Vb:=ja.mk (Tb);have Ac:=ja.mk ((by rw [hg];exact (Ra (by repeat (first|(with_reducible first|exact HB.out|apply qa|apply ia|apply ua)|exact HB.out))):w.heap.size ≤ Ea));have ud:=ja.mk ((by rw [hg];exact (Ra (by repeat (first|(with_reducible first|exact HB.out|apply qa|apply ia|apply ua)|exact HB.out))):w.heap.size ≤ Ea));clear HB;have HB:=Gb;have za:=Vb;have Be:=Ac;have Wa:=ud;clear Gb Vb Ac ud;clear hb Tb hg)|((with_reducible refine Kb (N:=3) rfl ?_);(try (refine Ch (by rfl) ?_;dsimp only));refine Eb ?hg (N:=3) ?hd (cs:=#[.slice Vf Dd.length Nf,.int .i64 Fb,.int .i64 Ob,.int .i64 Rb,.int .i64 Qc]) (t:=68) ?hr ?_;(case hd=>rfl);(case hg=>rfl);(case hr=>first|(go_simp;done)|(go_simp;rfl));intro Fa hg w4 Tb hb;have Gb:=ja.mk (gb (g:=Ea) (o:=.cells #[.slice Cb Ta.length Bb,.int .i64 Ma,.int .i64 Oa,.int .i64 Pa,.slice yc Sa.length Xb] 30 (0,0)) (by (with_reducible repeat (first|refine Da ?_ _|refine Ga ?_|refine Ca ?_ _));exact za.out) hb);have Vb:=ja.mk (Qa (by repeat (first|(with_reducible first|exact HB.out|apply qa|apply ia|apply ua|refine Aa ?_ Wa.out)|exact HB.out)) hb);have Ac:=ja.mk (Tb);have ud:=ja.mk ((by rw [hg];exact (Ra (by repeat (first|(with_reducible first|exact HB.out|apply qa|apply ia|apply ua|refine Aa ?_ Wa.out)|exact HB.out))):w.heap.size ≤ Fa));have ef:=ja.mk ((by rw [hg];exact (Ra (by repeat (first|(with_reducible first|exact HB.out|apply qa|apply ia|apply ua|refine Aa ?_ Wa.out)|exact HB.out))):w.heap.size ≤ Fa));have Ag:=ja.mk ((by rw [hg];exact Nat.ne_of_lt (Lc (g:=Ea) (o:=.cells #[.slice Cb Ta.length Bb,.int .i64 Ma,.int .i64 Oa,.int .i64 Pa,.slice yc Sa.length Xb] 30 (0,0)) (by (with_reducible repeat (first|refine Da ?_ _|refine Ga ?_|refine Ca ?_ _));exact za.out)):Ea ≠ Fa));have dh:=ja.mk ((by rw [hg];exact Nat.ne_of_gt (Lc (g:=Ea) (o:=.cells #[.slice Cb Ta.length Bb,.int .i64 Ma,.int .i64 Oa,.int .i64 Pa,.slice yc Sa.length Xb] 30 (0,0)) (by (with_reducible repeat (first|refine Da ?_ _|refine Ga ?_|refine Ca ?_ _));exact za.out)):Fa ≠ Ea));clear za;clear HB;have za:=Gb;have HB:=Vb;have Ba:=Ac;have Df:=ud;have Sb:=ef;have Ua:=Ag;have jb:=dh;clear Gb Vb Ac ud ef Ag dh;clear hb Tb hg))
 go_loopg [5] k (fun kq v5 w'=>∃ (Ia:Int),v5 = .int .i64 Ia∧ja (Ab.l0 kq Ia Ta Ma Oa Pa Sa Dd Fb Ob Rb Qc=some r)∧ja (kq ≤ k)∧ja (w'.heap[Ea]? = some (.cells #[(.slice Cb Ta.length Bb),.int .i64 Ma,.int .i64 Oa,.int .i64 Pa,(.slice yc Sa.length Xb)] 30 (0,0)))∧ja (w'.heap[Fa]? = some (.cells #[(.slice Vf Dd.length Nf),.int .i64 Fb,.int .i64 Ob,.int .i64 Rb,.int .i64 Qc] 68 (0,0)))∧ja (Below w.heap.size w w'))
 case atStart=>exact ⟨(0),(by first|rfl|(simp;done)|(simp [*];done)),H',⟨Nat.le_refl _⟩,⟨by (with_reducible repeat (first|refine Da ?_ _|refine Ga ?_|refine Ca ?_ _));exact za.out⟩,⟨by (with_reducible repeat (first|refine Da ?_ _|refine Ga ?_|refine Ca ?_ _));exact Ba.out⟩,⟨by repeat (first|(with_reducible first|exact HB.out|apply qa|apply ia|apply ua|refine Aa ?_ Wa.out|refine Aa ?_ Sb.out)|exact HB.out)⟩⟩
 case round =>
  clear H'
  try clear c1
  try clear p2
  (try clear HA)
  (try clear Yg)
  (try clear za)
  (try clear Ba)
  (try clear HB)
  obtain ⟨Ia,rfl,HA,Yg,za,Ba,HB⟩:=hrel
  cases gk with
  | zero=>exact absurd HA.out (by simp [Ab.l0])
  | succ k1 =>
   have H:=HA.out
   clear HA
   simp only [Ab.l0] at H
   by_cases c5:Ia < (Dd.length:Int)
   ·rw [if_pos c5] at H
    have Il:decide (Ia < (Dd.length:Int))=true:=decide_eq_true c5
    clear c5
    by_cases c6:0 ≤ Ia
    ·rw [if_pos c6] at H
     have cm:decide (0 ≤ Ia)=true:=decide_eq_true c6
     clear c6
     replace H:=Option.bind_eq_some_iff.mp H
     obtain ⟨t104,AB,H⟩:=H
     replace H:(if t104=true then (Ab.l0 k1 (wrap64 (Ia + 1)) Ta Ma Oa Pa Sa Dd Fb Ob Rb Qc) else (some false))=some r:=H
     have A7:=ja.mk AB
     clear AB
     by_cases c8:t104=true
     ·subst c8
      have H1:(Ab.l0 k1 (wrap64 (Ia + 1)) Ta Ma Oa Pa Sa Dd Fb Ob Rb Qc)=some r:=by rw [if_pos rfl] at H;exact H
      clear H
      have H:=H1
      clear H1
      have H':=ja.mk H
      clear H
      have RW:=jb.out
      have wW:=Ua.out
      have Fk:wr.cell? ⟨Fa,0,none⟩=some (.slice Vf Dd.length Nf):=(ga Ba.out 0).trans rfl
      have Ek:wr.cell? ⟨Fa,1,none⟩=some (.int .i64 Fb):=(ga Ba.out 1).trans rfl
      have Dk:wr.cell? ⟨Fa,2,none⟩=some (.int .i64 Ob):=(ga Ba.out 2).trans rfl
      have Ck:wr.cell? ⟨Fa,3,none⟩=some (.int .i64 Rb):=(ga Ba.out 3).trans rfl
      have Bk:wr.cell? ⟨Fa,4,none⟩=some (.int .i64 Qc):=(ga Ba.out 4).trans rfl
      have xk:=aa Ba.out 0
      have wk:=aa Ba.out 1
      have vk:=aa Ba.out 2
      have uk:=aa Ba.out 3
      have qk:=aa Ba.out 4
      try go_wp2
      have Gb:=ja.mk (Ga za.out)
      have Vb:=ja.mk (Ga Ba.out)
      have Ac:=ja.mk (ua HB.out)
      clear za
      clear Ba
      clear HB
      have za:=Gb
      have Ba:=Vb
      have HB:=Ac
      clear Gb Vb Ac
      have Ah:0 ≤ (Ia:Int):=of_decide_eq_true (by first|(with_reducible assumption)|assumption)
      have yh:Ia < (Dd.length:Int):=of_decide_eq_true (by first|(with_reducible assumption)|assumption)
      obtain ⟨Kf,vm,Gd,Xd,Wd,Vd,Ud,zf,yf⟩:=tf xm.out Ia Ah yh
      have Nm:=yf
      have Om:=zf
      have Pm:=Ud
      have Qm:=Vd
      have Rm:=Wd
      have Sm:=Xd
      have Um:=Gd
      cases vm
      replace Gd:=(HB.out.cell (World.block_lt_of_cell? w _ Gd)).trans Gd
      replace Xd:=(HB.out.cell (World.block_lt_of_cell? w _ Xd)).trans Xd
      replace Wd:=(HB.out.cell (World.block_lt_of_cell? w _ Wd)).trans Wd
      replace Vd:=(HB.out.cell (World.block_lt_of_cell? w _ Vd)).trans Vd
      replace Ud:=(HB.out.cell (World.block_lt_of_cell? w _ Ud)).trans Ud
      replace zf:=(HB.out.cell (World.block_lt_of_cell? w _ zf)).trans zf
      replace yf:=(HB.out.cell (World.block_lt_of_cell? w _ yf)).trans yf
      replace Ah:=eq_true Ah
      replace yh:=eq_true yh
      refine Xj (n:=8) (S:=fun w'=>w'.cell? ⟨Ea,0,none⟩=some (.slice Cb Ta.length Bb)∧w'.cell? ⟨Ea,1,none⟩=some (.int .i64 Ma)∧w'.cell? ⟨Ea,2,none⟩=some (.int .i64 Oa)∧w'.cell? ⟨Ea,3,none⟩=some (.int .i64 Pa)∧w'.cell? ⟨Ea,4,none⟩=some (.slice yc Sa.length Xb)∧w'.cell? ⟨Fa,0,none⟩=some (.slice (some Kf) Dd.length Nf)∧w'.cell? ⟨Fa,1,none⟩=some (.int .i64 Fb)∧w'.cell? ⟨Fa,2,none⟩=some (.int .i64 Ob)∧w'.cell? ⟨Fa,3,none⟩=some (.int .i64 Rb)∧w'.cell? ⟨Fa,4,none⟩=some (.int .i64 Qc)∧w'.cell? (Kf.add ((Ia).toNat * 7))=some (.int .i64 ((Ja Dd Ia).f0))∧w'.cell? ⟨(Kf.add ((Ia).toNat * 7)).block,(Kf.add ((Ia).toNat * 7)).off + 1,none⟩=some (.int .i64 ((Ja Dd Ia).f1))∧w'.cell? ⟨(Kf.add ((Ia).toNat * 7)).block,(Kf.add ((Ia).toNat * 7)).off + 2,none⟩=some (.int .i64 ((Ja Dd Ia).f2))∧w'.cell? ⟨(Kf.add ((Ia).toNat * 7)).block,(Kf.add ((Ia).toNat * 7)).off + 3,none⟩=some (.int .i64 ((Ja Dd Ia).f3))∧w'.cell? ⟨(Kf.add ((Ia).toNat * 7)).block,(Kf.add ((Ia).toNat * 7)).off + 4,none⟩=some (.int .i64 ((Ja Dd Ia).f4))∧w'.cell? ⟨(Kf.add ((Ia).toNat * 7)).block,(Kf.add ((Ia).toNat * 7)).off + 5,none⟩=some (.int .i64 ((Ja Dd Ia).f5))∧w'.cell? ⟨(Kf.add ((Ia).toNat * 7)).block,(Kf.add ((Ia).toNat * 7)).off + 6,none⟩=some (.string ((Ja Dd Ia).f6))) (ds:=[]) #[false,false,false,false,false,false,false,false] (by kernel_rfl) rfl rfl ⟨(ga za.out 0).trans rfl,(ga za.out 1).trans rfl,(ga za.out 2).trans rfl,(ga za.out 3).trans rfl,(ga za.out 4).trans rfl,(ga Ba.out 0).trans rfl,(ga Ba.out 1).trans rfl,(ga Ba.out 2).trans rfl,(ga Ba.out 3).trans rfl,(ga Ba.out 4).trans rfl,((HB.out.cell (World.block_lt_of_cell? w _ Um)).trans Um),((HB.out.cell (World.block_lt_of_cell? w _ Sm)).trans Sm),((HB.out.cell (World.block_lt_of_cell? w _ Rm)).trans Rm),((HB.out.cell (World.block_lt_of_cell? w _ Qm)).trans Qm),((HB.out.cell (World.block_lt_of_cell? w _ Pm)).trans Pm),((HB.out.cell (World.block_lt_of_cell? w _ Om)).trans Om),((HB.out.cell (World.block_lt_of_cell? w _ Nm)).trans Nm)⟩ (fun hHeld=>?_);refine Uh Ab.XV Ab.SR (fun Cf yo=>?_)
      generalize wr.drew=sj at za Ba HB Gd Xd Wd Vd Ud zf yf hHeld ⊢
      refine qd (i:=1) (N:=some 16) (v:=?_) (a':=?_) #[false,true,false,false,false,false,false,false] rfl rfl (Oc Cf.out (by kernel_rfl)) (fun _ _ _ h=>h) (Or.inl ⟨by rfl,?_⟩) ?_ ?_
      rotate_left
      ·intro w'
       go_simp
       with_reducible rfl
      rotate_left
      ·simp only [Act.put,List.setIfInBounds_toArray,List.set_cons_zero,List.set_cons_succ,Ib,Jb]
       rfl
      refine qd (i:=3) (N:=some 18) (v:=?_) (a':=?_) #[false,true,false,true,false,false,false,false] rfl rfl (Oc Cf.out (by kernel_rfl)) (fun _ _ _ h=>h) (Or.inl ⟨by rfl,?_⟩) ?_ ?_
      rotate_left
      ·intro w'
       go_simp
       with_reducible rfl
      rotate_left
      ·simp only [Act.put,List.setIfInBounds_toArray,List.set_cons_zero,List.set_cons_succ,Ib,Jb]
       rfl
      refine sg (i:=0) (N:=some 15) (v:=?_) (a':=?_) #[true,true,false,true,false,false,false,false] rfl rfl (af Cf.out yo.out (by kernel_rfl)) (fun _ _ _ h=>h) (Or.inl ⟨by rfl,?_⟩) hHeld ?_ ?_
      rotate_left
      ·rintro w' ⟨s0,s1,s2,s3,s4,s5,s6,s7,s8,s9,Rz,oM,nM,mM,cW,bW,aW⟩
       go_simp
       with_reducible rfl
      rotate_left
      ·simp only [Act.put,List.setIfInBounds_toArray,List.set_cons_zero,List.set_cons_succ,Ib,Jb]
       rfl
      refine sg (i:=2) (N:=some 17) (v:=?_) (a':=?_) #[true,true,true,true,false,false,false,false] rfl rfl (af Cf.out yo.out (by kernel_rfl)) (fun _ _ _ h=>h) (Or.inl ⟨by rfl,?_⟩) hHeld ?_ ?_
      rotate_left
      ·rintro w' ⟨s0,s1,s2,s3,s4,s5,s6,s7,s8,s9,Rz,oM,nM,mM,cW,bW,aW⟩
       go_simp
       with_reducible rfl
      rotate_left
      ·simp only [Act.put,List.setIfInBounds_toArray,List.set_cons_zero,List.set_cons_succ,Ib,Jb]
       rfl
      refine qd (i:=4) (N:=some 19) (v:=?_) (a':=?_) #[true,true,true,true,true,false,false,false] rfl rfl (Oc Cf.out (by kernel_rfl)) (fun _ _ _ h=>h) (Or.inl ⟨by rfl,?_⟩) ?_ ?_
      rotate_left
      ·intro w'
       go_simp
       with_reducible rfl
      rotate_left
      ·simp only [Act.put,List.setIfInBounds_toArray,List.set_cons_zero,List.set_cons_succ,Ib,Jb]
       rfl
      refine sg (i:=5) (N:=some 20) (v:=?_) (a':=?_) #[true,true,true,true,true,true,false,false] rfl rfl (af Cf.out yo.out (by kernel_rfl)) (fun _ _ _ h=>h) (Or.inl ⟨by rfl,?_⟩) hHeld ?_ ?_
      rotate_left
      ·rintro w' ⟨s0,s1,s2,s3,s4,s5,s6,s7,s8,s9,Rz,oM,nM,mM,cW,bW,aW⟩
       go_simp
       with_reducible rfl
      rotate_left
      ·simp only [Act.put,List.setIfInBounds_toArray,List.set_cons_zero,List.set_cons_succ,Ib,Jb]
       rfl
      refine Vo (i:=6) (N:=some 21) #[true,true,true,true,true,true,true,false] rfl rfl (Pk Cf.out (by kernel_rfl)) (by decide) (fun K hK=>?_)
      refine Kn Try.func111 (by kernel_rfl) rfl #[.agg #[.slice Cb Ta.length Bb,.int .i64 Ma,.int .i64 Oa,.int .i64 Pa,.slice yc Sa.length Xb],.agg #[.int .i64 ((Ja Dd Ia).f0),.int .i64 ((Ja Dd Ia).f1),.int .i64 ((Ja Dd Ia).f2),.int .i64 ((Ja Dd Ia).f3),.int .i64 ((Ja Dd Ia).f4),.int .i64 ((Ja Dd Ia).f5),.string ((Ja Dd Ia).f6)]] (by rfl) rfl rfl (by (try simp only [List.map_toArray,List.map_cons,List.map_nil]);first|done|rfl|(simp only [List.length_drop,List.length_take];rfl)) ?_
      with_reducible refine (Ya.calls k1 _ _ Ta Ma Oa Pa _ _ Sa ((Ja Dd Ia).f0) ((Ja Dd Ia).f1) ((Ja Dd Ia).f2) ((Ja Dd Ia).f3) ((Ja Dd Ia).f4) ((Ja Dd Ia).f5) ((Ja Dd Ia).f6) true _ ?side1 ?side2 ?side3 ?side4 A7.out).mono ?_
      (case side1=>repeat (first|exact (Kd.Mb ig.out HB.out)|(with_reducible refine Kd.Sc ?_ _)|(with_reducible refine Kd.Rc ?_ _)|(with_reducible refine Kd.Qd ?_)))
      (case side2=>exact mg.out)
      (case side3=>repeat (first|exact (Kd.Mb oh.out HB.out)|(with_reducible refine Kd.Sc ?_ _)|(with_reducible refine Kd.Rc ?_ _)|(with_reducible refine Kd.Qd ?_)))
      (case side4=>exact qj.out)
      rintro e Nr ⟨rfl,hb⟩
      refine ⟨_,rfl,?_⟩
      have Gb:=ja.mk (gb (g:=Ea) (o:=.cells #[.slice Cb Ta.length Bb,.int .i64 Ma,.int .i64 Oa,.int .i64 Pa,.slice yc Sa.length Xb] 30 (0,0)) (by (with_reducible repeat (first|refine Da ?_ _|refine Ga ?_|refine Ca ?_ _));exact za.out) hb)
      have Vb:=ja.mk (gb (g:=Fa) (o:=.cells #[.slice (some Kf) Dd.length Nf,.int .i64 Fb,.int .i64 Ob,.int .i64 Rb,.int .i64 Qc] 68 (0,0)) (by (with_reducible repeat (first|refine Da ?_ _|refine Ga ?_|refine Ca ?_ _));exact Ba.out) hb)
      have Ac:=ja.mk (Qa (by repeat (first|(with_reducible first|exact HB.out|apply qa|apply ia|apply ua|refine Aa ?_ Wa.out|refine Aa ?_ Sb.out)|exact HB.out)) hb)
      clear za
      clear Ba
      clear HB
      have za:=Gb
      have Ba:=Vb
      have HB:=Ac
      clear Gb Vb Ac
      (try clear hb)
      (try clear hb2)
      (try clear hk)
      (try clear hi)
      refine hK.out _ _ ⟨(ga za.out 0).trans rfl,(ga za.out 1).trans rfl,(ga za.out 2).trans rfl,(ga za.out 3).trans rfl,(ga za.out 4).trans rfl,(ga Ba.out 0).trans rfl,(ga Ba.out 1).trans rfl,(ga Ba.out 2).trans rfl,(ga Ba.out 3).trans rfl,(ga Ba.out 4).trans rfl,((HB.out.cell (World.block_lt_of_cell? w _ Um)).trans Um),((HB.out.cell (World.block_lt_of_cell? w _ Sm)).trans Sm),((HB.out.cell (World.block_lt_of_cell? w _ Rm)).trans Rm),((HB.out.cell (World.block_lt_of_cell? w _ Qm)).trans Qm),((HB.out.cell (World.block_lt_of_cell? w _ Pm)).trans Pm),((HB.out.cell (World.block_lt_of_cell? w _ Om)).trans Om),((HB.out.cell (World.block_lt_of_cell? w _ Nm)).trans Nm)⟩ (fun hHeld=>?_)
      clear hK K
      refine Vj (a':=?_) ?_ ?_
      rotate_left
      ·show Act.put _ (some 21) _=_
       simp only [Act.put,List.setIfInBounds_toArray,List.set_cons_zero,List.set_cons_succ,Ib,Jb]
       rfl
      refine qd (i:=7) (N:=some 22) (v:=?_) (a':=?_) #[true,true,true,true,true,true,true,true] rfl rfl (Oc Cf.out (by kernel_rfl)) (fun _ _ _ h=>h) (Or.inl ⟨by rfl,?_⟩) ?_ ?_
      rotate_left
      ·intro w'
       go_simp
       with_reducible rfl
      rotate_left
      ·simp only [Act.put,List.setIfInBounds_toArray,List.set_cons_zero,List.set_cons_succ,Ib,Jb]
       rfl
      refine wm (Sj Cf.out (by kernel_rfl)) ?_
      try go_wp2
      go_roundg k1
      case measure=>have:=Yg.out;omega
      case rel=>exact ⟨(wrap64 (Ia + 1)),(by first|rfl|(simp;done)|(simp [*];done)),H',⟨by have:=Yg.out;omega⟩,⟨by (with_reducible repeat (first|refine Da ?_ _|refine Ga ?_|refine Ca ?_ _));exact za.out⟩,⟨by (with_reducible repeat (first|refine Da ?_ _|refine Ga ?_|refine Ca ?_ _));exact Ba.out⟩,⟨by repeat (first|(with_reducible first|exact HB.out|apply qa|apply ia|apply ua|refine Aa ?_ Wa.out|refine Aa ?_ Sb.out)|exact HB.out)⟩⟩
     ·replace c8:=Bool.eq_false_iff.mpr c8
      subst c8
      have H1:(some false)=some r:=by rw [if_neg (show ¬ (false=true) by decide)] at H;exact H
      clear H
      have H:=H1
      clear H1
      obtain rfl:=Option.some.inj H
      have Laj:=jb.out
      have Yai:=Ua.out
      have uo:wr.cell? ⟨Fa,0,none⟩=some (.slice Vf Dd.length Nf):=(ga Ba.out 0).trans rfl
      have qo:wr.cell? ⟨Fa,1,none⟩=some (.int .i64 Fb):=(ga Ba.out 1).trans rfl
      have Zp:wr.cell? ⟨Fa,2,none⟩=some (.int .i64 Ob):=(ga Ba.out 2).trans rfl
      have Yp:wr.cell? ⟨Fa,3,none⟩=some (.int .i64 Rb):=(ga Ba.out 3).trans rfl
      have Xp:wr.cell? ⟨Fa,4,none⟩=some (.int .i64 Qc):=(ga Ba.out 4).trans rfl
      have jo:=aa Ba.out 0
      have fo:=aa Ba.out 1
      have Ip:=aa Ba.out 2
      have Hp:=aa Ba.out 3
      have Gp:=aa Ba.out 4
      try go_wp2
      have Gb:=ja.mk (Ga za.out)
      have Vb:=ja.mk (Ga Ba.out)
      have Ac:=ja.mk (ua HB.out)
      clear za
      clear Ba
      clear HB
      have za:=Gb
      have Ba:=Vb
      have HB:=Ac
      clear Gb Vb Ac
      have Ah:0 ≤ (Ia:Int):=of_decide_eq_true (by first|(with_reducible assumption)|assumption)
      have yh:Ia < (Dd.length:Int):=of_decide_eq_true (by first|(with_reducible assumption)|assumption)
      obtain ⟨Kf,vm,Gd,Xd,Wd,Vd,Ud,zf,yf⟩:=tf xm.out Ia Ah yh
      have Nm:=yf
      have Om:=zf
      have Pm:=Ud
      have Qm:=Vd
      have Rm:=Wd
      have Sm:=Xd
      have Um:=Gd
      cases vm
      replace Gd:=(HB.out.cell (World.block_lt_of_cell? w _ Gd)).trans Gd
      replace Xd:=(HB.out.cell (World.block_lt_of_cell? w _ Xd)).trans Xd
      replace Wd:=(HB.out.cell (World.block_lt_of_cell? w _ Wd)).trans Wd
      replace Vd:=(HB.out.cell (World.block_lt_of_cell? w _ Vd)).trans Vd
      replace Ud:=(HB.out.cell (World.block_lt_of_cell? w _ Ud)).trans Ud
      replace zf:=(HB.out.cell (World.block_lt_of_cell? w _ zf)).trans zf
      replace yf:=(HB.out.cell (World.block_lt_of_cell? w _ yf)).trans yf
      replace Ah:=eq_true Ah
      replace yh:=eq_true yh
      refine Xj (n:=8) (S:=fun w'=>w'.cell? ⟨Ea,0,none⟩=some (.slice Cb Ta.length Bb)∧w'.cell? ⟨Ea,1,none⟩=some (.int .i64 Ma)∧w'.cell? ⟨Ea,2,none⟩=some (.int .i64 Oa)∧w'.cell? ⟨Ea,3,none⟩=some (.int .i64 Pa)∧w'.cell? ⟨Ea,4,none⟩=some (.slice yc Sa.length Xb)∧w'.cell? ⟨Fa,0,none⟩=some (.slice (some Kf) Dd.length Nf)∧w'.cell? ⟨Fa,1,none⟩=some (.int .i64 Fb)∧w'.cell? ⟨Fa,2,none⟩=some (.int .i64 Ob)∧w'.cell? ⟨Fa,3,none⟩=some (.int .i64 Rb)∧w'.cell? ⟨Fa,4,none⟩=some (.int .i64 Qc)∧w'.cell? (Kf.add ((Ia).toNat * 7))=some (.int .i64 ((Ja Dd Ia).f0))∧w'.cell? ⟨(Kf.add ((Ia).toNat * 7)).block,(Kf.add ((Ia).toNat * 7)).off + 1,none⟩=some (.int .i64 ((Ja Dd Ia).f1))∧w'.cell? ⟨(Kf.add ((Ia).toNat * 7)).block,(Kf.add ((Ia).toNat * 7)).off + 2,none⟩=some (.int .i64 ((Ja Dd Ia).f2))∧w'.cell? ⟨(Kf.add ((Ia).toNat * 7)).block,(Kf.add ((Ia).toNat * 7)).off + 3,none⟩=some (.int .i64 ((Ja Dd Ia).f3))∧w'.cell? ⟨(Kf.add ((Ia).toNat * 7)).block,(Kf.add ((Ia).toNat * 7)).off + 4,none⟩=some (.int .i64 ((Ja Dd Ia).f4))∧w'.cell? ⟨(Kf.add ((Ia).toNat * 7)).block,(Kf.add ((Ia).toNat * 7)).off + 5,none⟩=some (.int .i64 ((Ja Dd Ia).f5))∧w'.cell? ⟨(Kf.add ((Ia).toNat * 7)).block,(Kf.add ((Ia).toNat * 7)).off + 6,none⟩=some (.string ((Ja Dd Ia).f6))) (ds:=[]) #[false,false,false,false,false,false,false,false] (by kernel_rfl) rfl rfl ⟨(ga za.out 0).trans rfl,(ga za.out 1).trans rfl,(ga za.out 2).trans rfl,(ga za.out 3).trans rfl,(ga za.out 4).trans rfl,(ga Ba.out 0).trans rfl,(ga Ba.out 1).trans rfl,(ga Ba.out 2).trans rfl,(ga Ba.out 3).trans rfl,(ga Ba.out 4).trans rfl,((HB.out.cell (World.block_lt_of_cell? w _ Um)).trans Um),((HB.out.cell (World.block_lt_of_cell? w _ Sm)).trans Sm),((HB.out.cell (World.block_lt_of_cell? w _ Rm)).trans Rm),((HB.out.cell (World.block_lt_of_cell? w _ Qm)).trans Qm),((HB.out.cell (World.block_lt_of_cell? w _ Pm)).trans Pm),((HB.out.cell (World.block_lt_of_cell? w _ Om)).trans Om),((HB.out.cell (World.block_lt_of_cell? w _ Nm)).trans Nm)⟩ (fun hHeld=>?_);refine Uh Ab.XV Ab.SR (fun Cf yo=>?_)
      generalize wr.drew=Nk at za Ba HB Gd Xd Wd Vd Ud zf yf hHeld ⊢
      refine qd (i:=1) (N:=some 16) (v:=?_) (a':=?_) #[false,true,false,false,false,false,false,false] rfl rfl (Oc Cf.out (by kernel_rfl)) (fun _ _ _ h=>h) (Or.inl ⟨by rfl,?_⟩) ?_ ?_
      rotate_left
      ·intro w'
       go_simp
       with_reducible rfl
      rotate_left
      ·simp only [Act.put,List.setIfInBounds_toArray,List.set_cons_zero,List.set_cons_succ,Ib,Jb]
       rfl
      refine qd (i:=3) (N:=some 18) (v:=?_) (a':=?_) #[false,true,false,true,false,false,false,false] rfl rfl (Oc Cf.out (by kernel_rfl)) (fun _ _ _ h=>h) (Or.inl ⟨by rfl,?_⟩) ?_ ?_
      rotate_left
      ·intro w'
       go_simp
       with_reducible rfl
      rotate_left
      ·simp only [Act.put,List.setIfInBounds_toArray,List.set_cons_zero,List.set_cons_succ,Ib,Jb]
       rfl
      refine sg (i:=0) (N:=some 15) (v:=?_) (a':=?_) #[true,true,false,true,false,false,false,false] rfl rfl (af Cf.out yo.out (by kernel_rfl)) (fun _ _ _ h=>h) (Or.inl ⟨by rfl,?_⟩) hHeld ?_ ?_
      rotate_left
      ·rintro w' ⟨s0,s1,s2,s3,s4,s5,s6,s7,s8,s9,Rz,oM,nM,mM,cW,bW,aW⟩
       go_simp
       with_reducible rfl
      rotate_left
      ·simp only [Act.put,List.setIfInBounds_toArray,List.set_cons_zero,List.set_cons_succ,Ib,Jb]
       rfl
      refine sg (i:=2) (N:=some 17) (v:=?_) (a':=?_) #[true,true,true,true,false,false,false,false] rfl rfl (af Cf.out yo.out (by kernel_rfl)) (fun _ _ _ h=>h) (Or.inl ⟨by rfl,?_⟩) hHeld ?_ ?_
      rotate_left
      ·rintro w' ⟨s0,s1,s2,s3,s4,s5,s6,s7,s8,s9,Rz,oM,nM,mM,cW,bW,aW⟩
       go_simp
       with_reducible rfl
      rotate_left
      ·simp only [Act.put,List.setIfInBounds_toArray,List.set_cons_zero,List.set_cons_succ,Ib,Jb]
       rfl
      refine qd (i:=4) (N:=some 19) (v:=?_) (a':=?_) #[true,true,true,true,true,false,false,false] rfl rfl (Oc Cf.out (by kernel_rfl)) (fun _ _ _ h=>h) (Or.inl ⟨by rfl,?_⟩) ?_ ?_
      rotate_left
      ·intro w'
       go_simp
       with_reducible rfl
      rotate_left
      ·simp only [Act.put,List.setIfInBounds_toArray,List.set_cons_zero,List.set_cons_succ,Ib,Jb]
       rfl
      refine sg (i:=5) (N:=some 20) (v:=?_) (a':=?_) #[true,true,true,true,true,true,false,false] rfl rfl (af Cf.out yo.out (by kernel_rfl)) (fun _ _ _ h=>h) (Or.inl ⟨by rfl,?_⟩) hHeld ?_ ?_
      rotate_left
      ·rintro w' ⟨s0,s1,s2,s3,s4,s5,s6,s7,s8,s9,Rz,oM,nM,mM,cW,bW,aW⟩
       go_simp
       with_reducible rfl
      rotate_left
      ·simp only [Act.put,List.setIfInBounds_toArray,List.set_cons_zero,List.set_cons_succ,Ib,Jb]
       rfl
      refine Vo (i:=6) (N:=some 21) #[true,true,true,true,true,true,true,false] rfl rfl (Pk Cf.out (by kernel_rfl)) (by decide) (fun K hK=>?_)
      refine Kn Try.func111 (by kernel_rfl) rfl #[.agg #[.slice Cb Ta.length Bb,.int .i64 Ma,.int .i64 Oa,.int .i64 Pa,.slice yc Sa.length Xb],.agg #[.int .i64 ((Ja Dd Ia).f0),.int .i64 ((Ja Dd Ia).f1),.int .i64 ((Ja Dd Ia).f2),.int .i64 ((Ja Dd Ia).f3),.int .i64 ((Ja Dd Ia).f4),.int .i64 ((Ja Dd Ia).f5),.string ((Ja Dd Ia).f6)]] (by rfl) rfl rfl (by (try simp only [List.map_toArray,List.map_cons,List.map_nil]);first|done|rfl|(simp only [List.length_drop,List.length_take];rfl)) ?_
      with_reducible refine (Ya.calls k1 _ _ Ta Ma Oa Pa _ _ Sa ((Ja Dd Ia).f0) ((Ja Dd Ia).f1) ((Ja Dd Ia).f2) ((Ja Dd Ia).f3) ((Ja Dd Ia).f4) ((Ja Dd Ia).f5) ((Ja Dd Ia).f6) false _ ?side1 ?side2 ?side3 ?side4 A7.out).mono ?_
      (case side1=>repeat (first|exact (Kd.Mb ig.out HB.out)|(with_reducible refine Kd.Sc ?_ _)|(with_reducible refine Kd.Rc ?_ _)|(with_reducible refine Kd.Qd ?_)))
      (case side2=>exact mg.out)
      (case side3=>repeat (first|exact (Kd.Mb oh.out HB.out)|(with_reducible refine Kd.Sc ?_ _)|(with_reducible refine Kd.Rc ?_ _)|(with_reducible refine Kd.Qd ?_)))
      (case side4=>exact qj.out)
      rintro e az ⟨rfl,hb⟩
      refine ⟨_,rfl,?_⟩
      have Gb:=ja.mk (gb (g:=Ea) (o:=.cells #[.slice Cb Ta.length Bb,.int .i64 Ma,.int .i64 Oa,.int .i64 Pa,.slice yc Sa.length Xb] 30 (0,0)) (by (with_reducible repeat (first|refine Da ?_ _|refine Ga ?_|refine Ca ?_ _));exact za.out) hb)
      have Vb:=ja.mk (gb (g:=Fa) (o:=.cells #[.slice (some Kf) Dd.length Nf,.int .i64 Fb,.int .i64 Ob,.int .i64 Rb,.int .i64 Qc] 68 (0,0)) (by (with_reducible repeat (first|refine Da ?_ _|refine Ga ?_|refine Ca ?_ _));exact Ba.out) hb)
      have Ac:=ja.mk (Qa (by repeat (first|(with_reducible first|exact HB.out|apply qa|apply ia|apply ua|refine Aa ?_ Wa.out|refine Aa ?_ Sb.out)|exact HB.out)) hb)
      clear za
      clear Ba
      clear HB
      have za:=Gb
      have Ba:=Vb
      have HB:=Ac
      clear Gb Vb Ac
      (try clear hb)
      (try clear hb2)
      (try clear hk)
      (try clear hi)
      refine hK.out _ _ ⟨(ga za.out 0).trans rfl,(ga za.out 1).trans rfl,(ga za.out 2).trans rfl,(ga za.out 3).trans rfl,(ga za.out 4).trans rfl,(ga Ba.out 0).trans rfl,(ga Ba.out 1).trans rfl,(ga Ba.out 2).trans rfl,(ga Ba.out 3).trans rfl,(ga Ba.out 4).trans rfl,((HB.out.cell (World.block_lt_of_cell? w _ Um)).trans Um),((HB.out.cell (World.block_lt_of_cell? w _ Sm)).trans Sm),((HB.out.cell (World.block_lt_of_cell? w _ Rm)).trans Rm),((HB.out.cell (World.block_lt_of_cell? w _ Qm)).trans Qm),((HB.out.cell (World.block_lt_of_cell? w _ Pm)).trans Pm),((HB.out.cell (World.block_lt_of_cell? w _ Om)).trans Om),((HB.out.cell (World.block_lt_of_cell? w _ Nm)).trans Nm)⟩ (fun hHeld=>?_)
      clear hK K
      refine Vj (a':=?_) ?_ ?_
      rotate_left
      ·show Act.put _ (some 21) _=_
       simp only [Act.put,List.setIfInBounds_toArray,List.set_cons_zero,List.set_cons_succ,Ib,Jb]
       rfl
      refine qd (i:=7) (N:=some 22) (v:=?_) (a':=?_) #[true,true,true,true,true,true,true,true] rfl rfl (Oc Cf.out (by kernel_rfl)) (fun _ _ _ h=>h) (Or.inl ⟨by rfl,?_⟩) ?_ ?_
      rotate_left
      ·intro w'
       go_simp
       with_reducible rfl
      rotate_left
      ·simp only [Act.put,List.setIfInBounds_toArray,List.set_cons_zero,List.set_cons_succ,Ib,Jb]
       rfl
      refine wm (Sj Cf.out (by kernel_rfl)) ?_
      try go_wp2
      go_ret
      exact ⟨by first|rfl|(simp [La,Ka] <;> rfl)|(simp [*,La,Ka] <;> rfl),by repeat (first|(with_reducible first|exact HB.out|apply qa|apply ia|apply ua|refine Aa ?_ Wa.out|refine Aa ?_ Sb.out)|exact HB.out)⟩
    ·rw [if_neg c6] at H
     exact absurd H (by simp)
   ·rw [if_neg c5] at H
    have Il:decide (Ia < (Dd.length:Int))=false:=decide_eq_false c5
    clear c5
    replace H:=Option.bind_eq_some_iff.mp H
    obtain ⟨t105,Y6,H⟩:=H
    replace H:((Za.f Ob 0 (wrap64 (Pa - 1))).bind fun t106=>(if Fb=0 then (if t105=true then (if Ob=0 then (some (Qc == 0)) else (some false)) else (some false)) else (if Fb=1 then (if t105=true then (if t106=true then ((Za.f Qc 0 (wrap64 ((Sa.length:Int) - 1))).bind fun t107=>(some t107)) else (some false)) else (some false)) else (if Fb=2 then (if t106=true then (if Rb=0 then (some (Qc == 0)) else (some false)) else (some false)) else (some false)))))=some r:=H
    have ZL:=ja.mk Y6
    clear Y6
    replace H:=Option.bind_eq_some_iff.mp H
    obtain ⟨t106,PL,H⟩:=H
    replace H:(if Fb=0 then (if t105=true then (if Ob=0 then (some (Qc == 0)) else (some false)) else (some false)) else (if Fb=1 then (if t105=true then (if t106=true then ((Za.f Qc 0 (wrap64 ((Sa.length:Int) - 1))).bind fun t107=>(some t107)) else (some false)) else (some false)) else (if Fb=2 then (if t106=true then (if Rb=0 then (some (Qc == 0)) else (some false)) else (some false)) else (some false))))=some r:=H
    have cJ:=ja.mk PL
    clear PL
    by_cases c19:Fb=0
    ·rw [if_pos c19] at H
     have FC:(Fb == 0)=true:=beq_iff_eq.mpr c19
     have G4:(Fb != 0)=false:=bne_eq_false_iff_eq.mpr c19
     clear c19
     by_cases c20:t105=true
     ·subst c20
      have H1:(if Ob=0 then (some (Qc == 0)) else (some false))=some r:=by rw [if_pos rfl] at H;exact H
      clear H
      have H:=H1
      clear H1
      by_cases c21:Ob=0
      ·rw [if_pos c21] at H
       have EC:(Ob == 0)=true:=beq_iff_eq.mpr c21
       have oL:(Ob != 0)=false:=bne_eq_false_iff_eq.mpr c21
       clear c21
       obtain rfl:=Option.some.inj H
       have kR:=jb.out
       have eR:=Ua.out
       have Ak:wr.cell? ⟨Fa,0,none⟩=some (.slice Vf Dd.length Nf):=(ga Ba.out 0).trans rfl
       have zk:wr.cell? ⟨Fa,1,none⟩=some (.int .i64 Fb):=(ga Ba.out 1).trans rfl
       have oo:wr.cell? ⟨Fa,2,none⟩=some (.int .i64 Ob):=(ga Ba.out 2).trans rfl
       have mo:wr.cell? ⟨Fa,3,none⟩=some (.int .i64 Rb):=(ga Ba.out 3).trans rfl
       have ko:wr.cell? ⟨Fa,4,none⟩=some (.int .i64 Qc):=(ga Ba.out 4).trans rfl
       have nk:=aa Ba.out 0
       have jk:=aa Ba.out 1
       have Zn:=aa Ba.out 2
       have Yn:=aa Ba.out 3
       have Xn:=aa Ba.out 4
       have kn:wr.cell? ⟨Ea,0,none⟩=some (.slice Cb Ta.length Bb):=(ga za.out 0).trans rfl
       have jn:wr.cell? ⟨Ea,1,none⟩=some (.int .i64 Ma):=(ga za.out 1).trans rfl
       have qu:wr.cell? ⟨Ea,2,none⟩=some (.int .i64 Oa):=(ga za.out 2).trans rfl
       have ou:wr.cell? ⟨Ea,3,none⟩=some (.int .i64 Pa):=(ga za.out 3).trans rfl
       have nu:wr.cell? ⟨Ea,4,none⟩=some (.slice yc Sa.length Xb):=(ga za.out 4).trans rfl
       have cn:=aa za.out 0
       have bn:=aa za.out 1
       have Ot:=aa za.out 2
       have Nt:=aa za.out 3
       have Mt:=aa za.out 4
       go_wp2_with (first|((with_reducible refine mb (f:=54) rfl ?_);refine yd (some 29) rfl rfl Try.func54 (by kernel_rfl) rfl #[.int .i64 Rb,.int .i64 0,.int .i64 (wrap64 ((Sa.length:Int) - 1))] rfl (by (try simp only [List.map_toArray,List.map_cons,List.map_nil]);first|done|rfl|(simp only [List.length_drop,List.length_take];rfl)) ?_;(with_reducible refine (Za.calls Rb 0 (wrap64 ((Sa.length:Int) - 1)) true _ ZL.out).mono ?_);rintro e w' ⟨rfl,⟨nd,rfl⟩⟩;refine ⟨_,rfl,?_⟩)|((with_reducible refine mb (f:=54) rfl ?_);refine yd (some 35) rfl rfl Try.func54 (by kernel_rfl) rfl #[.int .i64 Ob,.int .i64 0,.int .i64 (wrap64 (Pa - 1))] rfl (by (try simp only [List.map_toArray,List.map_cons,List.map_nil]);first|done|rfl|(simp only [List.length_drop,List.length_take];rfl)) ?_;(with_reducible refine (Za.calls Ob 0 (wrap64 (Pa - 1)) t106 _ cJ.out).mono ?_);rintro e w' ⟨rfl,⟨nd,rfl⟩⟩;refine ⟨_,rfl,?_⟩))
       go_ret
       exact ⟨by first|rfl|(simp [La,Ka] <;> rfl)|(simp [*,La,Ka] <;> rfl),by repeat (first|(with_reducible first|exact HB.out|apply qa|apply ia|apply ua|refine Aa ?_ Wa.out|refine Aa ?_ Sb.out)|exact HB.out)⟩
      ·rw [if_neg c21] at H
       have EC:(Ob == 0)=false:=beq_eq_false_iff_ne.mpr c21
       have oL:(Ob != 0)=true:=bne_iff_ne.mpr c21
       obtain rfl:=Option.some.inj H
       have dX:=jb.out
       have LW:=Ua.out
       have lu:wr.cell? ⟨Fa,0,none⟩=some (.slice Vf Dd.length Nf):=(ga Ba.out 0).trans rfl
       have ku:wr.cell? ⟨Fa,1,none⟩=some (.int .i64 Fb):=(ga Ba.out 1).trans rfl
       have ju:wr.cell? ⟨Fa,2,none⟩=some (.int .i64 Ob):=(ga Ba.out 2).trans rfl
       have iu:wr.cell? ⟨Fa,3,none⟩=some (.int .i64 Rb):=(ga Ba.out 3).trans rfl
       have gu:wr.cell? ⟨Fa,4,none⟩=some (.int .i64 Qc):=(ga Ba.out 4).trans rfl
       have Lt:=aa Ba.out 0
       have Kt:=aa Ba.out 1
       have Jt:=aa Ba.out 2
       have Ht:=aa Ba.out 3
       have Gt:=aa Ba.out 4
       have sx:wr.cell? ⟨Ea,0,none⟩=some (.slice Cb Ta.length Bb):=(ga za.out 0).trans rfl
       have qx:wr.cell? ⟨Ea,1,none⟩=some (.int .i64 Ma):=(ga za.out 1).trans rfl
       have ox:wr.cell? ⟨Ea,2,none⟩=some (.int .i64 Oa):=(ga za.out 2).trans rfl
       have jx:wr.cell? ⟨Ea,3,none⟩=some (.int .i64 Pa):=(ga za.out 3).trans rfl
       have gx:wr.cell? ⟨Ea,4,none⟩=some (.slice yc Sa.length Xb):=(ga za.out 4).trans rfl
       have Ew:=aa za.out 0
       have Dw:=aa za.out 1
       have Cw:=aa za.out 2
       have Bw:=aa za.out 3
       have Aw:=aa za.out 4
       go_wp2_with (first|((with_reducible refine mb (f:=54) rfl ?_);refine yd (some 29) rfl rfl Try.func54 (by kernel_rfl) rfl #[.int .i64 Rb,.int .i64 0,.int .i64 (wrap64 ((Sa.length:Int) - 1))] rfl (by (try simp only [List.map_toArray,List.map_cons,List.map_nil]);first|done|rfl|(simp only [List.length_drop,List.length_take];rfl)) ?_;(with_reducible refine (Za.calls Rb 0 (wrap64 ((Sa.length:Int) - 1)) true _ ZL.out).mono ?_);rintro e w' ⟨rfl,⟨nd,rfl⟩⟩;refine ⟨_,rfl,?_⟩)|((with_reducible refine mb (f:=54) rfl ?_);refine yd (some 35) rfl rfl Try.func54 (by kernel_rfl) rfl #[.int .i64 Ob,.int .i64 0,.int .i64 (wrap64 (Pa - 1))] rfl (by (try simp only [List.map_toArray,List.map_cons,List.map_nil]);first|done|rfl|(simp only [List.length_drop,List.length_take];rfl)) ?_;(with_reducible refine (Za.calls Ob 0 (wrap64 (Pa - 1)) t106 _ cJ.out).mono ?_);rintro e w' ⟨rfl,⟨nd,rfl⟩⟩;refine ⟨_,rfl,?_⟩))
       go_ret
       exact ⟨by first|rfl|(simp [La,Ka] <;> rfl)|(simp [*,La,Ka] <;> rfl),by repeat (first|(with_reducible first|exact HB.out|apply qa|apply ia|apply ua|refine Aa ?_ Wa.out|refine Aa ?_ Sb.out)|exact HB.out)⟩
     ·replace c20:=Bool.eq_false_iff.mpr c20
      subst c20
      have H1:(some false)=some r:=by rw [if_neg (show ¬ (false=true) by decide)] at H;exact H
      clear H
      have H:=H1
      clear H1
      obtain rfl:=Option.some.inj H
      have iR:=jb.out
      have cR:=Ua.out
      have Wp:wr.cell? ⟨Fa,0,none⟩=some (.slice Vf Dd.length Nf):=(ga Ba.out 0).trans rfl
      have Vp:wr.cell? ⟨Fa,1,none⟩=some (.int .i64 Fb):=(ga Ba.out 1).trans rfl
      have vH:wr.cell? ⟨Fa,2,none⟩=some (.int .i64 Ob):=(ga Ba.out 2).trans rfl
      have uH:wr.cell? ⟨Fa,3,none⟩=some (.int .i64 Rb):=(ga Ba.out 3).trans rfl
      have tH:wr.cell? ⟨Fa,4,none⟩=some (.int .i64 Qc):=(ga Ba.out 4).trans rfl
      have Fp:=aa Ba.out 0
      have Ep:=aa Ba.out 1
      have eG:=aa Ba.out 2
      have dG:=aa Ba.out 3
      have cG:=aa Ba.out 4
      have OP:wr.cell? ⟨Ea,0,none⟩=some (.slice Cb Ta.length Bb):=(ga za.out 0).trans rfl
      have NP:wr.cell? ⟨Ea,1,none⟩=some (.int .i64 Ma):=(ga za.out 1).trans rfl
      have MP:wr.cell? ⟨Ea,2,none⟩=some (.int .i64 Oa):=(ga za.out 2).trans rfl
      have LP:wr.cell? ⟨Ea,3,none⟩=some (.int .i64 Pa):=(ga za.out 3).trans rfl
      have KP:wr.cell? ⟨Ea,4,none⟩=some (.slice yc Sa.length Xb):=(ga za.out 4).trans rfl
      have VN:=aa za.out 0
      have UN:=aa za.out 1
      have TN:=aa za.out 2
      have SN:=aa za.out 3
      have RN:=aa za.out 4
      go_wp2_with (first|((with_reducible refine mb (f:=54) rfl ?_);refine yd (some 29) rfl rfl Try.func54 (by kernel_rfl) rfl #[.int .i64 Rb,.int .i64 0,.int .i64 (wrap64 ((Sa.length:Int) - 1))] rfl (by (try simp only [List.map_toArray,List.map_cons,List.map_nil]);first|done|rfl|(simp only [List.length_drop,List.length_take];rfl)) ?_;(with_reducible refine (Za.calls Rb 0 (wrap64 ((Sa.length:Int) - 1)) false _ ZL.out).mono ?_);rintro e w' ⟨rfl,⟨nd,rfl⟩⟩;refine ⟨_,rfl,?_⟩)|((with_reducible refine mb (f:=54) rfl ?_);refine yd (some 35) rfl rfl Try.func54 (by kernel_rfl) rfl #[.int .i64 Ob,.int .i64 0,.int .i64 (wrap64 (Pa - 1))] rfl (by (try simp only [List.map_toArray,List.map_cons,List.map_nil]);first|done|rfl|(simp only [List.length_drop,List.length_take];rfl)) ?_;(with_reducible refine (Za.calls Ob 0 (wrap64 (Pa - 1)) t106 _ cJ.out).mono ?_);rintro e w' ⟨rfl,⟨nd,rfl⟩⟩;refine ⟨_,rfl,?_⟩))
      go_ret
      exact ⟨by first|rfl|(simp [La,Ka] <;> rfl)|(simp [*,La,Ka] <;> rfl),by repeat (first|(with_reducible first|exact HB.out|apply qa|apply ia|apply ua|refine Aa ?_ Wa.out|refine Aa ?_ Sb.out)|exact HB.out)⟩
    ·rw [if_neg c19] at H
     have FC:(Fb == 0)=false:=beq_eq_false_iff_ne.mpr c19
     have G4:(Fb != 0)=true:=bne_iff_ne.mpr c19
     by_cases c31:Fb=1
     ·rw [if_pos c31] at H
      have C4:(Fb == 1)=true:=beq_iff_eq.mpr c31
      have m4:(Fb != 1)=false:=bne_eq_false_iff_eq.mpr c31
      clear c31
      by_cases c32:t105=true
      ·subst c32
       have H1:(if t106=true then ((Za.f Qc 0 (wrap64 ((Sa.length:Int) - 1))).bind fun t107=>(some t107)) else (some false))=some r:=by rw [if_pos rfl] at H;exact H
       clear H
       have H:=H1
       clear H1
       by_cases c33:t106=true
       ·subst c33
        have H1:((Za.f Qc 0 (wrap64 ((Sa.length:Int) - 1))).bind fun t107=>(some t107))=some r:=by rw [if_pos rfl] at H;exact H
        clear H
        have H:=H1
        clear H1
        replace H:=Option.bind_eq_some_iff.mp H
        obtain ⟨t107,R6,H⟩:=H
        replace H:(some t107)=some r:=H
        have A34:=ja.mk R6
        clear R6
        obtain rfl:=Option.some.inj H
        have ZW:=jb.out
        have GW:=Ua.out
        have jr:wr.cell? ⟨Fa,0,none⟩=some (.slice Vf Dd.length Nf):=(ga Ba.out 0).trans rfl
        have gr:wr.cell? ⟨Fa,1,none⟩=some (.int .i64 Fb):=(ga Ba.out 1).trans rfl
        have iH:wr.cell? ⟨Fa,2,none⟩=some (.int .i64 Ob):=(ga Ba.out 2).trans rfl
        have gH:wr.cell? ⟨Fa,3,none⟩=some (.int .i64 Rb):=(ga Ba.out 3).trans rfl
        have fH:wr.cell? ⟨Fa,4,none⟩=some (.int .i64 Qc):=(ga Ba.out 4).trans rfl
        have Qq:=aa Ba.out 0
        have Pq:=aa Ba.out 1
        have PF:=aa Ba.out 2
        have NF:=aa Ba.out 3
        have MF:=aa Ba.out 4
        have GP:wr.cell? ⟨Ea,0,none⟩=some (.slice Cb Ta.length Bb):=(ga za.out 0).trans rfl
        have FP:wr.cell? ⟨Ea,1,none⟩=some (.int .i64 Ma):=(ga za.out 1).trans rfl
        have EP:wr.cell? ⟨Ea,2,none⟩=some (.int .i64 Oa):=(ga za.out 2).trans rfl
        have DP:wr.cell? ⟨Ea,3,none⟩=some (.int .i64 Pa):=(ga za.out 3).trans rfl
        have CP:wr.cell? ⟨Ea,4,none⟩=some (.slice yc Sa.length Xb):=(ga za.out 4).trans rfl
        have NN:=aa za.out 0
        have MN:=aa za.out 1
        have LN:=aa za.out 2
        have KN:=aa za.out 3
        have JN:=aa za.out 4
        go_wp2_with (first|((with_reducible refine mb (f:=54) rfl ?_);refine yd (some 29) rfl rfl Try.func54 (by kernel_rfl) rfl #[.int .i64 Rb,.int .i64 0,.int .i64 (wrap64 ((Sa.length:Int) - 1))] rfl (by (try simp only [List.map_toArray,List.map_cons,List.map_nil]);first|done|rfl|(simp only [List.length_drop,List.length_take];rfl)) ?_;(with_reducible refine (Za.calls Rb 0 (wrap64 ((Sa.length:Int) - 1)) true _ ZL.out).mono ?_);rintro e w' ⟨rfl,⟨nd,rfl⟩⟩;refine ⟨_,rfl,?_⟩)|((with_reducible refine mb (f:=54) rfl ?_);refine yd (some 35) rfl rfl Try.func54 (by kernel_rfl) rfl #[.int .i64 Ob,.int .i64 0,.int .i64 (wrap64 (Pa - 1))] rfl (by (try simp only [List.map_toArray,List.map_cons,List.map_nil]);first|done|rfl|(simp only [List.length_drop,List.length_take];rfl)) ?_;(with_reducible refine (Za.calls Ob 0 (wrap64 (Pa - 1)) true _ cJ.out).mono ?_);rintro e w' ⟨rfl,⟨nd,rfl⟩⟩;refine ⟨_,rfl,?_⟩)|(go_at_call 54;(with_reducible refine (Za.calls Qc 0 (wrap64 ((Sa.length:Int) - 1)) t107 _ A34.out).mono ?_);rintro e w' ⟨rfl,⟨nd,rfl⟩⟩))
        go_ret
        exact ⟨by first|rfl|(simp [La,Ka] <;> rfl)|(simp [*,La,Ka] <;> rfl),by repeat (first|(with_reducible first|exact HB.out|apply qa|apply ia|apply ua|refine Aa ?_ Wa.out|refine Aa ?_ Sb.out)|exact HB.out)⟩
       ·replace c33:=Bool.eq_false_iff.mpr c33
        subst c33
        have H1:(some false)=some r:=by rw [if_neg (show ¬ (false=true) by decide)] at H;exact H
        clear H
        have H:=H1
        clear H1
        obtain rfl:=Option.some.inj H
        have Baj:=jb.out
        have Oai:=Ua.out
        have cH:wr.cell? ⟨Fa,0,none⟩=some (.slice Vf Dd.length Nf):=(ga Ba.out 0).trans rfl
        have bH:wr.cell? ⟨Fa,1,none⟩=some (.int .i64 Fb):=(ga Ba.out 1).trans rfl
        have aH:wr.cell? ⟨Fa,2,none⟩=some (.int .i64 Ob):=(ga Ba.out 2).trans rfl
        have ZG:wr.cell? ⟨Fa,3,none⟩=some (.int .i64 Rb):=(ga Ba.out 3).trans rfl
        have YG:wr.cell? ⟨Fa,4,none⟩=some (.int .i64 Qc):=(ga Ba.out 4).trans rfl
        have JF:=aa Ba.out 0
        have GF:=aa Ba.out 1
        have FF:=aa Ba.out 2
        have EF:=aa Ba.out 3
        have DF:=aa Ba.out 4
        have Vw:wr.cell? ⟨Ea,0,none⟩=some (.slice Cb Ta.length Bb):=(ga za.out 0).trans rfl
        have Uw:wr.cell? ⟨Ea,1,none⟩=some (.int .i64 Ma):=(ga za.out 1).trans rfl
        have Tw:wr.cell? ⟨Ea,2,none⟩=some (.int .i64 Oa):=(ga za.out 2).trans rfl
        have Sw:wr.cell? ⟨Ea,3,none⟩=some (.int .i64 Pa):=(ga za.out 3).trans rfl
        have Rw:wr.cell? ⟨Ea,4,none⟩=some (.slice yc Sa.length Xb):=(ga za.out 4).trans rfl
        have qw:=aa za.out 0
        have ow:=aa za.out 1
        have nw:=aa za.out 2
        have mw:=aa za.out 3
        have jw:=aa za.out 4
        go_wp2_with (first|((with_reducible refine mb (f:=54) rfl ?_);refine yd (some 29) rfl rfl Try.func54 (by kernel_rfl) rfl #[.int .i64 Rb,.int .i64 0,.int .i64 (wrap64 ((Sa.length:Int) - 1))] rfl (by (try simp only [List.map_toArray,List.map_cons,List.map_nil]);first|done|rfl|(simp only [List.length_drop,List.length_take];rfl)) ?_;(with_reducible refine (Za.calls Rb 0 (wrap64 ((Sa.length:Int) - 1)) true _ ZL.out).mono ?_);rintro e w' ⟨rfl,⟨nd,rfl⟩⟩;refine ⟨_,rfl,?_⟩)|((with_reducible refine mb (f:=54) rfl ?_);refine yd (some 35) rfl rfl Try.func54 (by kernel_rfl) rfl #[.int .i64 Ob,.int .i64 0,.int .i64 (wrap64 (Pa - 1))] rfl (by (try simp only [List.map_toArray,List.map_cons,List.map_nil]);first|done|rfl|(simp only [List.length_drop,List.length_take];rfl)) ?_;(with_reducible refine (Za.calls Ob 0 (wrap64 (Pa - 1)) false _ cJ.out).mono ?_);rintro e w' ⟨rfl,⟨nd,rfl⟩⟩;refine ⟨_,rfl,?_⟩))
        go_ret
        exact ⟨by first|rfl|(simp [La,Ka] <;> rfl)|(simp [*,La,Ka] <;> rfl),by repeat (first|(with_reducible first|exact HB.out|apply qa|apply ia|apply ua|refine Aa ?_ Wa.out|refine Aa ?_ Sb.out)|exact HB.out)⟩
      ·replace c32:=Bool.eq_false_iff.mpr c32
       subst c32
       have H1:(some false)=some r:=by rw [if_neg (show ¬ (false=true) by decide)] at H;exact H
       clear H
       have H:=H1
       clear H1
       obtain rfl:=Option.some.inj H
       have XW:=jb.out
       have EW:=Ua.out
       have XG:wr.cell? ⟨Fa,0,none⟩=some (.slice Vf Dd.length Nf):=(ga Ba.out 0).trans rfl
       have WG:wr.cell? ⟨Fa,1,none⟩=some (.int .i64 Fb):=(ga Ba.out 1).trans rfl
       have VG:wr.cell? ⟨Fa,2,none⟩=some (.int .i64 Ob):=(ga Ba.out 2).trans rfl
       have UG:wr.cell? ⟨Fa,3,none⟩=some (.int .i64 Rb):=(ga Ba.out 3).trans rfl
       have SG:wr.cell? ⟨Fa,4,none⟩=some (.int .i64 Qc):=(ga Ba.out 4).trans rfl
       have CF:=aa Ba.out 0
       have BF:=aa Ba.out 1
       have AF:=aa Ba.out 2
       have zF:=aa Ba.out 3
       have yF:=aa Ba.out 4
       have uP:wr.cell? ⟨Ea,0,none⟩=some (.slice Cb Ta.length Bb):=(ga za.out 0).trans rfl
       have tP:wr.cell? ⟨Ea,1,none⟩=some (.int .i64 Ma):=(ga za.out 1).trans rfl
       have sP:wr.cell? ⟨Ea,2,none⟩=some (.int .i64 Oa):=(ga za.out 2).trans rfl
       have rP:wr.cell? ⟨Ea,3,none⟩=some (.int .i64 Pa):=(ga za.out 3).trans rfl
       have qP:wr.cell? ⟨Ea,4,none⟩=some (.slice yc Sa.length Xb):=(ga za.out 4).trans rfl
       have zN:=aa za.out 0
       have yN:=aa za.out 1
       have xN:=aa za.out 2
       have wN:=aa za.out 3
       have vN:=aa za.out 4
       go_wp2_with (first|((with_reducible refine mb (f:=54) rfl ?_);refine yd (some 29) rfl rfl Try.func54 (by kernel_rfl) rfl #[.int .i64 Rb,.int .i64 0,.int .i64 (wrap64 ((Sa.length:Int) - 1))] rfl (by (try simp only [List.map_toArray,List.map_cons,List.map_nil]);first|done|rfl|(simp only [List.length_drop,List.length_take];rfl)) ?_;(with_reducible refine (Za.calls Rb 0 (wrap64 ((Sa.length:Int) - 1)) false _ ZL.out).mono ?_);rintro e w' ⟨rfl,⟨nd,rfl⟩⟩;refine ⟨_,rfl,?_⟩)|((with_reducible refine mb (f:=54) rfl ?_);refine yd (some 35) rfl rfl Try.func54 (by kernel_rfl) rfl #[.int .i64 Ob,.int .i64 0,.int .i64 (wrap64 (Pa - 1))] rfl (by (try simp only [List.map_toArray,List.map_cons,List.map_nil]);first|done|rfl|(simp only [List.length_drop,List.length_take];rfl)) ?_;(with_reducible refine (Za.calls Ob 0 (wrap64 (Pa - 1)) t106 _ cJ.out).mono ?_);rintro e w' ⟨rfl,⟨nd,rfl⟩⟩;refine ⟨_,rfl,?_⟩))
       go_ret
       exact ⟨by first|rfl|(simp [La,Ka] <;> rfl)|(simp [*,La,Ka] <;> rfl),by repeat (first|(with_reducible first|exact HB.out|apply qa|apply ia|apply ua|refine Aa ?_ Wa.out|refine Aa ?_ Sb.out)|exact HB.out)⟩
     ·rw [if_neg c31] at H
      have C4:(Fb == 1)=false:=beq_eq_false_iff_ne.mpr c31
      have m4:(Fb != 1)=true:=bne_iff_ne.mpr c31
      by_cases c44:Fb=2
      ·rw [if_pos c44] at H
       have mL:(Fb == 2)=true:=beq_iff_eq.mpr c44
       have kL:(Fb != 2)=false:=bne_eq_false_iff_eq.mpr c44
       clear c44
       by_cases c45:t106=true
       ·subst c45
        have H1:(if Rb=0 then (some (Qc == 0)) else (some false))=some r:=by rw [if_pos rfl] at H;exact H
        clear H
        have H:=H1
        clear H1
        by_cases c46:Rb=0
        ·rw [if_pos c46] at H
         have MH:(Rb == 0)=true:=beq_iff_eq.mpr c46
         have jL:(Rb != 0)=false:=bne_eq_false_iff_eq.mpr c46
         clear c46
         obtain rfl:=Option.some.inj H
         have fR:=jb.out
         have aR:=Ua.out
         have cu:wr.cell? ⟨Fa,0,none⟩=some (.slice Vf Dd.length Nf):=(ga Ba.out 0).trans rfl
         have bu:wr.cell? ⟨Fa,1,none⟩=some (.int .i64 Fb):=(ga Ba.out 1).trans rfl
         have PA:wr.cell? ⟨Fa,2,none⟩=some (.int .i64 Ob):=(ga Ba.out 2).trans rfl
         have OA:wr.cell? ⟨Fa,3,none⟩=some (.int .i64 Rb):=(ga Ba.out 3).trans rfl
         have NA:wr.cell? ⟨Fa,4,none⟩=some (.int .i64 Qc):=(ga Ba.out 4).trans rfl
         have Dt:=aa Ba.out 0
         have Ct:=aa Ba.out 1
         have nA:=aa Ba.out 2
         have mA:=aa Ba.out 3
         have lA:=aa Ba.out 4
         have iP:wr.cell? ⟨Ea,0,none⟩=some (.slice Cb Ta.length Bb):=(ga za.out 0).trans rfl
         have gP:wr.cell? ⟨Ea,1,none⟩=some (.int .i64 Ma):=(ga za.out 1).trans rfl
         have fP:wr.cell? ⟨Ea,2,none⟩=some (.int .i64 Oa):=(ga za.out 2).trans rfl
         have eP:wr.cell? ⟨Ea,3,none⟩=some (.int .i64 Pa):=(ga za.out 3).trans rfl
         have dP:wr.cell? ⟨Ea,4,none⟩=some (.slice yc Sa.length Xb):=(ga za.out 4).trans rfl
         have nN:=aa za.out 0
         have mN:=aa za.out 1
         have lN:=aa za.out 2
         have kN:=aa za.out 3
         have jN:=aa za.out 4
         go_wp2_with (first|((with_reducible refine mb (f:=54) rfl ?_);refine yd (some 29) rfl rfl Try.func54 (by kernel_rfl) rfl #[.int .i64 Rb,.int .i64 0,.int .i64 (wrap64 ((Sa.length:Int) - 1))] rfl (by (try simp only [List.map_toArray,List.map_cons,List.map_nil]);first|done|rfl|(simp only [List.length_drop,List.length_take];rfl)) ?_;(with_reducible refine (Za.calls Rb 0 (wrap64 ((Sa.length:Int) - 1)) t105 _ ZL.out).mono ?_);rintro e w' ⟨rfl,⟨nd,rfl⟩⟩;refine ⟨_,rfl,?_⟩)|((with_reducible refine mb (f:=54) rfl ?_);refine yd (some 35) rfl rfl Try.func54 (by kernel_rfl) rfl #[.int .i64 Ob,.int .i64 0,.int .i64 (wrap64 (Pa - 1))] rfl (by (try simp only [List.map_toArray,List.map_cons,List.map_nil]);first|done|rfl|(simp only [List.length_drop,List.length_take];rfl)) ?_;(with_reducible refine (Za.calls Ob 0 (wrap64 (Pa - 1)) true _ cJ.out).mono ?_);rintro e w' ⟨rfl,⟨nd,rfl⟩⟩;refine ⟨_,rfl,?_⟩))
         go_ret
         exact ⟨by first|rfl|(simp [La,Ka] <;> rfl)|(simp [*,La,Ka] <;> rfl),by repeat (first|(with_reducible first|exact HB.out|apply qa|apply ia|apply ua|refine Aa ?_ Wa.out|refine Aa ?_ Sb.out)|exact HB.out)⟩
        ·rw [if_neg c46] at H
         have MH:(Rb == 0)=false:=beq_eq_false_iff_ne.mpr c46
         have jL:(Rb != 0)=true:=bne_iff_ne.mpr c46
         obtain rfl:=Option.some.inj H
         have vaj:=jb.out
         have Iai:=Ua.out
         have kad:wr.cell? ⟨Fa,0,none⟩=some (.slice Vf Dd.length Nf):=(ga Ba.out 0).trans rfl
         have jad:wr.cell? ⟨Fa,1,none⟩=some (.int .i64 Fb):=(ga Ba.out 1).trans rfl
         have iad:wr.cell? ⟨Fa,2,none⟩=some (.int .i64 Ob):=(ga Ba.out 2).trans rfl
         have gad:wr.cell? ⟨Fa,3,none⟩=some (.int .i64 Rb):=(ga Ba.out 3).trans rfl
         have fad:wr.cell? ⟨Fa,4,none⟩=some (.int .i64 Qc):=(ga Ba.out 4).trans rfl
         have Y_:=aa Ba.out 0
         have X_:=aa Ba.out 1
         have V_:=aa Ba.out 2
         have U_:=aa Ba.out 3
         have T_:=aa Ba.out 4
         have MA:wr.cell? ⟨Ea,0,none⟩=some (.slice Cb Ta.length Bb):=(ga za.out 0).trans rfl
         have LA:wr.cell? ⟨Ea,1,none⟩=some (.int .i64 Ma):=(ga za.out 1).trans rfl
         have NG:wr.cell? ⟨Ea,2,none⟩=some (.int .i64 Oa):=(ga za.out 2).trans rfl
         have MG:wr.cell? ⟨Ea,3,none⟩=some (.int .i64 Pa):=(ga za.out 3).trans rfl
         have LG:wr.cell? ⟨Ea,4,none⟩=some (.slice yc Sa.length Xb):=(ga za.out 4).trans rfl
         have kA:=aa za.out 0
         have jA:=aa za.out 1
         have sF:=aa za.out 2
         have rF:=aa za.out 3
         have qF:=aa za.out 4
         go_wp2_with (first|((with_reducible refine mb (f:=54) rfl ?_);refine yd (some 29) rfl rfl Try.func54 (by kernel_rfl) rfl #[.int .i64 Rb,.int .i64 0,.int .i64 (wrap64 ((Sa.length:Int) - 1))] rfl (by (try simp only [List.map_toArray,List.map_cons,List.map_nil]);first|done|rfl|(simp only [List.length_drop,List.length_take];rfl)) ?_;(with_reducible refine (Za.calls Rb 0 (wrap64 ((Sa.length:Int) - 1)) t105 _ ZL.out).mono ?_);rintro e w' ⟨rfl,⟨nd,rfl⟩⟩;refine ⟨_,rfl,?_⟩)|((with_reducible refine mb (f:=54) rfl ?_);refine yd (some 35) rfl rfl Try.func54 (by kernel_rfl) rfl #[.int .i64 Ob,.int .i64 0,.int .i64 (wrap64 (Pa - 1))] rfl (by (try simp only [List.map_toArray,List.map_cons,List.map_nil]);first|done|rfl|(simp only [List.length_drop,List.length_take];rfl)) ?_;(with_reducible refine (Za.calls Ob 0 (wrap64 (Pa - 1)) true _ cJ.out).mono ?_);rintro e w' ⟨rfl,⟨nd,rfl⟩⟩;refine ⟨_,rfl,?_⟩))
         go_ret
         exact ⟨by first|rfl|(simp [La,Ka] <;> rfl)|(simp [*,La,Ka] <;> rfl),by repeat (first|(with_reducible first|exact HB.out|apply qa|apply ia|apply ua|refine Aa ?_ Wa.out|refine Aa ?_ Sb.out)|exact HB.out)⟩
       ·replace c45:=Bool.eq_false_iff.mpr c45
        subst c45
        have H1:(some false)=some r:=by rw [if_neg (show ¬ (false=true) by decide)] at H;exact H
        clear H
        have H:=H1
        clear H1
        obtain rfl:=Option.some.inj H
        have taj:=jb.out
        have Gai:=Ua.out
        have Zac:wr.cell? ⟨Fa,0,none⟩=some (.slice Vf Dd.length Nf):=(ga Ba.out 0).trans rfl
        have Yac:wr.cell? ⟨Fa,1,none⟩=some (.int .i64 Fb):=(ga Ba.out 1).trans rfl
        have Xac:wr.cell? ⟨Fa,2,none⟩=some (.int .i64 Ob):=(ga Ba.out 2).trans rfl
        have Wac:wr.cell? ⟨Fa,3,none⟩=some (.int .i64 Rb):=(ga Ba.out 3).trans rfl
        have Vac:wr.cell? ⟨Fa,4,none⟩=some (.int .i64 Qc):=(ga Ba.out 4).trans rfl
        have O_:=aa Ba.out 0
        have N_:=aa Ba.out 1
        have M_:=aa Ba.out 2
        have L_:=aa Ba.out 3
        have K_:=aa Ba.out 4
        have Uac:wr.cell? ⟨Ea,0,none⟩=some (.slice Cb Ta.length Bb):=(ga za.out 0).trans rfl
        have Tac:wr.cell? ⟨Ea,1,none⟩=some (.int .i64 Ma):=(ga za.out 1).trans rfl
        have Sac:wr.cell? ⟨Ea,2,none⟩=some (.int .i64 Oa):=(ga za.out 2).trans rfl
        have Rac:wr.cell? ⟨Ea,3,none⟩=some (.int .i64 Pa):=(ga za.out 3).trans rfl
        have Qac:wr.cell? ⟨Ea,4,none⟩=some (.slice yc Sa.length Xb):=(ga za.out 4).trans rfl
        have J_:=aa za.out 0
        have I_:=aa za.out 1
        have H_:=aa za.out 2
        have G_:=aa za.out 3
        have F_:=aa za.out 4
        go_wp2_with (first|((with_reducible refine mb (f:=54) rfl ?_);refine yd (some 29) rfl rfl Try.func54 (by kernel_rfl) rfl #[.int .i64 Rb,.int .i64 0,.int .i64 (wrap64 ((Sa.length:Int) - 1))] rfl (by (try simp only [List.map_toArray,List.map_cons,List.map_nil]);first|done|rfl|(simp only [List.length_drop,List.length_take];rfl)) ?_;(with_reducible refine (Za.calls Rb 0 (wrap64 ((Sa.length:Int) - 1)) t105 _ ZL.out).mono ?_);rintro e w' ⟨rfl,⟨nd,rfl⟩⟩;refine ⟨_,rfl,?_⟩)|((with_reducible refine mb (f:=54) rfl ?_);refine yd (some 35) rfl rfl Try.func54 (by kernel_rfl) rfl #[.int .i64 Ob,.int .i64 0,.int .i64 (wrap64 (Pa - 1))] rfl (by (try simp only [List.map_toArray,List.map_cons,List.map_nil]);first|done|rfl|(simp only [List.length_drop,List.length_take];rfl)) ?_;(with_reducible refine (Za.calls Ob 0 (wrap64 (Pa - 1)) false _ cJ.out).mono ?_);rintro e w' ⟨rfl,⟨nd,rfl⟩⟩;refine ⟨_,rfl,?_⟩))
        go_ret
        exact ⟨by first|rfl|(simp [La,Ka] <;> rfl)|(simp [*,La,Ka] <;> rfl),by repeat (first|(with_reducible first|exact HB.out|apply qa|apply ia|apply ua|refine Aa ?_ Wa.out|refine Aa ?_ Sb.out)|exact HB.out)⟩
      ·rw [if_neg c44] at H
       have mL:(Fb == 2)=false:=beq_eq_false_iff_ne.mpr c44
       have kL:(Fb != 2)=true:=bne_iff_ne.mpr c44
       obtain rfl:=Option.some.inj H
       have VW:=jb.out
       have CW:=Ua.out
       have XO:wr.cell? ⟨Fa,0,none⟩=some (.slice Vf Dd.length Nf):=(ga Ba.out 0).trans rfl
       have WO:wr.cell? ⟨Fa,1,none⟩=some (.int .i64 Fb):=(ga Ba.out 1).trans rfl
       have Pac:wr.cell? ⟨Fa,2,none⟩=some (.int .i64 Ob):=(ga Ba.out 2).trans rfl
       have Oac:wr.cell? ⟨Fa,3,none⟩=some (.int .i64 Rb):=(ga Ba.out 3).trans rfl
       have Nac:wr.cell? ⟨Fa,4,none⟩=some (.int .i64 Qc):=(ga Ba.out 4).trans rfl
       have eN:=aa Ba.out 0
       have dN:=aa Ba.out 1
       have E_:=aa Ba.out 2
       have D_:=aa Ba.out 3
       have C_:=aa Ba.out 4
       have VO:wr.cell? ⟨Ea,0,none⟩=some (.slice Cb Ta.length Bb):=(ga za.out 0).trans rfl
       have UO:wr.cell? ⟨Ea,1,none⟩=some (.int .i64 Ma):=(ga za.out 1).trans rfl
       have RO:wr.cell? ⟨Ea,2,none⟩=some (.int .i64 Oa):=(ga za.out 2).trans rfl
       have QO:wr.cell? ⟨Ea,3,none⟩=some (.int .i64 Pa):=(ga za.out 3).trans rfl
       have PO:wr.cell? ⟨Ea,4,none⟩=some (.slice yc Sa.length Xb):=(ga za.out 4).trans rfl
       have cN:=aa za.out 0
       have bN:=aa za.out 1
       have aN:=aa za.out 2
       have ZM:=aa za.out 3
       have YM:=aa za.out 4
       go_wp2_with (first|((with_reducible refine mb (f:=54) rfl ?_);refine yd (some 29) rfl rfl Try.func54 (by kernel_rfl) rfl #[.int .i64 Rb,.int .i64 0,.int .i64 (wrap64 ((Sa.length:Int) - 1))] rfl (by (try simp only [List.map_toArray,List.map_cons,List.map_nil]);first|done|rfl|(simp only [List.length_drop,List.length_take];rfl)) ?_;(with_reducible refine (Za.calls Rb 0 (wrap64 ((Sa.length:Int) - 1)) t105 _ ZL.out).mono ?_);rintro e w' ⟨rfl,⟨nd,rfl⟩⟩;refine ⟨_,rfl,?_⟩)|((with_reducible refine mb (f:=54) rfl ?_);refine yd (some 35) rfl rfl Try.func54 (by kernel_rfl) rfl #[.int .i64 Ob,.int .i64 0,.int .i64 (wrap64 (Pa - 1))] rfl (by (try simp only [List.map_toArray,List.map_cons,List.map_nil]);first|done|rfl|(simp only [List.length_drop,List.length_take];rfl)) ?_;(with_reducible refine (Za.calls Ob 0 (wrap64 (Pa - 1)) t106 _ cJ.out).mono ?_);rintro e w' ⟨rfl,⟨nd,rfl⟩⟩;refine ⟨_,rfl,?_⟩))
       go_ret
       exact ⟨by first|rfl|(simp [La,Ka] <;> rfl)|(simp [*,La,Ka] <;> rfl),by repeat (first|(with_reducible first|exact HB.out|apply qa|apply ia|apply ua|refine Aa ?_ Wa.out|refine Aa ?_ Sb.out)|exact HB.out)⟩
mutual
def Va.l0:Nat→Int→List Int→Int→Int→Int→List (gh)→Option (Bool)
 | 0,_,_,_,_,_,_=>none
 | k + 1,x3,x102000,ke,x102002,x102003,x102004=>if x3 < (x102000.length:Int) then (if 0 ≤ x3 then ((Za.f (rd x102000 x3) 1 16).bind fun t103=>(if t103=true then (Va.l0 k (wrap64 (x3 + 1)) x102000 ke x102002 x102003 x102004) else (some false))) else (none)) else ((Za.f (x102000.length:Int) 1 4).bind fun t104=>(if t104=true then ((Za.f x102002 0 20).bind fun t105=>(if t105=true then ((Za.f ke 0 6).bind fun t106=>(if t106=true then (if ke > x102002 then (Va.j1 k true x102000 ke x102002 x102003 x102004) else ((Za.f x102003 x102002 1000).bind fun t107=>(if t107=true then ((Za.f (x102004.length:Int) 1 300).bind fun t108=>(Va.j1 k (!t108) x102000 ke x102002 x102003 x102004)) else (Va.j1 k true x102000 ke x102002 x102003 x102004)))) else (Va.j1 k true x102000 ke x102002 x102003 x102004))) else (Va.j1 k true x102000 ke x102002 x102003 x102004))) else (Va.j1 k true x102000 ke x102002 x102003 x102004)))
def Va.j1:Nat→Bool→List Int→Int→Int→Int→List (gh)→Option (Bool)
 | 0,_,_,_,_,_,_=>none
 | k + 1,x58,x102000,ke,x102002,x102003,x102004=>if x58=true then (some false) else (Va.l1 k 0 0 x102000 ke x102002 x102003 x102004)
def Va.l1:Nat→Int→Int→List Int→Int→Int→Int→List (gh)→Option (Bool)
 | 0,_,_,_,_,_,_,_=>none
 | k + 1,x4,x5,x102000,ke,x102002,x102003,x102004=>if x5 < (x102004.length:Int) then (if 0 ≤ x5 then (if (wrap64 (x4 + (((Xa x102004 x5).f0).length:Int))) > 1000 then (some false) else ((Ab.f k x102000 ke x102002 x102003 x102004 ((Xa x102004 x5).f0) ((Xa x102004 x5).f1) ((Xa x102004 x5).f2) ((Xa x102004 x5).f3) ((Xa x102004 x5).f4)).bind fun t111=>(if t111=true then (Va.l1 k (wrap64 (x4 + (((Xa x102004 x5).f0).length:Int))) (wrap64 (x5 + 1)) x102000 ke x102002 x102003 x102004) else (some false)))) else (none)) else (some true)
end
def Va.f (k:Nat) (Ta:List Int) (Ma:Int) (Oa:Int) (Pa:Int) (Sa:List (gh)):Option (Bool):=Va.l0 k 0 Ta Ma Oa Pa Sa
theorem Va.Sd:∀ k,(∀ y0 y1 y2 y3 y4 y5,Lb (Va.l0 k y0 y1 y2 y3 y4 y5) (Va.l0 (k + 1) y0 y1 y2 y3 y4 y5))∧(∀ y0 y1 y2 y3 y4 y5,Lb (Va.j1 k y0 y1 y2 y3 y4 y5) (Va.j1 (k + 1) y0 y1 y2 y3 y4 y5))∧(∀ y0 y1 y2 y3 y4 y5 y6,Lb (Va.l1 k y0 y1 y2 y3 y4 y5 y6) (Va.l1 (k + 1) y0 y1 y2 y3 y4 y5 y6))
 | 0=>⟨fun _ _ _ _ _ _ r h=>by simp [Va.l0] at h,fun _ _ _ _ _ _ r h=>by simp [Va.j1] at h,fun _ _ _ _ _ _ _ r h=>by simp [Va.l1] at h⟩
 | k + 1=>by
  obtain ⟨Ff,ih1,ih2⟩:=Va.Sd k
  refine ⟨?_,?_,?_⟩
  ·intro y0 y1 y2 y3 y4 y5
   unfold Va.l0
   repeat' first
   | (with_reducible exact Ff _ _ _ _ _ _)
   | (with_reducible exact ih1 _ _ _ _ _ _)
   | (with_reducible exact ih2 _ _ _ _ _ _ _)
   | (with_reducible exact Ab.mono _ _ _ _ _ _ _ _ _ _ _)
   | (with_reducible exact Lb.refl _)
   | (with_reducible exact Lb.none _)
   | (with_reducible refine Lb.ite ?_ ?_)
   | (with_reducible refine Lb.bind ?_ (fun _=>?_))
   | exact Ff _ _ _ _ _ _
   | exact ih1 _ _ _ _ _ _
   | exact ih2 _ _ _ _ _ _ _
   | exact Ab.mono _ _ _ _ _ _ _ _ _ _ _
   | exact Lb.none _
   | refine Lb.ite ?_ ?_
   | refine Lb.bind ?_ (fun _=>?_)
  ·intro y0 y1 y2 y3 y4 y5
   unfold Va.j1
   repeat' first
   | (with_reducible exact Ff _ _ _ _ _ _)
   | (with_reducible exact ih1 _ _ _ _ _ _)
   | (with_reducible exact ih2 _ _ _ _ _ _ _)
   | (with_reducible exact Ab.mono _ _ _ _ _ _ _ _ _ _ _)
   | (with_reducible exact Lb.refl _)
   | (with_reducible exact Lb.none _)
   | (with_reducible refine Lb.ite ?_ ?_)
   | (with_reducible refine Lb.bind ?_ (fun _=>?_))
   | exact Ff _ _ _ _ _ _
   | exact ih1 _ _ _ _ _ _
   | exact ih2 _ _ _ _ _ _ _
   | exact Ab.mono _ _ _ _ _ _ _ _ _ _ _
   | exact Lb.none _
   | refine Lb.ite ?_ ?_
   | refine Lb.bind ?_ (fun _=>?_)
  ·intro y0 y1 y2 y3 y4 y5 y6
   unfold Va.l1
   repeat' first
   | (with_reducible exact Ff _ _ _ _ _ _)
   | (with_reducible exact ih1 _ _ _ _ _ _)
   | (with_reducible exact ih2 _ _ _ _ _ _ _)
   | (with_reducible exact Ab.mono _ _ _ _ _ _ _ _ _ _ _)
   | (with_reducible exact Lb.refl _)
   | (with_reducible exact Lb.none _)
   | (with_reducible refine Lb.ite ?_ ?_)
   | (with_reducible refine Lb.bind ?_ (fun _=>?_))
   | exact Ff _ _ _ _ _ _
   | exact ih1 _ _ _ _ _ _
   | exact ih2 _ _ _ _ _ _ _
   | exact Ab.mono _ _ _ _ _ _ _ _ _ _ _
   | exact Lb.none _
   | refine Lb.ite ?_ ?_
   | refine Lb.bind ?_ (fun _=>?_)
theorem Va.mono:∀ a0 a1 a2 a3 a4 k,Lb (Va.f k a0 a1 a2 a3 a4) (Va.f (k + 1) a0 a1 a2 a3 a4):=by
 intro a0 a1 a2 a3 a4 k
 obtain ⟨Ff,ih1,ih2⟩:=Va.Sd k
 unfold Va.f
 repeat' first
   | (with_reducible exact Ff _ _ _ _ _ _)
   | (with_reducible exact ih1 _ _ _ _ _ _)
   | (with_reducible exact ih2 _ _ _ _ _ _ _)
   | (with_reducible exact Ab.mono _ _ _ _ _ _ _ _ _ _ _)
   | (with_reducible exact Lb.refl _)
   | (with_reducible exact Lb.none _)
   | (with_reducible refine Lb.ite ?_ ?_)
   | (with_reducible refine Lb.bind ?_ (fun _=>?_))
   | exact Ff _ _ _ _ _ _
   | exact ih1 _ _ _ _ _ _
   | exact ih2 _ _ _ _ _ _ _
   | exact Ab.mono _ _ _ _ _ _ _ _ _ _ _
   | exact Lb.none _
   | refine Lb.ite ?_ ?_
   | refine Lb.bind ?_ (fun _=>?_)
def Va.T13:Bool × List (List Nat × List Nat):=(true,[([],[]),([0],[0]),([1],[1]),([2],[2]),([2],[2]),([4,2],[2,4]),([2],[2]),([5,6,2],[2,5,6]),([7,2],[2,7]),([3,8,2,2],[2,3,8]),([9,2],[2,9]),([2,10],[2,10])])
def Va.B13:List Nat:=[0,1,3,7,7,23,7,119,247,511,1023,2047]
theorem Va.lJ:Xl .any (opsOf Try.f53 13)=Va.T13:=by kernel_rfl
theorem Va.kE:Ml Va.T13.2 Va.B13=true:=by kernel_rfl
set_option maxHeartbeats 8000000 in
set_option maxRecDepth 100000 in
theorem Va.calls (k:Nat) (Cb:Option Addr) (Bb:Nat) (Ta:List Int) (Ma:Int) (Oa:Int) (Pa:Int) (yc:Option Addr) (Xb:Nat) (Sa:List (gh)) (r:Bool) (w:World) (Rf:Kd.C (Kd.int .i64) w Cb Ta.length Ta) (Pf:Ta.length ≤ Bb) (Bg:Kd.C Wo w yc Sa.length Sa) (Eg:Sa.length ≤ Xb) (h:Va.f k Ta Ma Oa Pa Sa=some r) :
  Calls Try.prog 53 #[.agg #[.slice Cb Ta.length Bb,.int .i64 Ma,.int .i64 Oa,.int .i64 Pa,.slice yc Sa.length Xb]] w fun e w'=>e = .returned (.bool r)∧Below w.heap.size w w':=by
 have ZB:=Try.underlying30
 have JI:=Try.underlying68
 have ig:=ja.mk Rf
 have mg:=ja.mk Pf
 clear Rf Pf
 have oh:=ja.mk Bg
 have qj:=ja.mk Eg
 clear Bg Eg
 have HB:=ja.mk (Below.refl w.heap.size w)
 have H:(Va.l0 k 0 Ta Ma Oa Pa Sa)=some r:=h
 clear h
 have H':=ja.mk H
 clear H
 go_enter Try.func53,Try.ntmps53
 go_wp2_with (first|((with_reducible refine Kb (N:=1) rfl ?_);(try (refine Ch (by rfl) ?_;dsimp only));refine Eb ?hg (N:=1) ?hd (cs:=#[.slice Cb Ta.length Bb,.int .i64 Ma,.int .i64 Oa,.int .i64 Pa,.slice yc Sa.length Xb]) (t:=30) ?hr ?_;(case hd=>rfl);(case hg=>rfl);(case hr=>first|(go_simp;done)|(go_simp;rfl));intro Ea hg w2 Tb hb;have Gb:=ja.mk (Qa (by repeat (first|(with_reducible first|exact HB.out|apply qa|apply ia|apply ua)|exact HB.out)) hb);have Vb:=ja.mk (Tb);have Ac:=ja.mk ((by rw [hg];exact (Ra (by repeat (first|(with_reducible first|exact HB.out|apply qa|apply ia|apply ua)|exact HB.out))):w.heap.size ≤ Ea));have ud:=ja.mk ((by rw [hg];exact (Ra (by repeat (first|(with_reducible first|exact HB.out|apply qa|apply ia|apply ua)|exact HB.out))):w.heap.size ≤ Ea));clear HB;have HB:=Gb;have za:=Vb;have Be:=Ac;have Wa:=ud;clear Gb Vb Ac ud;clear hb Tb hg))
 go_loopg [3] k (fun kq v3 w'=>∃ (lf:Int),v3 = .int .i64 lf∧ja (Va.l0 kq lf Ta Ma Oa Pa Sa=some r)∧ja (kq ≤ k)∧ja (w'.heap[Ea]? = some (.cells #[(.slice Cb Ta.length Bb),.int .i64 Ma,.int .i64 Oa,.int .i64 Pa,(.slice yc Sa.length Xb)] 30 (0,0)))∧ja (Below w.heap.size w w'))
 case atStart=>exact ⟨(0),(by first|rfl|(simp;done)|(simp [*];done)),H',⟨Nat.le_refl _⟩,⟨by (with_reducible repeat (first|refine Da ?_ _|refine Ga ?_|refine Ca ?_ _));exact za.out⟩,⟨by repeat (first|(with_reducible first|exact HB.out|apply qa|apply ia|apply ua|refine Aa ?_ Wa.out)|exact HB.out)⟩⟩
 case round =>
  clear H'
  try clear p2
  (try clear HA)
  (try clear Yg)
  (try clear za)
  (try clear HB)
  obtain ⟨lf,rfl,HA,Yg,za,HB⟩:=hrel
  cases gk with
  | zero=>exact absurd HA.out (by simp [Va.l0])
  | succ k1 =>
   have H:=HA.out
   clear HA
   simp only [Va.l0] at H
   by_cases c3:lf < (Ta.length:Int)
   ·rw [if_pos c3] at H
    have Zh:decide (lf < (Ta.length:Int))=true:=decide_eq_true c3
    clear c3
    by_cases c4:0 ≤ lf
    ·rw [if_pos c4] at H
     have Gi:decide (0 ≤ lf)=true:=decide_eq_true c4
     clear c4
     replace H:=Option.bind_eq_some_iff.mp H
     obtain ⟨t103,xS,H⟩:=H
     replace H:(if t103=true then (Va.l0 k1 (wrap64 (lf + 1)) Ta Ma Oa Pa Sa) else (some false))=some r:=H
     have A5:=ja.mk xS
     clear xS
     by_cases c6:t103=true
     ·subst c6
      have H1:(Va.l0 k1 (wrap64 (lf + 1)) Ta Ma Oa Pa Sa)=some r:=by rw [if_pos rfl] at H;exact H
      clear H
      have H:=H1
      clear H1
      have H':=ja.mk H
      clear H
      have Tp:wr.cell? ⟨Ea,0,none⟩=some (.slice Cb Ta.length Bb):=(ga za.out 0).trans rfl
      have Sp:wr.cell? ⟨Ea,1,none⟩=some (.int .i64 Ma):=(ga za.out 1).trans rfl
      have Rp:wr.cell? ⟨Ea,2,none⟩=some (.int .i64 Oa):=(ga za.out 2).trans rfl
      have Qp:wr.cell? ⟨Ea,3,none⟩=some (.int .i64 Pa):=(ga za.out 3).trans rfl
      have Pp:wr.cell? ⟨Ea,4,none⟩=some (.slice yc Sa.length Xb):=(ga za.out 4).trans rfl
      have Dp:=aa za.out 0
      have Cp:=aa za.out 1
      have Bp:=aa za.out 2
      have Ap:=aa za.out 3
      have zp:=aa za.out 4
      have Gg:0 ≤ (lf:Int):=of_decide_eq_true (by first|(with_reducible assumption)|assumption)
      have Fg:lf < (Ta.length:Int):=of_decide_eq_true (by first|(with_reducible assumption)|assumption)
      obtain ⟨bf,Fl,Ed⟩:=Kd.Po ig.out lf Gg Fg
      cases Fl
      replace Ed:=(HB.out.cell (World.block_lt_of_cell? w _ Ed)).trans Ed
      replace Gg:=eq_true Gg
      replace Fg:=eq_true Fg
      go_wp2_with (first|((with_reducible refine mb (f:=54) rfl ?_);refine yd (some 18) rfl rfl Try.func54 (by kernel_rfl) rfl #[.int .i64 (rd Ta lf),.int .i64 1,.int .i64 16] rfl (by (try simp only [List.map_toArray,List.map_cons,List.map_nil]);first|done|rfl|(simp only [List.length_drop,List.length_take];rfl)) ?_;(with_reducible refine (Za.calls (rd Ta lf) 1 16 true _ A5.out).mono ?_);rintro e w' ⟨rfl,⟨nd,rfl⟩⟩;refine ⟨_,rfl,?_⟩))
      go_roundg k1
      case measure=>have:=Yg.out;omega
      case rel=>exact ⟨(wrap64 (lf + 1)),(by first|rfl|(simp;done)|(simp [*];done)),H',⟨by have:=Yg.out;omega⟩,⟨by (with_reducible repeat (first|refine Da ?_ _|refine Ga ?_|refine Ca ?_ _));exact za.out⟩,⟨by repeat (first|(with_reducible first|exact HB.out|apply qa|apply ia|apply ua|refine Aa ?_ Wa.out)|exact HB.out)⟩⟩
     ·replace c6:=Bool.eq_false_iff.mpr c6
      subst c6
      have H1:(some false)=some r:=by rw [if_neg (show ¬ (false=true) by decide)] at H;exact H
      clear H
      have H:=H1
      clear H1
      obtain rfl:=Option.some.inj H
      have PD:wr.cell? ⟨Ea,0,none⟩=some (.slice Cb Ta.length Bb):=(ga za.out 0).trans rfl
      have OD:wr.cell? ⟨Ea,1,none⟩=some (.int .i64 Ma):=(ga za.out 1).trans rfl
      have ND:wr.cell? ⟨Ea,2,none⟩=some (.int .i64 Oa):=(ga za.out 2).trans rfl
      have MD:wr.cell? ⟨Ea,3,none⟩=some (.int .i64 Pa):=(ga za.out 3).trans rfl
      have LD:wr.cell? ⟨Ea,4,none⟩=some (.slice yc Sa.length Xb):=(ga za.out 4).trans rfl
      have JD:=aa za.out 0
      have ID:=aa za.out 1
      have GD:=aa za.out 2
      have FD:=aa za.out 3
      have ED:=aa za.out 4
      have Gg:0 ≤ (lf:Int):=of_decide_eq_true (by first|(with_reducible assumption)|assumption)
      have Fg:lf < (Ta.length:Int):=of_decide_eq_true (by first|(with_reducible assumption)|assumption)
      obtain ⟨bf,Fl,Ed⟩:=Kd.Po ig.out lf Gg Fg
      cases Fl
      replace Ed:=(HB.out.cell (World.block_lt_of_cell? w _ Ed)).trans Ed
      replace Gg:=eq_true Gg
      replace Fg:=eq_true Fg
      go_wp2_with (first|((with_reducible refine mb (f:=54) rfl ?_);refine yd (some 18) rfl rfl Try.func54 (by kernel_rfl) rfl #[.int .i64 (rd Ta lf),.int .i64 1,.int .i64 16] rfl (by (try simp only [List.map_toArray,List.map_cons,List.map_nil]);first|done|rfl|(simp only [List.length_drop,List.length_take];rfl)) ?_;(with_reducible refine (Za.calls (rd Ta lf) 1 16 false _ A5.out).mono ?_);rintro e w' ⟨rfl,⟨nd,rfl⟩⟩;refine ⟨_,rfl,?_⟩))
      go_ret
      exact ⟨by first|rfl|(simp [La,Ka] <;> rfl)|(simp [*,La,Ka] <;> rfl),by repeat (first|(with_reducible first|exact HB.out|apply qa|apply ia|apply ua|refine Aa ?_ Wa.out)|exact HB.out)⟩
    ·rw [if_neg c4] at H
     exact absurd H (by simp)
   ·rw [if_neg c3] at H
    have Zh:decide (lf < (Ta.length:Int))=false:=decide_eq_false c3
    clear c3
    have HC9:=ja.mk H
    clear H
    have Fk:wr.cell? ⟨Ea,0,none⟩=some (.slice Cb Ta.length Bb):=(ga za.out 0).trans rfl
    have Ek:wr.cell? ⟨Ea,1,none⟩=some (.int .i64 Ma):=(ga za.out 1).trans rfl
    have Dk:wr.cell? ⟨Ea,2,none⟩=some (.int .i64 Oa):=(ga za.out 2).trans rfl
    have Ck:wr.cell? ⟨Ea,3,none⟩=some (.int .i64 Pa):=(ga za.out 3).trans rfl
    have Bk:wr.cell? ⟨Ea,4,none⟩=some (.slice yc Sa.length Xb):=(ga za.out 4).trans rfl
    have xk:=aa za.out 0
    have wk:=aa za.out 1
    have vk:=aa za.out 2
    have uk:=aa za.out 3
    have qk:=aa za.out 4
    go_upto_region 6 with (fail)
    go_cut [58] (fun v58 wc=>∃ (kq:Nat) (DE:Bool),v58 = .bool DE∧ja (Va.j1 kq DE Ta Ma Oa Pa Sa=some r)∧ja (kq ≤ k1)∧ja (wc.heap[Ea]? = some (.cells #[(.slice Cb Ta.length Bb),.int .i64 Ma,.int .i64 Oa,.int .i64 Pa,(.slice yc Sa.length Xb)] 30 (0,0)))∧ja (Below w.heap.size w wc))
    case first =>
     have H:=HC9.out
     clear HC9
     replace H:=Option.bind_eq_some_iff.mp H
     obtain ⟨t104,SC,H⟩:=H
     replace H:(if t104=true then ((Za.f Oa 0 20).bind fun t105=>(if t105=true then ((Za.f Ma 0 6).bind fun t106=>(if t106=true then (if Ma > Oa then (Va.j1 k1 true Ta Ma Oa Pa Sa) else ((Za.f Pa Oa 1000).bind fun t107=>(if t107=true then ((Za.f (Sa.length:Int) 1 300).bind fun t108=>(Va.j1 k1 (!t108) Ta Ma Oa Pa Sa)) else (Va.j1 k1 true Ta Ma Oa Pa Sa)))) else (Va.j1 k1 true Ta Ma Oa Pa Sa))) else (Va.j1 k1 true Ta Ma Oa Pa Sa))) else (Va.j1 k1 true Ta Ma Oa Pa Sa))=some r:=H
     have QL:=ja.mk SC
     clear SC
     by_cases c12:t104=true
     ·subst c12
      have H1:((Za.f Oa 0 20).bind fun t105=>(if t105=true then ((Za.f Ma 0 6).bind fun t106=>(if t106=true then (if Ma > Oa then (Va.j1 k1 true Ta Ma Oa Pa Sa) else ((Za.f Pa Oa 1000).bind fun t107=>(if t107=true then ((Za.f (Sa.length:Int) 1 300).bind fun t108=>(Va.j1 k1 (!t108) Ta Ma Oa Pa Sa)) else (Va.j1 k1 true Ta Ma Oa Pa Sa)))) else (Va.j1 k1 true Ta Ma Oa Pa Sa))) else (Va.j1 k1 true Ta Ma Oa Pa Sa)))=some r:=by rw [if_pos rfl] at H;exact H
      clear H
      have H:=H1
      clear H1
      replace H:=Option.bind_eq_some_iff.mp H
      obtain ⟨t105,l7,H⟩:=H
      replace H:(if t105=true then ((Za.f Ma 0 6).bind fun t106=>(if t106=true then (if Ma > Oa then (Va.j1 k1 true Ta Ma Oa Pa Sa) else ((Za.f Pa Oa 1000).bind fun t107=>(if t107=true then ((Za.f (Sa.length:Int) 1 300).bind fun t108=>(Va.j1 k1 (!t108) Ta Ma Oa Pa Sa)) else (Va.j1 k1 true Ta Ma Oa Pa Sa)))) else (Va.j1 k1 true Ta Ma Oa Pa Sa))) else (Va.j1 k1 true Ta Ma Oa Pa Sa))=some r:=H
      have m7:=ja.mk l7
      clear l7
      by_cases c14:t105=true
      ·subst c14
       have H1:((Za.f Ma 0 6).bind fun t106=>(if t106=true then (if Ma > Oa then (Va.j1 k1 true Ta Ma Oa Pa Sa) else ((Za.f Pa Oa 1000).bind fun t107=>(if t107=true then ((Za.f (Sa.length:Int) 1 300).bind fun t108=>(Va.j1 k1 (!t108) Ta Ma Oa Pa Sa)) else (Va.j1 k1 true Ta Ma Oa Pa Sa)))) else (Va.j1 k1 true Ta Ma Oa Pa Sa)))=some r:=by rw [if_pos rfl] at H;exact H
       clear H
       have H:=H1
       clear H1
       replace H:=Option.bind_eq_some_iff.mp H
       obtain ⟨t106,e7,H⟩:=H
       replace H:(if t106=true then (if Ma > Oa then (Va.j1 k1 true Ta Ma Oa Pa Sa) else ((Za.f Pa Oa 1000).bind fun t107=>(if t107=true then ((Za.f (Sa.length:Int) 1 300).bind fun t108=>(Va.j1 k1 (!t108) Ta Ma Oa Pa Sa)) else (Va.j1 k1 true Ta Ma Oa Pa Sa)))) else (Va.j1 k1 true Ta Ma Oa Pa Sa))=some r:=H
       have A15:=ja.mk e7
       clear e7
       by_cases c16:t106=true
       ·subst c16
        have H1:(if Ma > Oa then (Va.j1 k1 true Ta Ma Oa Pa Sa) else ((Za.f Pa Oa 1000).bind fun t107=>(if t107=true then ((Za.f (Sa.length:Int) 1 300).bind fun t108=>(Va.j1 k1 (!t108) Ta Ma Oa Pa Sa)) else (Va.j1 k1 true Ta Ma Oa Pa Sa))))=some r:=by rw [if_pos rfl] at H;exact H
        clear H
        have H:=H1
        clear H1
        by_cases c17:Ma > Oa
        ·rw [if_pos c17] at H
         have Cy:decide (Oa < Ma)=true:=decide_eq_true c17
         clear c17
         (first|rw [Cy]|(simp only [Ib,Jb];rw [Cy])|skip)
         have H':=ja.mk H
         clear H
         have Dr:wr.cell? ⟨Ea,0,none⟩=some (.slice Cb Ta.length Bb):=(ga za.out 0).trans rfl
         have Cr:wr.cell? ⟨Ea,1,none⟩=some (.int .i64 Ma):=(ga za.out 1).trans rfl
         have Br:wr.cell? ⟨Ea,2,none⟩=some (.int .i64 Oa):=(ga za.out 2).trans rfl
         have Ar:wr.cell? ⟨Ea,3,none⟩=some (.int .i64 Pa):=(ga za.out 3).trans rfl
         have vr:wr.cell? ⟨Ea,4,none⟩=some (.slice yc Sa.length Xb):=(ga za.out 4).trans rfl
         have cr:=aa za.out 0
         have br:=aa za.out 1
         have Zq:=aa za.out 2
         have Yq:=aa za.out 3
         have Xq:=aa za.out 4
         go_wp2_with (first|((with_reducible refine mb (f:=54) rfl ?_);refine yd (some 23) rfl rfl Try.func54 (by kernel_rfl) rfl #[.int .i64 (Ta.length:Int),.int .i64 1,.int .i64 4] rfl (by (try simp only [List.map_toArray,List.map_cons,List.map_nil]);first|done|rfl|(simp only [List.length_drop,List.length_take];rfl)) ?_;(with_reducible refine (Za.calls (Ta.length:Int) 1 4 true _ QL.out).mono ?_);rintro e w' ⟨rfl,⟨nd,rfl⟩⟩;refine ⟨_,rfl,?_⟩)|(go_at_call 54;(with_reducible refine (Za.calls Oa 0 20 true _ m7.out).mono ?_);rintro e w' ⟨rfl,⟨nd,rfl⟩⟩)|(go_at_call 54;(with_reducible refine (Za.calls Ma 0 6 true _ A15.out).mono ?_);rintro e w' ⟨rfl,⟨nd,rfl⟩⟩))
         go_meet
         case rel=>exact ⟨_,(true),(by first|rfl|(simp;done)|(simp [*];done)),H',⟨by have:=Yg.out;first|omega|exact Nat.le_refl _⟩,⟨by (with_reducible repeat (first|refine Da ?_ _|refine Ga ?_|refine Ca ?_ _));exact za.out⟩,⟨by repeat (first|(with_reducible first|exact HB.out|apply qa|apply ia|apply ua|refine Aa ?_ Wa.out)|exact HB.out)⟩⟩
        ·rw [if_neg c17] at H
         have Cy:decide (Oa < Ma)=false:=decide_eq_false c17
         clear c17
         (first|rw [Cy]|(simp only [Ib,Jb];rw [Cy])|skip)
         replace H:=Option.bind_eq_some_iff.mp H
         obtain ⟨t107,X6,H⟩:=H
         replace H:(if t107=true then ((Za.f (Sa.length:Int) 1 300).bind fun t108=>(Va.j1 k1 (!t108) Ta Ma Oa Pa Sa)) else (Va.j1 k1 true Ta Ma Oa Pa Sa))=some r:=H
         have A19:=ja.mk X6
         clear X6
         by_cases c20:t107=true
         ·subst c20
          have H1:((Za.f (Sa.length:Int) 1 300).bind fun t108=>(Va.j1 k1 (!t108) Ta Ma Oa Pa Sa))=some r:=by rw [if_pos rfl] at H;exact H
          clear H
          have H:=H1
          clear H1
          replace H:=Option.bind_eq_some_iff.mp H
          obtain ⟨t108,V6,H⟩:=H
          replace H:(Va.j1 k1 (!t108) Ta Ma Oa Pa Sa)=some r:=H
          have A21:=ja.mk V6
          clear V6
          have H':=ja.mk H
          clear H
          have vu:wr.cell? ⟨Ea,0,none⟩=some (.slice Cb Ta.length Bb):=(ga za.out 0).trans rfl
          have uu:wr.cell? ⟨Ea,1,none⟩=some (.int .i64 Ma):=(ga za.out 1).trans rfl
          have tu:wr.cell? ⟨Ea,2,none⟩=some (.int .i64 Oa):=(ga za.out 2).trans rfl
          have su:wr.cell? ⟨Ea,3,none⟩=some (.int .i64 Pa):=(ga za.out 3).trans rfl
          have ru:wr.cell? ⟨Ea,4,none⟩=some (.slice yc Sa.length Xb):=(ga za.out 4).trans rfl
          have Tt:=aa za.out 0
          have St:=aa za.out 1
          have Rt:=aa za.out 2
          have Qt:=aa za.out 3
          have Pt:=aa za.out 4
          go_wp2_with (first|((with_reducible refine mb (f:=54) rfl ?_);refine yd (some 23) rfl rfl Try.func54 (by kernel_rfl) rfl #[.int .i64 (Ta.length:Int),.int .i64 1,.int .i64 4] rfl (by (try simp only [List.map_toArray,List.map_cons,List.map_nil]);first|done|rfl|(simp only [List.length_drop,List.length_take];rfl)) ?_;(with_reducible refine (Za.calls (Ta.length:Int) 1 4 true _ QL.out).mono ?_);rintro e w' ⟨rfl,⟨nd,rfl⟩⟩;refine ⟨_,rfl,?_⟩)|(go_at_call 54;(with_reducible refine (Za.calls Oa 0 20 true _ m7.out).mono ?_);rintro e w' ⟨rfl,⟨nd,rfl⟩⟩)|(go_at_call 54;(with_reducible refine (Za.calls Ma 0 6 true _ A15.out).mono ?_);rintro e w' ⟨rfl,⟨nd,rfl⟩⟩)|(go_at_call 54;(with_reducible refine (Za.calls Pa Oa 1000 true _ A19.out).mono ?_);rintro e w' ⟨rfl,⟨nd,rfl⟩⟩)|(go_at_call 54;(with_reducible refine (Za.calls (Sa.length:Int) 1 300 t108 _ A21.out).mono ?_);rintro e w' ⟨rfl,⟨nd,rfl⟩⟩))
          go_meet
          case rel=>exact ⟨_,(!t108),(by first|rfl|(simp;done)|(simp [*];done)),H',⟨by have:=Yg.out;first|omega|exact Nat.le_refl _⟩,⟨by (with_reducible repeat (first|refine Da ?_ _|refine Ga ?_|refine Ca ?_ _));exact za.out⟩,⟨by repeat (first|(with_reducible first|exact HB.out|apply qa|apply ia|apply ua|refine Aa ?_ Wa.out)|exact HB.out)⟩⟩
         ·replace c20:=Bool.eq_false_iff.mpr c20
          subst c20
          have H1:(Va.j1 k1 true Ta Ma Oa Pa Sa)=some r:=by rw [if_neg (show ¬ (false=true) by decide)] at H;exact H
          clear H
          have H:=H1
          clear H1
          have H':=ja.mk H
          clear H
          have Ak:wr.cell? ⟨Ea,0,none⟩=some (.slice Cb Ta.length Bb):=(ga za.out 0).trans rfl
          have zk:wr.cell? ⟨Ea,1,none⟩=some (.int .i64 Ma):=(ga za.out 1).trans rfl
          have oo:wr.cell? ⟨Ea,2,none⟩=some (.int .i64 Oa):=(ga za.out 2).trans rfl
          have mo:wr.cell? ⟨Ea,3,none⟩=some (.int .i64 Pa):=(ga za.out 3).trans rfl
          have ko:wr.cell? ⟨Ea,4,none⟩=some (.slice yc Sa.length Xb):=(ga za.out 4).trans rfl
          have nk:=aa za.out 0
          have jk:=aa za.out 1
          have Zn:=aa za.out 2
          have Yn:=aa za.out 3
          have Xn:=aa za.out 4
          go_wp2_with (first|((with_reducible refine mb (f:=54) rfl ?_);refine yd (some 23) rfl rfl Try.func54 (by kernel_rfl) rfl #[.int .i64 (Ta.length:Int),.int .i64 1,.int .i64 4] rfl (by (try simp only [List.map_toArray,List.map_cons,List.map_nil]);first|done|rfl|(simp only [List.length_drop,List.length_take];rfl)) ?_;(with_reducible refine (Za.calls (Ta.length:Int) 1 4 true _ QL.out).mono ?_);rintro e w' ⟨rfl,⟨nd,rfl⟩⟩;refine ⟨_,rfl,?_⟩)|(go_at_call 54;(with_reducible refine (Za.calls Oa 0 20 true _ m7.out).mono ?_);rintro e w' ⟨rfl,⟨nd,rfl⟩⟩)|(go_at_call 54;(with_reducible refine (Za.calls Ma 0 6 true _ A15.out).mono ?_);rintro e w' ⟨rfl,⟨nd,rfl⟩⟩)|(go_at_call 54;(with_reducible refine (Za.calls Pa Oa 1000 false _ A19.out).mono ?_);rintro e w' ⟨rfl,⟨nd,rfl⟩⟩))
          go_meet
          case rel=>exact ⟨_,(true),(by first|rfl|(simp;done)|(simp [*];done)),H',⟨by have:=Yg.out;first|omega|exact Nat.le_refl _⟩,⟨by (with_reducible repeat (first|refine Da ?_ _|refine Ga ?_|refine Ca ?_ _));exact za.out⟩,⟨by repeat (first|(with_reducible first|exact HB.out|apply qa|apply ia|apply ua|refine Aa ?_ Wa.out)|exact HB.out)⟩⟩
       ·replace c16:=Bool.eq_false_iff.mpr c16
        subst c16
        have H1:(Va.j1 k1 true Ta Ma Oa Pa Sa)=some r:=by rw [if_neg (show ¬ (false=true) by decide)] at H;exact H
        clear H
        have H:=H1
        clear H1
        have H':=ja.mk H
        clear H
        have kn:wr.cell? ⟨Ea,0,none⟩=some (.slice Cb Ta.length Bb):=(ga za.out 0).trans rfl
        have jn:wr.cell? ⟨Ea,1,none⟩=some (.int .i64 Ma):=(ga za.out 1).trans rfl
        have qu:wr.cell? ⟨Ea,2,none⟩=some (.int .i64 Oa):=(ga za.out 2).trans rfl
        have ou:wr.cell? ⟨Ea,3,none⟩=some (.int .i64 Pa):=(ga za.out 3).trans rfl
        have nu:wr.cell? ⟨Ea,4,none⟩=some (.slice yc Sa.length Xb):=(ga za.out 4).trans rfl
        have cn:=aa za.out 0
        have bn:=aa za.out 1
        have Ot:=aa za.out 2
        have Nt:=aa za.out 3
        have Mt:=aa za.out 4
        go_wp2_with (first|((with_reducible refine mb (f:=54) rfl ?_);refine yd (some 23) rfl rfl Try.func54 (by kernel_rfl) rfl #[.int .i64 (Ta.length:Int),.int .i64 1,.int .i64 4] rfl (by (try simp only [List.map_toArray,List.map_cons,List.map_nil]);first|done|rfl|(simp only [List.length_drop,List.length_take];rfl)) ?_;(with_reducible refine (Za.calls (Ta.length:Int) 1 4 true _ QL.out).mono ?_);rintro e w' ⟨rfl,⟨nd,rfl⟩⟩;refine ⟨_,rfl,?_⟩)|(go_at_call 54;(with_reducible refine (Za.calls Oa 0 20 true _ m7.out).mono ?_);rintro e w' ⟨rfl,⟨nd,rfl⟩⟩)|(go_at_call 54;(with_reducible refine (Za.calls Ma 0 6 false _ A15.out).mono ?_);rintro e w' ⟨rfl,⟨nd,rfl⟩⟩))
        go_meet
        case rel=>exact ⟨_,(true),(by first|rfl|(simp;done)|(simp [*];done)),H',⟨by have:=Yg.out;first|omega|exact Nat.le_refl _⟩,⟨by (with_reducible repeat (first|refine Da ?_ _|refine Ga ?_|refine Ca ?_ _));exact za.out⟩,⟨by repeat (first|(with_reducible first|exact HB.out|apply qa|apply ia|apply ua|refine Aa ?_ Wa.out)|exact HB.out)⟩⟩
      ·replace c14:=Bool.eq_false_iff.mpr c14
       subst c14
       have H1:(Va.j1 k1 true Ta Ma Oa Pa Sa)=some r:=by rw [if_neg (show ¬ (false=true) by decide)] at H;exact H
       clear H
       have H:=H1
       clear H1
       have H':=ja.mk H
       clear H
       have ur:wr.cell? ⟨Ea,0,none⟩=some (.slice Cb Ta.length Bb):=(ga za.out 0).trans rfl
       have tr:wr.cell? ⟨Ea,1,none⟩=some (.int .i64 Ma):=(ga za.out 1).trans rfl
       have sr:wr.cell? ⟨Ea,2,none⟩=some (.int .i64 Oa):=(ga za.out 2).trans rfl
       have nr:wr.cell? ⟨Ea,3,none⟩=some (.int .i64 Pa):=(ga za.out 3).trans rfl
       have kr:wr.cell? ⟨Ea,4,none⟩=some (.slice yc Sa.length Xb):=(ga za.out 4).trans rfl
       have Wq:=aa za.out 0
       have Vq:=aa za.out 1
       have Uq:=aa za.out 2
       have Sq:=aa za.out 3
       have Rq:=aa za.out 4
       go_wp2_with (first|((with_reducible refine mb (f:=54) rfl ?_);refine yd (some 23) rfl rfl Try.func54 (by kernel_rfl) rfl #[.int .i64 (Ta.length:Int),.int .i64 1,.int .i64 4] rfl (by (try simp only [List.map_toArray,List.map_cons,List.map_nil]);first|done|rfl|(simp only [List.length_drop,List.length_take];rfl)) ?_;(with_reducible refine (Za.calls (Ta.length:Int) 1 4 true _ QL.out).mono ?_);rintro e w' ⟨rfl,⟨nd,rfl⟩⟩;refine ⟨_,rfl,?_⟩)|(go_at_call 54;(with_reducible refine (Za.calls Oa 0 20 false _ m7.out).mono ?_);rintro e w' ⟨rfl,⟨nd,rfl⟩⟩))
       go_meet
       case rel=>exact ⟨_,(true),(by first|rfl|(simp;done)|(simp [*];done)),H',⟨by have:=Yg.out;first|omega|exact Nat.le_refl _⟩,⟨by (with_reducible repeat (first|refine Da ?_ _|refine Ga ?_|refine Ca ?_ _));exact za.out⟩,⟨by repeat (first|(with_reducible first|exact HB.out|apply qa|apply ia|apply ua|refine Aa ?_ Wa.out)|exact HB.out)⟩⟩
     ·replace c12:=Bool.eq_false_iff.mpr c12
      subst c12
      have H1:(Va.j1 k1 true Ta Ma Oa Pa Sa)=some r:=by rw [if_neg (show ¬ (false=true) by decide)] at H;exact H
      clear H
      have H:=H1
      clear H1
      have H':=ja.mk H
      clear H
      have lu:wr.cell? ⟨Ea,0,none⟩=some (.slice Cb Ta.length Bb):=(ga za.out 0).trans rfl
      have ku:wr.cell? ⟨Ea,1,none⟩=some (.int .i64 Ma):=(ga za.out 1).trans rfl
      have ju:wr.cell? ⟨Ea,2,none⟩=some (.int .i64 Oa):=(ga za.out 2).trans rfl
      have iu:wr.cell? ⟨Ea,3,none⟩=some (.int .i64 Pa):=(ga za.out 3).trans rfl
      have gu:wr.cell? ⟨Ea,4,none⟩=some (.slice yc Sa.length Xb):=(ga za.out 4).trans rfl
      have Lt:=aa za.out 0
      have Kt:=aa za.out 1
      have Jt:=aa za.out 2
      have Ht:=aa za.out 3
      have Gt:=aa za.out 4
      go_wp2_with (first|((with_reducible refine mb (f:=54) rfl ?_);refine yd (some 23) rfl rfl Try.func54 (by kernel_rfl) rfl #[.int .i64 (Ta.length:Int),.int .i64 1,.int .i64 4] rfl (by (try simp only [List.map_toArray,List.map_cons,List.map_nil]);first|done|rfl|(simp only [List.length_drop,List.length_take];rfl)) ?_;(with_reducible refine (Za.calls (Ta.length:Int) 1 4 false _ QL.out).mono ?_);rintro e w' ⟨rfl,⟨nd,rfl⟩⟩;refine ⟨_,rfl,?_⟩))
      go_meet
      case rel=>exact ⟨_,(true),(by first|rfl|(simp;done)|(simp [*];done)),H',⟨by have:=Yg.out;first|omega|exact Nat.le_refl _⟩,⟨by (with_reducible repeat (first|refine Da ?_ _|refine Ga ?_|refine Ca ?_ _));exact za.out⟩,⟨by repeat (first|(with_reducible first|exact HB.out|apply qa|apply ia|apply ua|refine Aa ?_ Wa.out)|exact HB.out)⟩⟩
    case rest =>
     clear HC9
     try clear c1
     try clear p1
     try clear q1
     try clear hx1
     try clear c2
     try clear p2
     try clear c3
     try clear Zh
     try clear c4
     try clear Gi
     try clear c5
     try clear c6
     try clear p6
     try clear rD
     try clear nD
     try clear hx10
     try clear c12
     try clear c14
     try clear c16
     try clear c17
     try clear Cy
     try clear c20
     try clear Fk
     try clear Ek
     try clear Dk
     try clear Ck
     try clear Bk
     try clear Dr
     try clear Cr
     try clear Br
     try clear Ar
     try clear vr
     try clear vu
     try clear uu
     try clear tu
     try clear su
     try clear ru
     try clear Ak
     try clear zk
     try clear oo
     try clear mo
     try clear ko
     try clear kn
     try clear jn
     try clear qu
     try clear ou
     try clear nu
     try clear ur
     try clear tr
     try clear sr
     try clear nr
     try clear kr
     try clear lu
     try clear ku
     try clear ju
     try clear iu
     try clear gu
     try clear Tp
     try clear Sp
     try clear Rp
     try clear Qp
     try clear Pp
     try clear PD
     try clear OD
     try clear ND
     try clear MD
     try clear LD
     try clear xk
     try clear wk
     try clear vk
     try clear uk
     try clear qk
     try clear cr
     try clear br
     try clear Zq
     try clear Yq
     try clear Xq
     try clear Tt
     try clear St
     try clear Rt
     try clear Qt
     try clear Pt
     try clear nk
     try clear jk
     try clear Zn
     try clear Yn
     try clear Xn
     try clear cn
     try clear bn
     try clear Ot
     try clear Nt
     try clear Mt
     try clear Wq
     try clear Vq
     try clear Uq
     try clear Sq
     try clear Rq
     try clear Lt
     try clear Kt
     try clear Jt
     try clear Ht
     try clear Gt
     try clear Dp
     try clear Cp
     try clear Bp
     try clear Ap
     try clear zp
     try clear JD
     try clear ID
     try clear GD
     try clear FD
     try clear ED
     try clear Ed
     try clear Gg
     try clear p2
     try clear Fg
     obtain ⟨kq,DE,rfl,HA,HJ8,za,HB⟩:=hcut
     cases kq with
     | zero=>exact absurd HA.out (by simp [Va.j1])
     | succ kj8 =>
      have H:=HA.out
      clear HA
      simp only [Va.j1] at H
      by_cases c27:DE=true
      ·subst c27
       have H1:(some false)=some r:=by rw [if_pos rfl] at H;exact H
       clear H
       have H:=H1
       clear H1
       obtain rfl:=Option.some.inj H
       go_wp2
       go_ret
       exact ⟨by first|rfl|(simp [La,Ka] <;> rfl)|(simp [*,La,Ka] <;> rfl),by repeat (first|(with_reducible first|exact HB.out|apply qa|apply ia|apply ua|refine Aa ?_ Wa.out)|exact HB.out)⟩
      ·replace c27:=Bool.eq_false_iff.mpr c27
       subst c27
       have H1:(Va.l1 kj8 0 0 Ta Ma Oa Pa Sa)=some r:=by rw [if_neg (show ¬ (false=true) by decide)] at H;exact H
       clear H
       have H:=H1
       clear H1
       have H':=ja.mk H
       clear H
       go_wp2
       go_loopg [4,5] kj8 (fun kq v4 v5 w'=>∃ (Mz:Int) (Jf:Int),v4 = .int .i64 Mz∧v5 = .int .i64 Jf∧ja (Va.l1 kq Mz Jf Ta Ma Oa Pa Sa=some r)∧ja (kq ≤ kj8)∧ja (w'.heap[Ea]? = some (.cells #[(.slice Cb Ta.length Bb),.int .i64 Ma,.int .i64 Oa,.int .i64 Pa,(.slice yc Sa.length Xb)] 30 (0,0)))∧ja (Below w.heap.size w w'))
       case atStart=>exact ⟨(0),(0),(by first|rfl|(simp;done)|(simp [*];done)),(by first|rfl|(simp;done)|(simp [*];done)),H',⟨Nat.le_refl _⟩,⟨by (with_reducible repeat (first|refine Da ?_ _|refine Ga ?_|refine Ca ?_ _));exact za.out⟩,⟨by repeat (first|(with_reducible first|exact HB.out|apply qa|apply ia|apply ua|refine Aa ?_ Wa.out)|exact HB.out)⟩⟩
       case round =>
        clear H'
        try clear c1
        try clear p1
        try clear q1
        try clear hx1
        try clear c2
        try clear p2
        try clear c3
        try clear Zh
        try clear c4
        try clear Gi
        try clear c5
        try clear c6
        try clear p6
        try clear rD
        try clear nD
        try clear hx10
        try clear c12
        try clear c14
        try clear c16
        try clear c17
        try clear Cy
        try clear c20
        try clear c27
        try clear Fk
        try clear Ek
        try clear Dk
        try clear Ck
        try clear Bk
        try clear Dr
        try clear Cr
        try clear Br
        try clear Ar
        try clear vr
        try clear vu
        try clear uu
        try clear tu
        try clear su
        try clear ru
        try clear Ak
        try clear zk
        try clear oo
        try clear mo
        try clear ko
        try clear kn
        try clear jn
        try clear qu
        try clear ou
        try clear nu
        try clear ur
        try clear tr
        try clear sr
        try clear nr
        try clear kr
        try clear lu
        try clear ku
        try clear ju
        try clear iu
        try clear gu
        try clear Tp
        try clear Sp
        try clear Rp
        try clear Qp
        try clear Pp
        try clear PD
        try clear OD
        try clear ND
        try clear MD
        try clear LD
        try clear xk
        try clear wk
        try clear vk
        try clear uk
        try clear qk
        try clear cr
        try clear br
        try clear Zq
        try clear Yq
        try clear Xq
        try clear Tt
        try clear St
        try clear Rt
        try clear Qt
        try clear Pt
        try clear nk
        try clear jk
        try clear Zn
        try clear Yn
        try clear Xn
        try clear cn
        try clear bn
        try clear Ot
        try clear Nt
        try clear Mt
        try clear Wq
        try clear Vq
        try clear Uq
        try clear Sq
        try clear Rq
        try clear Lt
        try clear Kt
        try clear Jt
        try clear Ht
        try clear Gt
        try clear Dp
        try clear Cp
        try clear Bp
        try clear Ap
        try clear zp
        try clear JD
        try clear ID
        try clear GD
        try clear FD
        try clear ED
        try clear Ed
        try clear p1
        try clear rD
        try clear Gg
        try clear p2
        try clear p6
        try clear q1
        try clear nD
        try clear Fg
        (try clear HA)
        (try clear IV)
        (try clear za)
        (try clear HB)
        obtain ⟨Mz,Jf,rfl,rfl,HA,IV,za,HB⟩:=hrel
        cases gk with
        | zero=>exact absurd HA.out (by simp [Va.l1])
        | succ k3 =>
         have H:=HA.out
         clear HA
         simp only [Va.l1] at H
         by_cases c28:Jf < (Sa.length:Int)
         ·rw [if_pos c28] at H
          have D4:decide (Jf < (Sa.length:Int))=true:=decide_eq_true c28
          clear c28
          by_cases c29:0 ≤ Jf
          ·rw [if_pos c29] at H
           have zy:decide (0 ≤ Jf)=true:=decide_eq_true c29
           clear c29
           by_cases c30:(wrap64 (Mz + (((Xa Sa Jf).f0).length:Int))) > 1000
           ·rw [if_pos c30] at H
            have NH:decide (1000 < (wrap64 (Mz + (((Xa Sa Jf).f0).length:Int))))=true:=decide_eq_true c30
            clear c30
            obtain rfl:=Option.some.inj H
            have dx:wr.cell? ⟨Ea,0,none⟩=some (.slice Cb Ta.length Bb):=(ga za.out 0).trans rfl
            have cx:wr.cell? ⟨Ea,1,none⟩=some (.int .i64 Ma):=(ga za.out 1).trans rfl
            have ax:wr.cell? ⟨Ea,2,none⟩=some (.int .i64 Oa):=(ga za.out 2).trans rfl
            have Zw:wr.cell? ⟨Ea,3,none⟩=some (.int .i64 Pa):=(ga za.out 3).trans rfl
            have Yw:wr.cell? ⟨Ea,4,none⟩=some (.slice yc Sa.length Xb):=(ga za.out 4).trans rfl
            have zw:=aa za.out 0
            have yw:=aa za.out 1
            have xw:=aa za.out 2
            have vw:=aa za.out 3
            have uw:=aa za.out 4
            have Vx:0 ≤ (Jf:Int):=of_decide_eq_true (by first|(with_reducible assumption)|assumption)
            have Ux:Jf < (Sa.length:Int):=of_decide_eq_true (by first|(with_reducible assumption)|assumption)
            obtain ⟨Di,RL,rL,fL,ql,jl,cl,Zk,Yk,Vn,Wn⟩:=cg oh.out Jf Vx Ux
            cases fL
            replace ql:=(HB.out.cell (World.block_lt_of_cell? w _ ql)).trans ql
            replace jl:=(HB.out.cell (World.block_lt_of_cell? w _ jl)).trans jl
            replace cl:=(HB.out.cell (World.block_lt_of_cell? w _ cl)).trans cl
            replace Zk:=(HB.out.cell (World.block_lt_of_cell? w _ Zk)).trans Zk
            replace Yk:=(HB.out.cell (World.block_lt_of_cell? w _ Yk)).trans Yk
            have ZH:=ja.mk Wn
            have gI:=ja.mk Vn
            clear Wn Vn
            replace Vx:=eq_true Vx
            replace Ux:=eq_true Ux
            try go_wp2
            have Gb:=ja.mk (Ga za.out)
            have Vb:=ja.mk (ua HB.out)
            clear za
            clear HB
            have za:=Gb
            have HB:=Vb
            clear Gb Vb
            refine Xj (n:=12) (S:=fun w'=>True) (ds:=[]) #[false,false,false,false,false,false,false,false,false,false,false,false] (by kernel_rfl) rfl rfl trivial (fun hHeld=>?_);refine Uh Va.lJ Va.kE (fun Cf yo=>?_)
            generalize wr.drew=w32 at za HB hHeld ⊢
            refine qd (i:=0) (N:=some 75) (v:=?_) (a':=?_) #[true,false,false,false,false,false,false,false,false,false,false,false] rfl rfl (Oc Cf.out (by kernel_rfl)) (fun _ _ _ h=>h) (Or.inl ⟨by rfl,?_⟩) ?_ ?_
            rotate_left
            ·intro w'
             go_simp
             with_reducible rfl
            rotate_left
            ·simp only [Act.put,List.setIfInBounds_toArray,List.set_cons_zero,List.set_cons_succ,Ib,Jb]
             rfl
            refine qd (i:=1) (N:=some 76) (v:=?_) (a':=?_) #[true,true,false,false,false,false,false,false,false,false,false,false] rfl rfl (Oc Cf.out (by kernel_rfl)) (fun _ _ _ h=>h) (Or.inl ⟨by rfl,?_⟩) ?_ ?_
            rotate_left
            ·intro w'
             go_simp
             with_reducible rfl
            rotate_left
            ·simp only [Act.put,List.setIfInBounds_toArray,List.set_cons_zero,List.set_cons_succ,Ib,Jb]
             rfl
            refine qd (i:=2) (N:=some 77) (v:=?_) (a':=?_) #[true,true,true,false,false,false,false,false,false,false,false,false] rfl rfl (Oc Cf.out (by kernel_rfl)) (fun _ _ _ h=>h) (Or.inl ⟨by rfl,?_⟩) ?_ ?_
            rotate_left
            ·intro w'
             go_simp
             with_reducible rfl
            rotate_left
            ·simp only [Act.put,List.setIfInBounds_toArray,List.set_cons_zero,List.set_cons_succ,Ib,Jb]
             rfl
            refine qd (i:=3) (N:=some 78) (v:=undef) (a':=?_) #[true,true,true,true,false,false,false,false,false,false,false,false] rfl rfl (Oc Cf.out (by kernel_rfl)) (fun _ _ _ h=>h) (Or.inr ⟨by rfl,rfl⟩) ?_ ?_
            rotate_left
            ·simp only [Act.put,List.setIfInBounds_toArray,List.set_cons_zero,List.set_cons_succ,Ib,Jb]
             rfl
            refine qd (i:=4) (N:=some 79) (v:=undef) (a':=?_) #[true,true,true,true,true,false,false,false,false,false,false,false] rfl rfl (Oc Cf.out (by kernel_rfl)) (fun _ _ _ h=>h) (Or.inr ⟨by rfl,rfl⟩) ?_ ?_
            rotate_left
            ·simp only [Act.put,List.setIfInBounds_toArray,List.set_cons_zero,List.set_cons_succ,Ib,Jb]
             rfl
            refine qd (i:=5) (N:=some 80) (v:=undef) (a':=?_) #[true,true,true,true,true,true,false,false,false,false,false,false] rfl rfl (Oc Cf.out (by kernel_rfl)) (fun _ _ _ h=>h) (Or.inr ⟨by rfl,rfl⟩) ?_ ?_
            rotate_left
            ·simp only [Act.put,List.setIfInBounds_toArray,List.set_cons_zero,List.set_cons_succ,Ib,Jb]
             rfl
            refine qd (i:=6) (N:=some 81) (v:=undef) (a':=?_) #[true,true,true,true,true,true,true,false,false,false,false,false] rfl rfl (Oc Cf.out (by kernel_rfl)) (fun _ _ _ h=>h) (Or.inr ⟨by rfl,rfl⟩) ?_ ?_
            rotate_left
            ·simp only [Act.put,List.setIfInBounds_toArray,List.set_cons_zero,List.set_cons_succ,Ib,Jb]
             rfl
            refine qd (i:=7) (N:=some 82) (v:=undef) (a':=?_) #[true,true,true,true,true,true,true,true,false,false,false,false] rfl rfl (Oc Cf.out (by kernel_rfl)) (fun _ _ _ h=>h) (Or.inr ⟨by rfl,rfl⟩) ?_ ?_
            rotate_left
            ·simp only [Act.put,List.setIfInBounds_toArray,List.set_cons_zero,List.set_cons_succ,Ib,Jb]
             rfl
            refine qd (i:=8) (N:=some 83) (v:=undef) (a':=?_) #[true,true,true,true,true,true,true,true,true,false,false,false] rfl rfl (Oc Cf.out (by kernel_rfl)) (fun _ _ _ h=>h) (Or.inr ⟨by rfl,rfl⟩) ?_ ?_
            rotate_left
            ·simp only [Act.put,List.setIfInBounds_toArray,List.set_cons_zero,List.set_cons_succ,Ib,Jb]
             rfl
            refine qd (i:=9) (N:=some 84) (v:=undef) (a':=?_) #[true,true,true,true,true,true,true,true,true,true,false,false] rfl rfl (Oc Cf.out (by kernel_rfl)) (fun _ _ _ h=>h) (Or.inr ⟨by rfl,rfl⟩) ?_ ?_
            rotate_left
            ·simp only [Act.put,List.setIfInBounds_toArray,List.set_cons_zero,List.set_cons_succ,Ib,Jb]
             rfl
            refine qd (i:=10) (N:=some 85) (v:=undef) (a':=?_) #[true,true,true,true,true,true,true,true,true,true,true,false] rfl rfl (Oc Cf.out (by kernel_rfl)) (fun _ _ _ h=>h) (Or.inr ⟨by rfl,rfl⟩) ?_ ?_
            rotate_left
            ·simp only [Act.put,List.setIfInBounds_toArray,List.set_cons_zero,List.set_cons_succ,Ib,Jb]
             rfl
            refine qd (i:=11) (N:=some 86) (v:=?_) (a':=?_) #[true,true,true,true,true,true,true,true,true,true,true,true] rfl rfl (Oc Cf.out (by kernel_rfl)) (fun _ _ _ h=>h) (Or.inl ⟨by rfl,?_⟩) ?_ ?_
            rotate_left
            ·intro w'
             go_simp
             with_reducible rfl
            rotate_left
            ·simp only [Act.put,List.setIfInBounds_toArray,List.set_cons_zero,List.set_cons_succ,Ib,Jb]
             rfl
            refine wm (Sj Cf.out (by kernel_rfl)) ?_
            try go_wp2
            go_ret
            exact ⟨by first|rfl|(simp [La,Ka] <;> rfl)|(simp [*,La,Ka] <;> rfl),by repeat (first|(with_reducible first|exact HB.out|apply qa|apply ia|apply ua|refine Aa ?_ Wa.out)|exact HB.out)⟩
           ·rw [if_neg c30] at H
            have NH:decide (1000 < (wrap64 (Mz + (((Xa Sa Jf).f0).length:Int))))=false:=decide_eq_false c30
            clear c30
            replace H:=Option.bind_eq_some_iff.mp H
            obtain ⟨t111,S6,H⟩:=H
            replace H:(if t111=true then (Va.l1 k3 (wrap64 (Mz + (((Xa Sa Jf).f0).length:Int))) (wrap64 (Jf + 1)) Ta Ma Oa Pa Sa) else (some false))=some r:=H
            have A33:=ja.mk S6
            clear S6
            by_cases c34:t111=true
            ·subst c34
             have H1:(Va.l1 k3 (wrap64 (Mz + (((Xa Sa Jf).f0).length:Int))) (wrap64 (Jf + 1)) Ta Ma Oa Pa Sa)=some r:=by rw [if_pos rfl] at H;exact H
             clear H
             have H:=H1
             clear H1
             have H':=ja.mk H
             clear H
             have fu:wr.cell? ⟨Ea,0,none⟩=some (.slice Cb Ta.length Bb):=(ga za.out 0).trans rfl
             have eu:wr.cell? ⟨Ea,1,none⟩=some (.int .i64 Ma):=(ga za.out 1).trans rfl
             have lH:wr.cell? ⟨Ea,2,none⟩=some (.int .i64 Oa):=(ga za.out 2).trans rfl
             have kH:wr.cell? ⟨Ea,3,none⟩=some (.int .i64 Pa):=(ga za.out 3).trans rfl
             have jH:wr.cell? ⟨Ea,4,none⟩=some (.slice yc Sa.length Xb):=(ga za.out 4).trans rfl
             have Ft:=aa za.out 0
             have Et:=aa za.out 1
             have SF:=aa za.out 2
             have RF:=aa za.out 3
             have QF:=aa za.out 4
             have Vx:0 ≤ (Jf:Int):=of_decide_eq_true (by first|(with_reducible assumption)|assumption)
             have Ux:Jf < (Sa.length:Int):=of_decide_eq_true (by first|(with_reducible assumption)|assumption)
             obtain ⟨Di,RL,rL,fL,ql,jl,cl,Zk,Yk,Vn,Wn⟩:=cg oh.out Jf Vx Ux
             cases fL
             replace ql:=(HB.out.cell (World.block_lt_of_cell? w _ ql)).trans ql
             replace jl:=(HB.out.cell (World.block_lt_of_cell? w _ jl)).trans jl
             replace cl:=(HB.out.cell (World.block_lt_of_cell? w _ cl)).trans cl
             replace Zk:=(HB.out.cell (World.block_lt_of_cell? w _ Zk)).trans Zk
             replace Yk:=(HB.out.cell (World.block_lt_of_cell? w _ Yk)).trans Yk
             have ZH:=ja.mk Wn
             have gI:=ja.mk Vn
             clear Wn Vn
             replace Vx:=eq_true Vx
             replace Ux:=eq_true Ux
             try go_wp2
             have Gb:=ja.mk (Ga za.out)
             have Vb:=ja.mk (ua HB.out)
             clear za
             clear HB
             have za:=Gb
             have HB:=Vb
             clear Gb Vb
             have qD:0 ≤ (Jf:Int):=of_decide_eq_true (by first|(with_reducible assumption)|assumption)
             have mD:Jf < (Sa.length:Int):=of_decide_eq_true (by first|(with_reducible assumption)|assumption)
             obtain ⟨tL,Sy,Dy,pU,Xk,Wk,Vk,Uk,Tk,ct,qt⟩:=cg oh.out Jf qD mD
             have Am:=Tk
             have Bm:=Uk
             have Cm:=Vk
             have Dm:=Wk
             have Em:=Xk
             obtain rfl:Di=tL:=(by injection pU)
             replace Xk:=(HB.out.cell (World.block_lt_of_cell? w _ Xk)).trans Xk
             replace Wk:=(HB.out.cell (World.block_lt_of_cell? w _ Wk)).trans Wk
             replace Vk:=(HB.out.cell (World.block_lt_of_cell? w _ Vk)).trans Vk
             replace Uk:=(HB.out.cell (World.block_lt_of_cell? w _ Uk)).trans Uk
             replace Tk:=(HB.out.cell (World.block_lt_of_cell? w _ Tk)).trans Tk
             have Hu:=ja.mk qt
             have xB:=ja.mk ct
             clear qt ct
             replace qD:=eq_true qD
             replace mD:=eq_true mD
             refine Xj (n:=12) (S:=fun w'=>w'.cell? ⟨Ea,0,none⟩=some (.slice Cb Ta.length Bb)∧w'.cell? ⟨Ea,1,none⟩=some (.int .i64 Ma)∧w'.cell? ⟨Ea,2,none⟩=some (.int .i64 Oa)∧w'.cell? ⟨Ea,3,none⟩=some (.int .i64 Pa)∧w'.cell? ⟨Ea,4,none⟩=some (.slice (some Di) Sa.length Xb)∧w'.cell? (Di.add ((Jf).toNat * 5))=some (.slice Sy ((Xa Sa Jf).f0).length Dy)∧w'.cell? ⟨(Di.add ((Jf).toNat * 5)).block,(Di.add ((Jf).toNat * 5)).off + 1,none⟩=some (.int .i64 ((Xa Sa Jf).f1))∧w'.cell? ⟨(Di.add ((Jf).toNat * 5)).block,(Di.add ((Jf).toNat * 5)).off + 2,none⟩=some (.int .i64 ((Xa Sa Jf).f2))∧w'.cell? ⟨(Di.add ((Jf).toNat * 5)).block,(Di.add ((Jf).toNat * 5)).off + 3,none⟩=some (.int .i64 ((Xa Sa Jf).f3))∧w'.cell? ⟨(Di.add ((Jf).toNat * 5)).block,(Di.add ((Jf).toNat * 5)).off + 4,none⟩=some (.int .i64 ((Xa Sa Jf).f4))) (ds:=[]) #[false,false,false,false,false,false,false,false,false,false,false,false] (by kernel_rfl) rfl rfl ⟨(ga za.out 0).trans rfl,(ga za.out 1).trans rfl,(ga za.out 2).trans rfl,(ga za.out 3).trans rfl,(ga za.out 4).trans rfl,((HB.out.cell (World.block_lt_of_cell? w _ Em)).trans Em),((HB.out.cell (World.block_lt_of_cell? w _ Dm)).trans Dm),((HB.out.cell (World.block_lt_of_cell? w _ Cm)).trans Cm),((HB.out.cell (World.block_lt_of_cell? w _ Bm)).trans Bm),((HB.out.cell (World.block_lt_of_cell? w _ Am)).trans Am)⟩ (fun hHeld=>?_);refine Uh Va.lJ Va.kE (fun Cf yo=>?_)
             generalize wr.drew=aD at za HB Hu Xk Wk Vk Uk Tk hHeld ⊢
             refine qd (i:=0) (N:=some 75) (v:=?_) (a':=?_) #[true,false,false,false,false,false,false,false,false,false,false,false] rfl rfl (Oc Cf.out (by kernel_rfl)) (fun _ _ _ h=>h) (Or.inl ⟨by rfl,?_⟩) ?_ ?_
             rotate_left
             ·intro w'
              go_simp
              with_reducible rfl
             rotate_left
             ·simp only [Act.put,List.setIfInBounds_toArray,List.set_cons_zero,List.set_cons_succ,Ib,Jb]
              rfl
             refine qd (i:=1) (N:=some 76) (v:=?_) (a':=?_) #[true,true,false,false,false,false,false,false,false,false,false,false] rfl rfl (Oc Cf.out (by kernel_rfl)) (fun _ _ _ h=>h) (Or.inl ⟨by rfl,?_⟩) ?_ ?_
             rotate_left
             ·intro w'
              go_simp
              with_reducible rfl
             rotate_left
             ·simp only [Act.put,List.setIfInBounds_toArray,List.set_cons_zero,List.set_cons_succ,Ib,Jb]
              rfl
             refine qd (i:=2) (N:=some 77) (v:=?_) (a':=?_) #[true,true,true,false,false,false,false,false,false,false,false,false] rfl rfl (Oc Cf.out (by kernel_rfl)) (fun _ _ _ h=>h) (Or.inl ⟨by rfl,?_⟩) ?_ ?_
             rotate_left
             ·intro w'
              go_simp
              with_reducible rfl
             rotate_left
             ·simp only [Act.put,List.setIfInBounds_toArray,List.set_cons_zero,List.set_cons_succ,Ib,Jb]
              rfl
             refine qd (i:=4) (N:=some 79) (v:=?_) (a':=?_) #[true,true,true,false,true,false,false,false,false,false,false,false] rfl rfl (Oc Cf.out (by kernel_rfl)) (fun _ _ _ h=>h) (Or.inl ⟨by rfl,?_⟩) ?_ ?_
             rotate_left
             ·intro w'
              go_simp
              with_reducible rfl
             rotate_left
             ·simp only [Act.put,List.setIfInBounds_toArray,List.set_cons_zero,List.set_cons_succ,Ib,Jb]
              rfl
             refine qd (i:=6) (N:=some 81) (v:=?_) (a':=?_) #[true,true,true,false,true,false,true,false,false,false,false,false] rfl rfl (Oc Cf.out (by kernel_rfl)) (fun _ _ _ h=>h) (Or.inl ⟨by rfl,?_⟩) ?_ ?_
             rotate_left
             ·intro w'
              go_simp
              with_reducible rfl
             rotate_left
             ·simp only [Act.put,List.setIfInBounds_toArray,List.set_cons_zero,List.set_cons_succ,Ib,Jb]
              rfl
             refine sg (i:=3) (N:=some 78) (v:=?_) (a':=?_) #[true,true,true,true,true,false,true,false,false,false,false,false] rfl rfl (af Cf.out yo.out (by kernel_rfl)) (fun _ _ _ h=>h) (Or.inl ⟨by rfl,?_⟩) hHeld ?_ ?_
             rotate_left
             ·rintro w' ⟨s0,s1,s2,s3,s4,s5,s6,s7,s8,s9⟩
              go_simp
              with_reducible rfl
             rotate_left
             ·simp only [Act.put,List.setIfInBounds_toArray,List.set_cons_zero,List.set_cons_succ,Ib,Jb]
              rfl
             refine sg (i:=5) (N:=some 80) (v:=?_) (a':=?_) #[true,true,true,true,true,true,true,false,false,false,false,false] rfl rfl (af Cf.out yo.out (by kernel_rfl)) (fun _ _ _ h=>h) (Or.inl ⟨by rfl,?_⟩) hHeld ?_ ?_
             rotate_left
             ·rintro w' ⟨s0,s1,s2,s3,s4,s5,s6,s7,s8,s9⟩
              go_simp
              with_reducible rfl
             rotate_left
             ·simp only [Act.put,List.setIfInBounds_toArray,List.set_cons_zero,List.set_cons_succ,Ib,Jb]
              rfl
             refine qd (i:=7) (N:=some 82) (v:=?_) (a':=?_) #[true,true,true,true,true,true,true,true,false,false,false,false] rfl rfl (Oc Cf.out (by kernel_rfl)) (fun _ _ _ h=>h) (Or.inl ⟨by rfl,?_⟩) ?_ ?_
             rotate_left
             ·intro w'
              go_simp
              with_reducible rfl
             rotate_left
             ·simp only [Act.put,List.setIfInBounds_toArray,List.set_cons_zero,List.set_cons_succ,Ib,Jb]
              rfl
             refine sg (i:=8) (N:=some 83) (v:=?_) (a':=?_) #[true,true,true,true,true,true,true,true,true,false,false,false] rfl rfl (af Cf.out yo.out (by kernel_rfl)) (fun _ _ _ h=>h) (Or.inl ⟨by rfl,?_⟩) hHeld ?_ ?_
             rotate_left
             ·rintro w' ⟨s0,s1,s2,s3,s4,s5,s6,s7,s8,s9⟩
              go_simp
              with_reducible rfl
             rotate_left
             ·simp only [Act.put,List.setIfInBounds_toArray,List.set_cons_zero,List.set_cons_succ,Ib,Jb]
              rfl
             refine Vo (i:=9) (N:=some 84) #[true,true,true,true,true,true,true,true,true,true,false,false] rfl rfl (Pk Cf.out (by kernel_rfl)) (by decide) (fun K hK=>?_)
             refine Kn Try.func87 (by kernel_rfl) rfl #[.agg #[.slice Cb Ta.length Bb,.int .i64 Ma,.int .i64 Oa,.int .i64 Pa,.slice (some Di) Sa.length Xb],.agg #[.slice Sy ((Xa Sa Jf).f0).length Dy,.int .i64 ((Xa Sa Jf).f1),.int .i64 ((Xa Sa Jf).f2),.int .i64 ((Xa Sa Jf).f3),.int .i64 ((Xa Sa Jf).f4)]] (by rfl) rfl rfl (by (try simp only [List.map_toArray,List.map_cons,List.map_nil]);first|done|rfl|(simp only [List.length_drop,List.length_take];rfl)) ?_
             with_reducible refine (Ab.calls k3 _ _ Ta Ma Oa Pa _ _ Sa _ _ ((Xa Sa Jf).f0) ((Xa Sa Jf).f1) ((Xa Sa Jf).f2) ((Xa Sa Jf).f3) ((Xa Sa Jf).f4) true _ ?side1 ?side2 ?side3 ?side4 ?side5 ?side6 A33.out).mono ?_
             (case side1=>repeat (first|exact (Kd.Mb ig.out HB.out)|(with_reducible refine Kd.Sc ?_ _)|(with_reducible refine Kd.Rc ?_ _)|(with_reducible refine Kd.Qd ?_)))
             (case side2=>exact mg.out)
             (case side3=>repeat (first|exact (Kd.Mb oh.out HB.out)|(with_reducible refine Kd.Sc ?_ _)|(with_reducible refine Kd.Rc ?_ _)|(with_reducible refine Kd.Qd ?_)))
             (case side4=>exact qj.out)
             (case side5=>repeat (first|exact (Kd.Mb Hu.out HB.out)|(with_reducible refine Kd.Sc ?_ _)|(with_reducible refine Kd.Rc ?_ _)|(with_reducible refine Kd.Qd ?_)))
             (case side6=>exact xB.out)
             rintro e w37 ⟨rfl,hb⟩
             refine ⟨_,rfl,?_⟩
             have Gb:=ja.mk (gb (g:=Ea) (o:=.cells #[.slice Cb Ta.length Bb,.int .i64 Ma,.int .i64 Oa,.int .i64 Pa,.slice (some Di) Sa.length Xb] 30 (0,0)) (by (with_reducible repeat (first|refine Da ?_ _|refine Ga ?_|refine Ca ?_ _));exact za.out) hb)
             have Vb:=ja.mk (Qa (by repeat (first|(with_reducible first|exact HB.out|apply qa|apply ia|apply ua|refine Aa ?_ Wa.out)|exact HB.out)) hb)
             clear za
             clear HB
             have za:=Gb
             have HB:=Vb
             clear Gb Vb
             (try clear hb)
             (try clear hb2)
             (try clear hk)
             (try clear hi)
             refine hK.out _ _ ⟨(ga za.out 0).trans rfl,(ga za.out 1).trans rfl,(ga za.out 2).trans rfl,(ga za.out 3).trans rfl,(ga za.out 4).trans rfl,((HB.out.cell (World.block_lt_of_cell? w _ Em)).trans Em),((HB.out.cell (World.block_lt_of_cell? w _ Dm)).trans Dm),((HB.out.cell (World.block_lt_of_cell? w _ Cm)).trans Cm),((HB.out.cell (World.block_lt_of_cell? w _ Bm)).trans Bm),((HB.out.cell (World.block_lt_of_cell? w _ Am)).trans Am)⟩ (fun hHeld=>?_)
             clear hK K
             refine Vj (a':=?_) ?_ ?_
             rotate_left
             ·show Act.put _ (some 84) _=_
              simp only [Act.put,List.setIfInBounds_toArray,List.set_cons_zero,List.set_cons_succ,Ib,Jb]
              rfl
             refine qd (i:=10) (N:=some 85) (v:=?_) (a':=?_) #[true,true,true,true,true,true,true,true,true,true,true,false] rfl rfl (Oc Cf.out (by kernel_rfl)) (fun _ _ _ h=>h) (Or.inl ⟨by rfl,?_⟩) ?_ ?_
             rotate_left
             ·intro w'
              go_simp
              with_reducible rfl
             rotate_left
             ·simp only [Act.put,List.setIfInBounds_toArray,List.set_cons_zero,List.set_cons_succ,Ib,Jb]
              rfl
             refine qd (i:=11) (N:=some 86) (v:=?_) (a':=?_) #[true,true,true,true,true,true,true,true,true,true,true,true] rfl rfl (Oc Cf.out (by kernel_rfl)) (fun _ _ _ h=>h) (Or.inl ⟨by rfl,?_⟩) ?_ ?_
             rotate_left
             ·intro w'
              go_simp
              with_reducible rfl
             rotate_left
             ·simp only [Act.put,List.setIfInBounds_toArray,List.set_cons_zero,List.set_cons_succ,Ib,Jb]
              rfl
             refine wm (Sj Cf.out (by kernel_rfl)) ?_
             try go_wp2
             go_roundg k3
             case measure=>have:=Yg.out;have:=HJ8.out;have:=IV.out;omega
             case rel=>exact ⟨(wrap64 (Mz + (((Xa Sa Jf).f0).length:Int))),(wrap64 (Jf + 1)),(by first|rfl|(simp;done)|(simp [*];done)),(by first|rfl|(simp;done)|(simp [*];done)),H',⟨by have:=Yg.out;have:=HJ8.out;have:=IV.out;omega⟩,⟨by (with_reducible repeat (first|refine Da ?_ _|refine Ga ?_|refine Ca ?_ _));exact za.out⟩,⟨by repeat (first|(with_reducible first|exact HB.out|apply qa|apply ia|apply ua|refine Aa ?_ Wa.out)|exact HB.out)⟩⟩
            ·replace c34:=Bool.eq_false_iff.mpr c34
             subst c34
             have H1:(some false)=some r:=by rw [if_neg (show ¬ (false=true) by decide)] at H;exact H
             clear H
             have H:=H1
             clear H1
             obtain rfl:=Option.some.inj H
             have UA:wr.cell? ⟨Ea,0,none⟩=some (.slice Cb Ta.length Bb):=(ga za.out 0).trans rfl
             have TA:wr.cell? ⟨Ea,1,none⟩=some (.int .i64 Ma):=(ga za.out 1).trans rfl
             have SA:wr.cell? ⟨Ea,2,none⟩=some (.int .i64 Oa):=(ga za.out 2).trans rfl
             have RA:wr.cell? ⟨Ea,3,none⟩=some (.int .i64 Pa):=(ga za.out 3).trans rfl
             have QA:wr.cell? ⟨Ea,4,none⟩=some (.slice yc Sa.length Xb):=(ga za.out 4).trans rfl
             have tA:=aa za.out 0
             have sA:=aa za.out 1
             have rA:=aa za.out 2
             have qA:=aa za.out 3
             have oA:=aa za.out 4
             have Vx:0 ≤ (Jf:Int):=of_decide_eq_true (by first|(with_reducible assumption)|assumption)
             have Ux:Jf < (Sa.length:Int):=of_decide_eq_true (by first|(with_reducible assumption)|assumption)
             obtain ⟨Di,RL,rL,fL,ql,jl,cl,Zk,Yk,Vn,Wn⟩:=cg oh.out Jf Vx Ux
             cases fL
             replace ql:=(HB.out.cell (World.block_lt_of_cell? w _ ql)).trans ql
             replace jl:=(HB.out.cell (World.block_lt_of_cell? w _ jl)).trans jl
             replace cl:=(HB.out.cell (World.block_lt_of_cell? w _ cl)).trans cl
             replace Zk:=(HB.out.cell (World.block_lt_of_cell? w _ Zk)).trans Zk
             replace Yk:=(HB.out.cell (World.block_lt_of_cell? w _ Yk)).trans Yk
             have ZH:=ja.mk Wn
             have gI:=ja.mk Vn
             clear Wn Vn
             replace Vx:=eq_true Vx
             replace Ux:=eq_true Ux
             try go_wp2
             have Gb:=ja.mk (Ga za.out)
             have Vb:=ja.mk (ua HB.out)
             clear za
             clear HB
             have za:=Gb
             have HB:=Vb
             clear Gb Vb
             have qD:0 ≤ (Jf:Int):=of_decide_eq_true (by first|(with_reducible assumption)|assumption)
             have mD:Jf < (Sa.length:Int):=of_decide_eq_true (by first|(with_reducible assumption)|assumption)
             obtain ⟨tL,Sy,Dy,pU,Xk,Wk,Vk,Uk,Tk,ct,qt⟩:=cg oh.out Jf qD mD
             have Am:=Tk
             have Bm:=Uk
             have Cm:=Vk
             have Dm:=Wk
             have Em:=Xk
             obtain rfl:Di=tL:=(by injection pU)
             replace Xk:=(HB.out.cell (World.block_lt_of_cell? w _ Xk)).trans Xk
             replace Wk:=(HB.out.cell (World.block_lt_of_cell? w _ Wk)).trans Wk
             replace Vk:=(HB.out.cell (World.block_lt_of_cell? w _ Vk)).trans Vk
             replace Uk:=(HB.out.cell (World.block_lt_of_cell? w _ Uk)).trans Uk
             replace Tk:=(HB.out.cell (World.block_lt_of_cell? w _ Tk)).trans Tk
             have Hu:=ja.mk qt
             have xB:=ja.mk ct
             clear qt ct
             replace qD:=eq_true qD
             replace mD:=eq_true mD
             refine Xj (n:=12) (S:=fun w'=>w'.cell? ⟨Ea,0,none⟩=some (.slice Cb Ta.length Bb)∧w'.cell? ⟨Ea,1,none⟩=some (.int .i64 Ma)∧w'.cell? ⟨Ea,2,none⟩=some (.int .i64 Oa)∧w'.cell? ⟨Ea,3,none⟩=some (.int .i64 Pa)∧w'.cell? ⟨Ea,4,none⟩=some (.slice (some Di) Sa.length Xb)∧w'.cell? (Di.add ((Jf).toNat * 5))=some (.slice Sy ((Xa Sa Jf).f0).length Dy)∧w'.cell? ⟨(Di.add ((Jf).toNat * 5)).block,(Di.add ((Jf).toNat * 5)).off + 1,none⟩=some (.int .i64 ((Xa Sa Jf).f1))∧w'.cell? ⟨(Di.add ((Jf).toNat * 5)).block,(Di.add ((Jf).toNat * 5)).off + 2,none⟩=some (.int .i64 ((Xa Sa Jf).f2))∧w'.cell? ⟨(Di.add ((Jf).toNat * 5)).block,(Di.add ((Jf).toNat * 5)).off + 3,none⟩=some (.int .i64 ((Xa Sa Jf).f3))∧w'.cell? ⟨(Di.add ((Jf).toNat * 5)).block,(Di.add ((Jf).toNat * 5)).off + 4,none⟩=some (.int .i64 ((Xa Sa Jf).f4))) (ds:=[]) #[false,false,false,false,false,false,false,false,false,false,false,false] (by kernel_rfl) rfl rfl ⟨(ga za.out 0).trans rfl,(ga za.out 1).trans rfl,(ga za.out 2).trans rfl,(ga za.out 3).trans rfl,(ga za.out 4).trans rfl,((HB.out.cell (World.block_lt_of_cell? w _ Em)).trans Em),((HB.out.cell (World.block_lt_of_cell? w _ Dm)).trans Dm),((HB.out.cell (World.block_lt_of_cell? w _ Cm)).trans Cm),((HB.out.cell (World.block_lt_of_cell? w _ Bm)).trans Bm),((HB.out.cell (World.block_lt_of_cell? w _ Am)).trans Am)⟩ (fun hHeld=>?_);refine Uh Va.lJ Va.kE (fun Cf yo=>?_)
             generalize wr.drew=w39 at za HB Hu Xk Wk Vk Uk Tk hHeld ⊢
             refine qd (i:=0) (N:=some 75) (v:=?_) (a':=?_) #[true,false,false,false,false,false,false,false,false,false,false,false] rfl rfl (Oc Cf.out (by kernel_rfl)) (fun _ _ _ h=>h) (Or.inl ⟨by rfl,?_⟩) ?_ ?_
             rotate_left
             ·intro w'
              go_simp
              with_reducible rfl
             rotate_left
             ·simp only [Act.put,List.setIfInBounds_toArray,List.set_cons_zero,List.set_cons_succ,Ib,Jb]
              rfl
             refine qd (i:=1) (N:=some 76) (v:=?_) (a':=?_) #[true,true,false,false,false,false,false,false,false,false,false,false] rfl rfl (Oc Cf.out (by kernel_rfl)) (fun _ _ _ h=>h) (Or.inl ⟨by rfl,?_⟩) ?_ ?_
             rotate_left
             ·intro w'
              go_simp
              with_reducible rfl
             rotate_left
             ·simp only [Act.put,List.setIfInBounds_toArray,List.set_cons_zero,List.set_cons_succ,Ib,Jb]
              rfl
             refine qd (i:=2) (N:=some 77) (v:=?_) (a':=?_) #[true,true,true,false,false,false,false,false,false,false,false,false] rfl rfl (Oc Cf.out (by kernel_rfl)) (fun _ _ _ h=>h) (Or.inl ⟨by rfl,?_⟩) ?_ ?_
             rotate_left
             ·intro w'
              go_simp
              with_reducible rfl
             rotate_left
             ·simp only [Act.put,List.setIfInBounds_toArray,List.set_cons_zero,List.set_cons_succ,Ib,Jb]
              rfl
             refine qd (i:=4) (N:=some 79) (v:=?_) (a':=?_) #[true,true,true,false,true,false,false,false,false,false,false,false] rfl rfl (Oc Cf.out (by kernel_rfl)) (fun _ _ _ h=>h) (Or.inl ⟨by rfl,?_⟩) ?_ ?_
             rotate_left
             ·intro w'
              go_simp
              with_reducible rfl
             rotate_left
             ·simp only [Act.put,List.setIfInBounds_toArray,List.set_cons_zero,List.set_cons_succ,Ib,Jb]
              rfl
             refine qd (i:=6) (N:=some 81) (v:=?_) (a':=?_) #[true,true,true,false,true,false,true,false,false,false,false,false] rfl rfl (Oc Cf.out (by kernel_rfl)) (fun _ _ _ h=>h) (Or.inl ⟨by rfl,?_⟩) ?_ ?_
             rotate_left
             ·intro w'
              go_simp
              with_reducible rfl
             rotate_left
             ·simp only [Act.put,List.setIfInBounds_toArray,List.set_cons_zero,List.set_cons_succ,Ib,Jb]
              rfl
             refine sg (i:=3) (N:=some 78) (v:=?_) (a':=?_) #[true,true,true,true,true,false,true,false,false,false,false,false] rfl rfl (af Cf.out yo.out (by kernel_rfl)) (fun _ _ _ h=>h) (Or.inl ⟨by rfl,?_⟩) hHeld ?_ ?_
             rotate_left
             ·rintro w' ⟨s0,s1,s2,s3,s4,s5,s6,s7,s8,s9⟩
              go_simp
              with_reducible rfl
             rotate_left
             ·simp only [Act.put,List.setIfInBounds_toArray,List.set_cons_zero,List.set_cons_succ,Ib,Jb]
              rfl
             refine sg (i:=5) (N:=some 80) (v:=?_) (a':=?_) #[true,true,true,true,true,true,true,false,false,false,false,false] rfl rfl (af Cf.out yo.out (by kernel_rfl)) (fun _ _ _ h=>h) (Or.inl ⟨by rfl,?_⟩) hHeld ?_ ?_
             rotate_left
             ·rintro w' ⟨s0,s1,s2,s3,s4,s5,s6,s7,s8,s9⟩
              go_simp
              with_reducible rfl
             rotate_left
             ·simp only [Act.put,List.setIfInBounds_toArray,List.set_cons_zero,List.set_cons_succ,Ib,Jb]
              rfl
             refine qd (i:=7) (N:=some 82) (v:=?_) (a':=?_) #[true,true,true,true,true,true,true,true,false,false,false,false] rfl rfl (Oc Cf.out (by kernel_rfl)) (fun _ _ _ h=>h) (Or.inl ⟨by rfl,?_⟩) ?_ ?_
             rotate_left
             ·intro w'
              go_simp
              with_reducible rfl
             rotate_left
             ·simp only [Act.put,List.setIfInBounds_toArray,List.set_cons_zero,List.set_cons_succ,Ib,Jb]
              rfl
             refine sg (i:=8) (N:=some 83) (v:=?_) (a':=?_) #[true,true,true,true,true,true,true,true,true,false,false,false] rfl rfl (af Cf.out yo.out (by kernel_rfl)) (fun _ _ _ h=>h) (Or.inl ⟨by rfl,?_⟩) hHeld ?_ ?_
             rotate_left
             ·rintro w' ⟨s0,s1,s2,s3,s4,s5,s6,s7,s8,s9⟩
              go_simp
              with_reducible rfl
             rotate_left
             ·simp only [Act.put,List.setIfInBounds_toArray,List.set_cons_zero,List.set_cons_succ,Ib,Jb]
              rfl
             refine Vo (i:=9) (N:=some 84) #[true,true,true,true,true,true,true,true,true,true,false,false] rfl rfl (Pk Cf.out (by kernel_rfl)) (by decide) (fun K hK=>?_)
             refine Kn Try.func87 (by kernel_rfl) rfl #[.agg #[.slice Cb Ta.length Bb,.int .i64 Ma,.int .i64 Oa,.int .i64 Pa,.slice (some Di) Sa.length Xb],.agg #[.slice Sy ((Xa Sa Jf).f0).length Dy,.int .i64 ((Xa Sa Jf).f1),.int .i64 ((Xa Sa Jf).f2),.int .i64 ((Xa Sa Jf).f3),.int .i64 ((Xa Sa Jf).f4)]] (by rfl) rfl rfl (by (try simp only [List.map_toArray,List.map_cons,List.map_nil]);first|done|rfl|(simp only [List.length_drop,List.length_take];rfl)) ?_
             with_reducible refine (Ab.calls k3 _ _ Ta Ma Oa Pa _ _ Sa _ _ ((Xa Sa Jf).f0) ((Xa Sa Jf).f1) ((Xa Sa Jf).f2) ((Xa Sa Jf).f3) ((Xa Sa Jf).f4) false _ ?side1 ?side2 ?side3 ?side4 ?side5 ?side6 A33.out).mono ?_
             (case side1=>repeat (first|exact (Kd.Mb ig.out HB.out)|(with_reducible refine Kd.Sc ?_ _)|(with_reducible refine Kd.Rc ?_ _)|(with_reducible refine Kd.Qd ?_)))
             (case side2=>exact mg.out)
             (case side3=>repeat (first|exact (Kd.Mb oh.out HB.out)|(with_reducible refine Kd.Sc ?_ _)|(with_reducible refine Kd.Rc ?_ _)|(with_reducible refine Kd.Qd ?_)))
             (case side4=>exact qj.out)
             (case side5=>repeat (first|exact (Kd.Mb Hu.out HB.out)|(with_reducible refine Kd.Sc ?_ _)|(with_reducible refine Kd.Rc ?_ _)|(with_reducible refine Kd.Qd ?_)))
             (case side6=>exact xB.out)
             rintro e w40 ⟨rfl,hb⟩
             refine ⟨_,rfl,?_⟩
             have Gb:=ja.mk (gb (g:=Ea) (o:=.cells #[.slice Cb Ta.length Bb,.int .i64 Ma,.int .i64 Oa,.int .i64 Pa,.slice (some Di) Sa.length Xb] 30 (0,0)) (by (with_reducible repeat (first|refine Da ?_ _|refine Ga ?_|refine Ca ?_ _));exact za.out) hb)
             have Vb:=ja.mk (Qa (by repeat (first|(with_reducible first|exact HB.out|apply qa|apply ia|apply ua|refine Aa ?_ Wa.out)|exact HB.out)) hb)
             clear za
             clear HB
             have za:=Gb
             have HB:=Vb
             clear Gb Vb
             (try clear hb)
             (try clear hb2)
             (try clear hk)
             (try clear hi)
             refine hK.out _ _ ⟨(ga za.out 0).trans rfl,(ga za.out 1).trans rfl,(ga za.out 2).trans rfl,(ga za.out 3).trans rfl,(ga za.out 4).trans rfl,((HB.out.cell (World.block_lt_of_cell? w _ Em)).trans Em),((HB.out.cell (World.block_lt_of_cell? w _ Dm)).trans Dm),((HB.out.cell (World.block_lt_of_cell? w _ Cm)).trans Cm),((HB.out.cell (World.block_lt_of_cell? w _ Bm)).trans Bm),((HB.out.cell (World.block_lt_of_cell? w _ Am)).trans Am)⟩ (fun hHeld=>?_)
             clear hK K
             refine Vj (a':=?_) ?_ ?_
             rotate_left
             ·show Act.put _ (some 84) _=_
              simp only [Act.put,List.setIfInBounds_toArray,List.set_cons_zero,List.set_cons_succ,Ib,Jb]
              rfl
             refine qd (i:=10) (N:=some 85) (v:=?_) (a':=?_) #[true,true,true,true,true,true,true,true,true,true,true,false] rfl rfl (Oc Cf.out (by kernel_rfl)) (fun _ _ _ h=>h) (Or.inl ⟨by rfl,?_⟩) ?_ ?_
             rotate_left
             ·intro w'
              go_simp
              with_reducible rfl
             rotate_left
             ·simp only [Act.put,List.setIfInBounds_toArray,List.set_cons_zero,List.set_cons_succ,Ib,Jb]
              rfl
             refine qd (i:=11) (N:=some 86) (v:=?_) (a':=?_) #[true,true,true,true,true,true,true,true,true,true,true,true] rfl rfl (Oc Cf.out (by kernel_rfl)) (fun _ _ _ h=>h) (Or.inl ⟨by rfl,?_⟩) ?_ ?_
             rotate_left
             ·intro w'
              go_simp
              with_reducible rfl
             rotate_left
             ·simp only [Act.put,List.setIfInBounds_toArray,List.set_cons_zero,List.set_cons_succ,Ib,Jb]
              rfl
             refine wm (Sj Cf.out (by kernel_rfl)) ?_
             try go_wp2
             go_ret
             exact ⟨by first|rfl|(simp [La,Ka] <;> rfl)|(simp [*,La,Ka] <;> rfl),by repeat (first|(with_reducible first|exact HB.out|apply qa|apply ia|apply ua|refine Aa ?_ Wa.out)|exact HB.out)⟩
          ·rw [if_neg c29] at H
           exact absurd H (by simp)
         ·rw [if_neg c28] at H
          have D4:decide (Jf < (Sa.length:Int))=false:=decide_eq_false c28
          clear c28
          obtain rfl:=Option.some.inj H
          have Qw:wr.cell? ⟨Ea,0,none⟩=some (.slice Cb Ta.length Bb):=(ga za.out 0).trans rfl
          have Pw:wr.cell? ⟨Ea,1,none⟩=some (.int .i64 Ma):=(ga za.out 1).trans rfl
          have zP:wr.cell? ⟨Ea,2,none⟩=some (.int .i64 Oa):=(ga za.out 2).trans rfl
          have yP:wr.cell? ⟨Ea,3,none⟩=some (.int .i64 Pa):=(ga za.out 3).trans rfl
          have xP:wr.cell? ⟨Ea,4,none⟩=some (.slice yc Sa.length Xb):=(ga za.out 4).trans rfl
          have iw:=aa za.out 0
          have ew:=aa za.out 1
          have FN:=aa za.out 2
          have EN:=aa za.out 3
          have DN:=aa za.out 4
          go_wp2
          go_ret
          exact ⟨by first|rfl|(simp [La,Ka] <;> rfl)|(simp [*,La,Ka] <;> rfl),by repeat (first|(with_reducible first|exact HB.out|apply qa|apply ia|apply ua|refine Aa ?_ Wa.out)|exact HB.out)⟩
end Go.Proofs.Ytmifdccaajngcaa.P
end
section
namespace Go.Proofs.Ytmifdccaajngcaa.P
open Go.RowKit Go.Proofs.Na.mc Go.Proofs.Na.jf Go.Proofs.Na.xg
set_option linter.unusedVariables false
set_option linter.unusedSimpArgs false
open Classical in
noncomputable def cw (n:Nat) (p:Nat→Prop):Bool:=decide (∀ j,j < n→p j)
open Classical in
theorem TI {n:Nat} {p:Nat→Prop} (h:∀ j,j < n→p j):cw n p=true:=by
 unfold cw
 exact decide_eq_true h
open Classical in
theorem KC {n:Nat} {p:Nat→Prop}:cw n p=true ↔ ∀ j,j < n→p j:=by
 unfold cw
 exact decide_eq_true_iff
theorem nE {n i:Nat} {p:Nat→Prop} (hi:i < n) (h:¬ p i):cw n p=false:=by
 cases e:cw n p with
 | false=>rfl
 | true=>exact absurd (KC.mp e i hi) h
theorem aE {ρ:Type} {n:Nat} {R e:ρ} (p:Nat→Prop) (f:Nat→Nat→Option ρ) (hend:Ev (f n) R) (hyes:∀ i,i < n→p i→∀ r,Ev (f (i + 1)) r→Ev (f i) r) (hno:∀ i,i < n→¬ p i→Ev (f i) e):Ev (f 0) (bif cw n p then R else e):=by
 have key:∀ d i,i + d=n→(∀ j,j < i→p j)→Ev (f i) (bif cw n p then R else e):=by
  intro d
  induction d with
  | zero =>
   intro i hi h
   have:i=n:=by omega
   subst this
   rw [TI h]
   exact hend
  | succ d ih =>
   intro i hi h
   by_cases hp:p i
   ·refine hyes i (by omega) hp _ (ih (i + 1) (by omega) ?_)
    intro j hj
    by_cases hji:j=i
    ·rw [hji];exact hp
    ·exact h j (by omega)
   ·rw [nE (by omega) hp]
    exact hno i (by omega) hp
 exact key n 0 (by omega) (fun j hj=>absurd hj (by omega))
theorem cv {α:Type} (l:List α) (z:α) (q:α→Bool):cw l.length (fun j=>q (l.getD j z)=true) = !(l.any fun x=>!q x):=by
 rw [Bool.eq_iff_iff,KC]
 simp only [Bool.not_eq_true',List.any_eq_false,Bool.not_eq_true',Bool.not_eq_false]
 constructor
 ·intro h x hx
  obtain ⟨j,hj,rfl⟩:=List.mem_iff_getElem.mp hx
  have:=h j hj
  rw [List.getD_eq_getElem?_getD,List.getElem?_eq_getElem hj] at this
  simpa using this
 ·intro h j hj
  have:=h l[j] (List.getElem_mem hj)
  rw [List.getD_eq_getElem?_getD,List.getElem?_eq_getElem hj]
  simpa using this
end Go.Proofs.Ytmifdccaajngcaa.P
end
section
namespace Go.Proofs.Ytmifdccaajngcaa.P
open Go.RowKit Go.Proofs.Na.mc Go.Proofs.Na.jf Go.Proofs.Na.xg
set_option linter.unusedVariables false
set_option linter.unusedSimpArgs false
theorem CJ (a b c:Int):Za.f a b c=some (Qj a b c):=by
 unfold Za.f Qj
 by_cases h:a ≥ b
 ·rw [if_pos h]
  have h':b ≤ a:=h
  simp [h']
 ·rw [if_neg h]
  have h':¬ b ≤ a:=h
  simp [h']
end Go.Proofs.Ytmifdccaajngcaa.P
end
