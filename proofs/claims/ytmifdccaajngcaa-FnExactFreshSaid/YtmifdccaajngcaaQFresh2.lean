import Derived.Test.YtmifdccaajngcaaQFresh1
section
namespace Go.Proofs.Ytmifdccaajngcaa.P
open Go.RowKit Go.Proofs.Ca.xb Go.Proofs.Ca.Xb Go.Proofs.Ca.ic
attribute [local go_sem] Vd Td we ue Dd Cd Ud Sd
set_option linter.unusedVariables false
set_option linter.unusedSimpArgs false
def Fb.l0:Nat→Int→List Int→Int→Int→Int→List (Eh)→List (Jh)→Int→Int→Int→Int→Option (Bool)
 | 0,_,_,_,_,_,_,_,_,_,_,_=>none
 | k + 1,x5,x102000,Od,x102002,x102003,x102004,x103000,x103001,x103002,x103003,x103004=>if x5 < (x103000.length:Int) then (if 0 ≤ x5 then ((Xa.f k x102000 Od x102002 x102003 x102004 ((zb x103000 x5).f0) ((zb x103000 x5).f1) ((zb x103000 x5).f2) ((zb x103000 x5).f3) ((zb x103000 x5).f4) ((zb x103000 x5).f5) ((zb x103000 x5).f6)).bind fun t104=>(if t104=true then (Fb.l0 k (wrap64 (x5 + 1)) x102000 Od x102002 x102003 x102004 x103000 x103001 x103002 x103003 x103004) else (some false))) else (none)) else ((jb.f x103003 0 (wrap64 ((x102004.length:Int) - 1))).bind fun t105=>((jb.f x103002 0 (wrap64 (x102003 - 1))).bind fun t106=>(if x103001=0 then (if t105=true then (if x103002=0 then (some (x103004 == 0)) else (some false)) else (some false)) else (if x103001=1 then (if t105=true then (if t106=true then ((jb.f x103004 0 (wrap64 ((x102004.length:Int) - 1))).bind fun t107=>(some t107)) else (some false)) else (some false)) else (if x103001=2 then (if t106=true then (if x103003=0 then (some (x103004 == 0)) else (some false)) else (some false)) else (some false))))))
def Fb.f (k:Nat) (Ra:List Int) (Ja:Int) (Ma:Int) (Oa:Int) (Qa:List (Eh)) (Xc:List (Jh)) (Lb:Int) (Sb:Int) (Ub:Int) (Fc:Int):Option (Bool):=Fb.l0 k 0 Ra Ja Ma Oa Qa Xc Lb Sb Ub Fc
theorem Fb.je:∀ k,(∀ y0 y1 y2 y3 y4 y5 y6 y7 y8 y9 fH,mc (Fb.l0 k y0 y1 y2 y3 y4 y5 y6 y7 y8 y9 fH) (Fb.l0 (k + 1) y0 y1 y2 y3 y4 y5 y6 y7 y8 y9 fH))
 | 0=>fun _ _ _ _ _ _ _ _ _ _ _ r h=>by simp [Fb.l0] at h
 | k + 1=>by
  have Lf:=Fb.je k
  ·intro y0 y1 y2 y3 y4 y5 y6 y7 y8 y9 fH
   unfold Fb.l0
   repeat' first
   | (with_reducible exact Lf _ _ _ _ _ _ _ _ _ _ _)
   | (with_reducible exact Xa.mono _ _ _ _ _ _ _ _ _ _ _ _ _)
   | (with_reducible exact mc.refl _)
   | (with_reducible exact mc.none _)
   | (with_reducible refine mc.ite ?_ ?_)
   | (with_reducible refine mc.bind ?_ (fun _=>?_))
   | exact Lf _ _ _ _ _ _ _ _ _ _ _
   | exact Xa.mono _ _ _ _ _ _ _ _ _ _ _ _ _
   | exact mc.none _
   | refine mc.ite ?_ ?_
   | refine mc.bind ?_ (fun _=>?_)
theorem Fb.mono:∀ a0 a1 a2 a3 a4 a5 a6 a7 a8 a9 k,mc (Fb.f k a0 a1 a2 a3 a4 a5 a6 a7 a8 a9) (Fb.f (k + 1) a0 a1 a2 a3 a4 a5 a6 a7 a8 a9):=by
 intro a0 a1 a2 a3 a4 a5 a6 a7 a8 a9 k
 have Lf:=Fb.je k
 unfold Fb.f
 repeat' first
   | (with_reducible exact Lf _ _ _ _ _ _ _ _ _ _ _)
   | (with_reducible exact Xa.mono _ _ _ _ _ _ _ _ _ _ _ _ _)
   | (with_reducible exact mc.refl _)
   | (with_reducible exact mc.none _)
   | (with_reducible refine mc.ite ?_ ?_)
   | (with_reducible refine mc.bind ?_ (fun _=>?_))
   | exact Lf _ _ _ _ _ _ _ _ _ _ _
   | exact Xa.mono _ _ _ _ _ _ _ _ _ _ _ _ _
   | exact mc.none _
   | refine mc.ite ?_ ?_
   | refine mc.bind ?_ (fun _=>?_)
def Fb.T4:Bool × List (List Nat × List Nat):=(true,[([],[]),([],[]),([1],[1]),([],[]),([2,3],[2,3]),([4],[4]),([0,5],[0,5]),([6],[6])])
def Fb.B4:List Nat:=[0,0,2,0,14,30,63,127]
theorem Fb.GR:Jk .any (opsOf Try.f87 4)=Fb.T4:=by kernel_rfl
theorem Fb.zO:Rk Fb.T4.2 Fb.B4=true:=by kernel_rfl
set_option maxHeartbeats 8000000 in
set_option maxRecDepth 100000 in
theorem Fb.calls (k:Nat) (Ib:Option Addr) (Gb:Nat) (Ra:List Int) (Ja:Int) (Ma:Int) (Oa:Int) (qc:Option Addr) (dc:Nat) (Qa:List (Eh)) (Ze:Option Addr) (Re:Nat) (Xc:List (Jh)) (Lb:Int) (Sb:Int) (Ub:Int) (Fc:Int) (r:Bool) (w:World) (zf:Kd.C (Kd.int .i64) w Ib Ra.length Ra) (uf:Ra.length ≤ Gb) (bg:Kd.C Xq w qc Qa.length Qa) (cg:Qa.length ≤ dc) (Yq:Kd.C Ro w Ze Xc.length Xc) (Zq:Xc.length ≤ Re) (h:Fb.f k Ra Ja Ma Oa Qa Xc Lb Sb Ub Fc=some r) :
  Calls Try.prog 87 #[.agg #[.slice Ib Ra.length Gb,.int .i64 Ja,.int .i64 Ma,.int .i64 Oa,.slice qc Qa.length dc],.agg #[.slice Ze Xc.length Re,.int .i64 Lb,.int .i64 Sb,.int .i64 Ub,.int .i64 Fc]] w fun e w'=>e = .returned (.bool r)∧Below w.heap.size w w':=by
 have CA:=Try.underlying30
 have NG:=Try.underlying68
 have BA:=Try.underlying70
 have Ve:=qa.mk zf
 have gf:=qa.mk uf
 clear zf uf
 have Tf:=qa.mk bg
 have Yg:=qa.mk cg
 clear bg cg
 have Qk:=qa.mk Yq
 have jn:=qa.mk Zq
 clear Yq Zq
 have HB:=qa.mk (Below.refl w.heap.size w)
 have H:(Fb.l0 k 0 Ra Ja Ma Oa Qa Xc Lb Sb Ub Fc)=some r:=h
 clear h
 have H':=qa.mk H
 clear H
 go_enter Try.func87,Try.ntmps87
 go_wp2_with (first|((with_reducible refine Mb (N:=2) rfl ?_);(try (refine pg (by rfl) ?_;dsimp only));refine Jb ?hg (N:=2) ?hd (cs:=#[.slice Ib Ra.length Gb,.int .i64 Ja,.int .i64 Ma,.int .i64 Oa,.slice qc Qa.length dc]) (t:=30) ?hr ?_;(case hd=>rfl);(case hg=>rfl);(case hr=>first|(go_simp;done)|(go_simp;rfl));intro Fa hg w3 Qb hb;have Pb:=qa.mk (Pa (by repeat (first|(with_reducible first|exact HB.out|apply ia|apply ja|apply za)|exact HB.out)) hb);have Wb:=qa.mk (Qb);have nc:=qa.mk ((by rw [hg];exact (Na (by repeat (first|(with_reducible first|exact HB.out|apply ia|apply ja|apply za)|exact HB.out))):w.heap.size ≤ Fa));have Nc:=qa.mk ((by rw [hg];exact (Na (by repeat (first|(with_reducible first|exact HB.out|apply ia|apply ja|apply za)|exact HB.out))):w.heap.size ≤ Fa));clear HB;have HB:=Pb;have ua:=Wb;have Nd:=nc;have Va:=Nc;clear Pb Wb nc Nc;clear hb Qb hg)|((with_reducible refine Mb (N:=3) rfl ?_);(try (refine pg (by rfl) ?_;dsimp only));refine Jb ?hg (N:=3) ?hd (cs:=#[.slice Ze Xc.length Re,.int .i64 Lb,.int .i64 Sb,.int .i64 Ub,.int .i64 Fc]) (t:=68) ?hr ?_;(case hd=>rfl);(case hg=>rfl);(case hr=>first|(go_simp;done)|(go_simp;rfl));intro Ia hg w4 Qb hb;have Pb:=qa.mk (Wa (g:=Fa) (o:=.cells #[.slice Ib Ra.length Gb,.int .i64 Ja,.int .i64 Ma,.int .i64 Oa,.slice qc Qa.length dc] 30 (0,0)) (by (with_reducible repeat (first|refine Ea ?_ _|refine Ga ?_|refine Da ?_ _));exact ua.out) hb);have Wb:=qa.mk (Pa (by repeat (first|(with_reducible first|exact HB.out|apply ia|apply ja|apply za|refine Aa ?_ Va.out)|exact HB.out)) hb);have nc:=qa.mk (Qb);have Nc:=qa.mk ((by rw [hg];exact (Na (by repeat (first|(with_reducible first|exact HB.out|apply ia|apply ja|apply za|refine Aa ?_ Va.out)|exact HB.out))):w.heap.size ≤ Ia));have qe:=qa.mk ((by rw [hg];exact (Na (by repeat (first|(with_reducible first|exact HB.out|apply ia|apply ja|apply za|refine Aa ?_ Va.out)|exact HB.out))):w.heap.size ≤ Ia));have lf:=qa.mk ((by rw [hg];exact Nat.ne_of_lt (Ac (g:=Fa) (o:=.cells #[.slice Ib Ra.length Gb,.int .i64 Ja,.int .i64 Ma,.int .i64 Oa,.slice qc Qa.length dc] 30 (0,0)) (by (with_reducible repeat (first|refine Ea ?_ _|refine Ga ?_|refine Da ?_ _));exact ua.out)):Fa ≠ Ia));have Hf:=qa.mk ((by rw [hg];exact Nat.ne_of_gt (Ac (g:=Fa) (o:=.cells #[.slice Ib Ra.length Gb,.int .i64 Ja,.int .i64 Ma,.int .i64 Oa,.slice qc Qa.length dc] 30 (0,0)) (by (with_reducible repeat (first|refine Ea ?_ _|refine Ga ?_|refine Da ?_ _));exact ua.out)):Ia ≠ Fa));clear ua;clear HB;have ua:=Pb;have HB:=Wb;have Ba:=nc;have Je:=Nc;have Vb:=qe;have Sa:=lf;have qb:=Hf;clear Pb Wb nc Nc qe lf Hf;clear hb Qb hg))
 go_loopg [5] k (fun kq v5 w'=>∃ (Ya:Int),v5 = .int .i64 Ya∧qa (Fb.l0 kq Ya Ra Ja Ma Oa Qa Xc Lb Sb Ub Fc=some r)∧qa (kq ≤ k)∧qa (w'.heap[Fa]? = some (.cells #[(.slice Ib Ra.length Gb),.int .i64 Ja,.int .i64 Ma,.int .i64 Oa,(.slice qc Qa.length dc)] 30 (0,0)))∧qa (w'.heap[Ia]? = some (.cells #[(.slice Ze Xc.length Re),.int .i64 Lb,.int .i64 Sb,.int .i64 Ub,.int .i64 Fc] 68 (0,0)))∧qa (Below w.heap.size w w'))
 case atStart=>exact ⟨(0),(by first|rfl|(simp;done)|(simp [*];done)),H',⟨Nat.le_refl _⟩,⟨by (with_reducible repeat (first|refine Ea ?_ _|refine Ga ?_|refine Da ?_ _));exact ua.out⟩,⟨by (with_reducible repeat (first|refine Ea ?_ _|refine Ga ?_|refine Da ?_ _));exact Ba.out⟩,⟨by repeat (first|(with_reducible first|exact HB.out|apply ia|apply ja|apply za|refine Aa ?_ Va.out|refine Aa ?_ Vb.out)|exact HB.out)⟩⟩
 case round =>
  clear H'
  try clear c1
  try clear p2
  (try clear HA)
  (try clear We)
  (try clear ua)
  (try clear Ba)
  (try clear HB)
  obtain ⟨Ya,rfl,HA,We,ua,Ba,HB⟩:=hrel
  cases gk with
  | zero=>exact absurd HA.out (by simp [Fb.l0])
  | succ k1 =>
   have H:=HA.out
   clear HA
   simp only [Fb.l0] at H
   by_cases c5:Ya < (Xc.length:Int)
   ·rw [if_pos c5] at H
    have Hl:decide (Ya < (Xc.length:Int))=true:=decide_eq_true c5
    clear c5
    by_cases c6:0 ≤ Ya
    ·rw [if_pos c6] at H
     have rm:decide (0 ≤ Ya)=true:=decide_eq_true c6
     clear c6
     replace H:=Option.bind_eq_some_iff.mp H
     obtain ⟨t104,lB,H⟩:=H
     replace H:(if t104=true then (Fb.l0 k1 (wrap64 (Ya + 1)) Ra Ja Ma Oa Qa Xc Lb Sb Ub Fc) else (some false))=some r:=H
     have A7:=qa.mk lB
     clear lB
     by_cases c8:t104=true
     ·subst c8
      have H1:(Fb.l0 k1 (wrap64 (Ya + 1)) Ra Ja Ma Oa Qa Xc Lb Sb Ub Fc)=some r:=by rw [if_pos rfl] at H;exact H
      clear H
      have H:=H1
      clear H1
      have H':=qa.mk H
      clear H
      have vS:=qb.out
      have bS:=Sa.out
      have cn:wr.cell? ⟨Ia,0,none⟩=some (.slice Ze Xc.length Re):=(ga Ba.out 0).trans rfl
      have bn:wr.cell? ⟨Ia,1,none⟩=some (.int .i64 Lb):=(ga Ba.out 1).trans rfl
      have Zm:wr.cell? ⟨Ia,2,none⟩=some (.int .i64 Sb):=(ga Ba.out 2).trans rfl
      have Ym:wr.cell? ⟨Ia,3,none⟩=some (.int .i64 Ub):=(ga Ba.out 3).trans rfl
      have Xm:wr.cell? ⟨Ia,4,none⟩=some (.int .i64 Fc):=(ga Ba.out 4).trans rfl
      have Om:=aa Ba.out 0
      have Nm:=aa Ba.out 1
      have Mm:=aa Ba.out 2
      have Lm:=aa Ba.out 3
      have Km:=aa Ba.out 4
      try go_wp2
      have Pb:=qa.mk (Ga ua.out)
      have Wb:=qa.mk (Ga Ba.out)
      have nc:=qa.mk (za HB.out)
      clear ua
      clear Ba
      clear HB
      have ua:=Pb
      have Ba:=Wb
      have HB:=nc
      clear Pb Wb nc
      have BB:0 ≤ (Ya:Int):=of_decide_eq_true (by first|(with_reducible assumption)|assumption)
      have zB:Ya < (Xc.length:Int):=of_decide_eq_true (by first|(with_reducible assumption)|assumption)
      obtain ⟨Ig,BQ,Bj,Aj,zj,yj,xj,wj,uj⟩:=Jo Qk.out Ya BB zB
      have Zk:=uj
      have cl:=wj
      have jl:=xj
      have ql:=yj
      have vl:=zj
      have xl:=Aj
      have yl:=Bj
      cases BQ
      replace Bj:=(HB.out.cell (World.block_lt_of_cell? w _ Bj)).trans Bj
      replace Aj:=(HB.out.cell (World.block_lt_of_cell? w _ Aj)).trans Aj
      replace zj:=(HB.out.cell (World.block_lt_of_cell? w _ zj)).trans zj
      replace yj:=(HB.out.cell (World.block_lt_of_cell? w _ yj)).trans yj
      replace xj:=(HB.out.cell (World.block_lt_of_cell? w _ xj)).trans xj
      replace wj:=(HB.out.cell (World.block_lt_of_cell? w _ wj)).trans wj
      replace uj:=(HB.out.cell (World.block_lt_of_cell? w _ uj)).trans uj
      replace BB:=eq_true BB
      replace zB:=eq_true zB
      refine Pg (n:=8) (S:=fun w'=>w'.cell? ⟨Fa,0,none⟩=some (.slice Ib Ra.length Gb)∧w'.cell? ⟨Fa,1,none⟩=some (.int .i64 Ja)∧w'.cell? ⟨Fa,2,none⟩=some (.int .i64 Ma)∧w'.cell? ⟨Fa,3,none⟩=some (.int .i64 Oa)∧w'.cell? ⟨Fa,4,none⟩=some (.slice qc Qa.length dc)∧w'.cell? ⟨Ia,0,none⟩=some (.slice (some Ig) Xc.length Re)∧w'.cell? ⟨Ia,1,none⟩=some (.int .i64 Lb)∧w'.cell? ⟨Ia,2,none⟩=some (.int .i64 Sb)∧w'.cell? ⟨Ia,3,none⟩=some (.int .i64 Ub)∧w'.cell? ⟨Ia,4,none⟩=some (.int .i64 Fc)∧w'.cell? (Ig.add ((Ya).toNat * 7))=some (.int .i64 ((zb Xc Ya).f0))∧w'.cell? ⟨(Ig.add ((Ya).toNat * 7)).block,(Ig.add ((Ya).toNat * 7)).off + 1,none⟩=some (.int .i64 ((zb Xc Ya).f1))∧w'.cell? ⟨(Ig.add ((Ya).toNat * 7)).block,(Ig.add ((Ya).toNat * 7)).off + 2,none⟩=some (.int .i64 ((zb Xc Ya).f2))∧w'.cell? ⟨(Ig.add ((Ya).toNat * 7)).block,(Ig.add ((Ya).toNat * 7)).off + 3,none⟩=some (.int .i64 ((zb Xc Ya).f3))∧w'.cell? ⟨(Ig.add ((Ya).toNat * 7)).block,(Ig.add ((Ya).toNat * 7)).off + 4,none⟩=some (.int .i64 ((zb Xc Ya).f4))∧w'.cell? ⟨(Ig.add ((Ya).toNat * 7)).block,(Ig.add ((Ya).toNat * 7)).off + 5,none⟩=some (.int .i64 ((zb Xc Ya).f5))∧w'.cell? ⟨(Ig.add ((Ya).toNat * 7)).block,(Ig.add ((Ya).toNat * 7)).off + 6,none⟩=some (.string ((zb Xc Ya).f6))) (ds:=[]) #[false,false,false,false,false,false,false,false] (by kernel_rfl) rfl rfl ⟨(ga ua.out 0).trans rfl,(ga ua.out 1).trans rfl,(ga ua.out 2).trans rfl,(ga ua.out 3).trans rfl,(ga ua.out 4).trans rfl,(ga Ba.out 0).trans rfl,(ga Ba.out 1).trans rfl,(ga Ba.out 2).trans rfl,(ga Ba.out 3).trans rfl,(ga Ba.out 4).trans rfl,((HB.out.cell (World.block_lt_of_cell? w _ yl)).trans yl),((HB.out.cell (World.block_lt_of_cell? w _ xl)).trans xl),((HB.out.cell (World.block_lt_of_cell? w _ vl)).trans vl),((HB.out.cell (World.block_lt_of_cell? w _ ql)).trans ql),((HB.out.cell (World.block_lt_of_cell? w _ jl)).trans jl),((HB.out.cell (World.block_lt_of_cell? w _ cl)).trans cl),((HB.out.cell (World.block_lt_of_cell? w _ Zk)).trans Zk)⟩ (fun hHeld=>?_);refine nh Fb.GR Fb.zO (fun ef Pn=>?_)
      generalize wr.drew=ri at ua Ba HB Bj Aj zj yj xj wj uj hHeld ⊢
      refine Nb (i:=1) (N:=some 16) (v:=?_) (a':=?_) #[false,true,false,false,false,false,false,false] rfl rfl (Oc ef.out (by kernel_rfl)) (fun _ _ _ h=>h) (Or.inl ⟨by rfl,?_⟩) ?_ ?_
      rotate_left
      ·intro w'
       go_simp
       with_reducible rfl
      rotate_left
      ·simp only [Act.put,List.setIfInBounds_toArray,List.set_cons_zero,List.set_cons_succ,Za,gb]
       rfl
      refine Nb (i:=3) (N:=some 18) (v:=?_) (a':=?_) #[false,true,false,true,false,false,false,false] rfl rfl (Oc ef.out (by kernel_rfl)) (fun _ _ _ h=>h) (Or.inl ⟨by rfl,?_⟩) ?_ ?_
      rotate_left
      ·intro w'
       go_simp
       with_reducible rfl
      rotate_left
      ·simp only [Act.put,List.setIfInBounds_toArray,List.set_cons_zero,List.set_cons_succ,Za,gb]
       rfl
      refine Jd (i:=0) (N:=some 15) (v:=?_) (a':=?_) #[true,true,false,true,false,false,false,false] rfl rfl (Fe ef.out Pn.out (by kernel_rfl)) (fun _ _ _ h=>h) (Or.inl ⟨by rfl,?_⟩) hHeld ?_ ?_
      rotate_left
      ·rintro w' ⟨s0,s1,s2,s3,s4,s5,s6,s7,s8,s9,xy,cK,bK,aK,NR,MR,LR⟩
       go_simp
       with_reducible rfl
      rotate_left
      ·simp only [Act.put,List.setIfInBounds_toArray,List.set_cons_zero,List.set_cons_succ,Za,gb]
       rfl
      refine Jd (i:=2) (N:=some 17) (v:=?_) (a':=?_) #[true,true,true,true,false,false,false,false] rfl rfl (Fe ef.out Pn.out (by kernel_rfl)) (fun _ _ _ h=>h) (Or.inl ⟨by rfl,?_⟩) hHeld ?_ ?_
      rotate_left
      ·rintro w' ⟨s0,s1,s2,s3,s4,s5,s6,s7,s8,s9,xy,cK,bK,aK,NR,MR,LR⟩
       go_simp
       with_reducible rfl
      rotate_left
      ·simp only [Act.put,List.setIfInBounds_toArray,List.set_cons_zero,List.set_cons_succ,Za,gb]
       rfl
      refine Nb (i:=4) (N:=some 19) (v:=?_) (a':=?_) #[true,true,true,true,true,false,false,false] rfl rfl (Oc ef.out (by kernel_rfl)) (fun _ _ _ h=>h) (Or.inl ⟨by rfl,?_⟩) ?_ ?_
      rotate_left
      ·intro w'
       go_simp
       with_reducible rfl
      rotate_left
      ·simp only [Act.put,List.setIfInBounds_toArray,List.set_cons_zero,List.set_cons_succ,Za,gb]
       rfl
      refine Jd (i:=5) (N:=some 20) (v:=?_) (a':=?_) #[true,true,true,true,true,true,false,false] rfl rfl (Fe ef.out Pn.out (by kernel_rfl)) (fun _ _ _ h=>h) (Or.inl ⟨by rfl,?_⟩) hHeld ?_ ?_
      rotate_left
      ·rintro w' ⟨s0,s1,s2,s3,s4,s5,s6,s7,s8,s9,xy,cK,bK,aK,NR,MR,LR⟩
       go_simp
       with_reducible rfl
      rotate_left
      ·simp only [Act.put,List.setIfInBounds_toArray,List.set_cons_zero,List.set_cons_succ,Za,gb]
       rfl
      refine gh (i:=6) (N:=some 21) #[true,true,true,true,true,true,true,false] rfl rfl (Mk ef.out (by kernel_rfl)) (by decide) (fun K hK=>?_)
      refine Gn Try.func111 (by kernel_rfl) rfl #[.agg #[.slice Ib Ra.length Gb,.int .i64 Ja,.int .i64 Ma,.int .i64 Oa,.slice qc Qa.length dc],.agg #[.int .i64 ((zb Xc Ya).f0),.int .i64 ((zb Xc Ya).f1),.int .i64 ((zb Xc Ya).f2),.int .i64 ((zb Xc Ya).f3),.int .i64 ((zb Xc Ya).f4),.int .i64 ((zb Xc Ya).f5),.string ((zb Xc Ya).f6)]] (by rfl) rfl rfl (by (try simp only [List.map_toArray,List.map_cons,List.map_nil]);first|done|rfl|(simp only [List.length_drop,List.length_take];rfl)) ?_
      with_reducible refine (Xa.calls k1 _ _ Ra Ja Ma Oa _ _ Qa ((zb Xc Ya).f0) ((zb Xc Ya).f1) ((zb Xc Ya).f2) ((zb Xc Ya).f3) ((zb Xc Ya).f4) ((zb Xc Ya).f5) ((zb Xc Ya).f6) true _ ?side1 ?side2 ?side3 ?side4 A7.out).mono ?_
      (case side1=>repeat (first|exact (Kd.Yb Ve.out HB.out)|(with_reducible refine Kd.yc ?_ _)|(with_reducible refine Kd.uc ?_ _)|(with_reducible refine Kd.Sc ?_)))
      (case side2=>exact gf.out)
      (case side3=>repeat (first|exact (Kd.Yb Tf.out HB.out)|(with_reducible refine Kd.yc ?_ _)|(with_reducible refine Kd.uc ?_ _)|(with_reducible refine Kd.Sc ?_)))
      (case side4=>exact Yg.out)
      rintro e yu ⟨rfl,hb⟩
      refine ⟨_,rfl,?_⟩
      have Pb:=qa.mk (Wa (g:=Fa) (o:=.cells #[.slice Ib Ra.length Gb,.int .i64 Ja,.int .i64 Ma,.int .i64 Oa,.slice qc Qa.length dc] 30 (0,0)) (by (with_reducible repeat (first|refine Ea ?_ _|refine Ga ?_|refine Da ?_ _));exact ua.out) hb)
      have Wb:=qa.mk (Wa (g:=Ia) (o:=.cells #[.slice (some Ig) Xc.length Re,.int .i64 Lb,.int .i64 Sb,.int .i64 Ub,.int .i64 Fc] 68 (0,0)) (by (with_reducible repeat (first|refine Ea ?_ _|refine Ga ?_|refine Da ?_ _));exact Ba.out) hb)
      have nc:=qa.mk (Pa (by repeat (first|(with_reducible first|exact HB.out|apply ia|apply ja|apply za|refine Aa ?_ Va.out|refine Aa ?_ Vb.out)|exact HB.out)) hb)
      clear ua
      clear Ba
      clear HB
      have ua:=Pb
      have Ba:=Wb
      have HB:=nc
      clear Pb Wb nc
      (try clear hb)
      (try clear hb2)
      (try clear hk)
      (try clear hi)
      refine hK.out _ _ ⟨(ga ua.out 0).trans rfl,(ga ua.out 1).trans rfl,(ga ua.out 2).trans rfl,(ga ua.out 3).trans rfl,(ga ua.out 4).trans rfl,(ga Ba.out 0).trans rfl,(ga Ba.out 1).trans rfl,(ga Ba.out 2).trans rfl,(ga Ba.out 3).trans rfl,(ga Ba.out 4).trans rfl,((HB.out.cell (World.block_lt_of_cell? w _ yl)).trans yl),((HB.out.cell (World.block_lt_of_cell? w _ xl)).trans xl),((HB.out.cell (World.block_lt_of_cell? w _ vl)).trans vl),((HB.out.cell (World.block_lt_of_cell? w _ ql)).trans ql),((HB.out.cell (World.block_lt_of_cell? w _ jl)).trans jl),((HB.out.cell (World.block_lt_of_cell? w _ cl)).trans cl),((HB.out.cell (World.block_lt_of_cell? w _ Zk)).trans Zk)⟩ (fun hHeld=>?_)
      clear hK K
      refine Xd (a':=?_) ?_ ?_
      rotate_left
      ·show Act.put _ (some 21) _=_
       simp only [Act.put,List.setIfInBounds_toArray,List.set_cons_zero,List.set_cons_succ,Za,gb]
       rfl
      refine Nb (i:=7) (N:=some 22) (v:=?_) (a':=?_) #[true,true,true,true,true,true,true,true] rfl rfl (Oc ef.out (by kernel_rfl)) (fun _ _ _ h=>h) (Or.inl ⟨by rfl,?_⟩) ?_ ?_
      rotate_left
      ·intro w'
       go_simp
       with_reducible rfl
      rotate_left
      ·simp only [Act.put,List.setIfInBounds_toArray,List.set_cons_zero,List.set_cons_succ,Za,gb]
       rfl
      refine Yh (Oj ef.out (by kernel_rfl)) ?_
      try go_wp2
      go_roundg k1
      case measure=>have:=We.out;omega
      case rel=>exact ⟨(wrap64 (Ya + 1)),(by first|rfl|(simp;done)|(simp [*];done)),H',⟨by have:=We.out;omega⟩,⟨by (with_reducible repeat (first|refine Ea ?_ _|refine Ga ?_|refine Da ?_ _));exact ua.out⟩,⟨by (with_reducible repeat (first|refine Ea ?_ _|refine Ga ?_|refine Da ?_ _));exact Ba.out⟩,⟨by repeat (first|(with_reducible first|exact HB.out|apply ia|apply ja|apply za|refine Aa ?_ Va.out|refine Aa ?_ Vb.out)|exact HB.out)⟩⟩
     ·replace c8:=Bool.eq_false_iff.mpr c8
      subst c8
      have H1:(some false)=some r:=by rw [if_neg (show ¬ (false=true) by decide)] at H;exact H
      clear H
      have H:=H1
      clear H1
      obtain rfl:=Option.some.inj H
      have dad:=qb.out
      have oac:=Sa.out
      have Gl:wr.cell? ⟨Ia,0,none⟩=some (.slice Ze Xc.length Re):=(ga Ba.out 0).trans rfl
      have Fl:wr.cell? ⟨Ia,1,none⟩=some (.int .i64 Lb):=(ga Ba.out 1).trans rfl
      have Wm:wr.cell? ⟨Ia,2,none⟩=some (.int .i64 Sb):=(ga Ba.out 2).trans rfl
      have Vm:wr.cell? ⟨Ia,3,none⟩=some (.int .i64 Ub):=(ga Ba.out 3).trans rfl
      have Um:wr.cell? ⟨Ia,4,none⟩=some (.int .i64 Fc):=(ga Ba.out 4).trans rfl
      have El:=aa Ba.out 0
      have Dl:=aa Ba.out 1
      have Jm:=aa Ba.out 2
      have Im:=aa Ba.out 3
      have Gm:=aa Ba.out 4
      try go_wp2
      have Pb:=qa.mk (Ga ua.out)
      have Wb:=qa.mk (Ga Ba.out)
      have nc:=qa.mk (za HB.out)
      clear ua
      clear Ba
      clear HB
      have ua:=Pb
      have Ba:=Wb
      have HB:=nc
      clear Pb Wb nc
      have BB:0 ≤ (Ya:Int):=of_decide_eq_true (by first|(with_reducible assumption)|assumption)
      have zB:Ya < (Xc.length:Int):=of_decide_eq_true (by first|(with_reducible assumption)|assumption)
      obtain ⟨Ig,BQ,Bj,Aj,zj,yj,xj,wj,uj⟩:=Jo Qk.out Ya BB zB
      have Zk:=uj
      have cl:=wj
      have jl:=xj
      have ql:=yj
      have vl:=zj
      have xl:=Aj
      have yl:=Bj
      cases BQ
      replace Bj:=(HB.out.cell (World.block_lt_of_cell? w _ Bj)).trans Bj
      replace Aj:=(HB.out.cell (World.block_lt_of_cell? w _ Aj)).trans Aj
      replace zj:=(HB.out.cell (World.block_lt_of_cell? w _ zj)).trans zj
      replace yj:=(HB.out.cell (World.block_lt_of_cell? w _ yj)).trans yj
      replace xj:=(HB.out.cell (World.block_lt_of_cell? w _ xj)).trans xj
      replace wj:=(HB.out.cell (World.block_lt_of_cell? w _ wj)).trans wj
      replace uj:=(HB.out.cell (World.block_lt_of_cell? w _ uj)).trans uj
      replace BB:=eq_true BB
      replace zB:=eq_true zB
      refine Pg (n:=8) (S:=fun w'=>w'.cell? ⟨Fa,0,none⟩=some (.slice Ib Ra.length Gb)∧w'.cell? ⟨Fa,1,none⟩=some (.int .i64 Ja)∧w'.cell? ⟨Fa,2,none⟩=some (.int .i64 Ma)∧w'.cell? ⟨Fa,3,none⟩=some (.int .i64 Oa)∧w'.cell? ⟨Fa,4,none⟩=some (.slice qc Qa.length dc)∧w'.cell? ⟨Ia,0,none⟩=some (.slice (some Ig) Xc.length Re)∧w'.cell? ⟨Ia,1,none⟩=some (.int .i64 Lb)∧w'.cell? ⟨Ia,2,none⟩=some (.int .i64 Sb)∧w'.cell? ⟨Ia,3,none⟩=some (.int .i64 Ub)∧w'.cell? ⟨Ia,4,none⟩=some (.int .i64 Fc)∧w'.cell? (Ig.add ((Ya).toNat * 7))=some (.int .i64 ((zb Xc Ya).f0))∧w'.cell? ⟨(Ig.add ((Ya).toNat * 7)).block,(Ig.add ((Ya).toNat * 7)).off + 1,none⟩=some (.int .i64 ((zb Xc Ya).f1))∧w'.cell? ⟨(Ig.add ((Ya).toNat * 7)).block,(Ig.add ((Ya).toNat * 7)).off + 2,none⟩=some (.int .i64 ((zb Xc Ya).f2))∧w'.cell? ⟨(Ig.add ((Ya).toNat * 7)).block,(Ig.add ((Ya).toNat * 7)).off + 3,none⟩=some (.int .i64 ((zb Xc Ya).f3))∧w'.cell? ⟨(Ig.add ((Ya).toNat * 7)).block,(Ig.add ((Ya).toNat * 7)).off + 4,none⟩=some (.int .i64 ((zb Xc Ya).f4))∧w'.cell? ⟨(Ig.add ((Ya).toNat * 7)).block,(Ig.add ((Ya).toNat * 7)).off + 5,none⟩=some (.int .i64 ((zb Xc Ya).f5))∧w'.cell? ⟨(Ig.add ((Ya).toNat * 7)).block,(Ig.add ((Ya).toNat * 7)).off + 6,none⟩=some (.string ((zb Xc Ya).f6))) (ds:=[]) #[false,false,false,false,false,false,false,false] (by kernel_rfl) rfl rfl ⟨(ga ua.out 0).trans rfl,(ga ua.out 1).trans rfl,(ga ua.out 2).trans rfl,(ga ua.out 3).trans rfl,(ga ua.out 4).trans rfl,(ga Ba.out 0).trans rfl,(ga Ba.out 1).trans rfl,(ga Ba.out 2).trans rfl,(ga Ba.out 3).trans rfl,(ga Ba.out 4).trans rfl,((HB.out.cell (World.block_lt_of_cell? w _ yl)).trans yl),((HB.out.cell (World.block_lt_of_cell? w _ xl)).trans xl),((HB.out.cell (World.block_lt_of_cell? w _ vl)).trans vl),((HB.out.cell (World.block_lt_of_cell? w _ ql)).trans ql),((HB.out.cell (World.block_lt_of_cell? w _ jl)).trans jl),((HB.out.cell (World.block_lt_of_cell? w _ cl)).trans cl),((HB.out.cell (World.block_lt_of_cell? w _ Zk)).trans Zk)⟩ (fun hHeld=>?_);refine nh Fb.GR Fb.zO (fun ef Pn=>?_)
      generalize wr.drew=sn at ua Ba HB Bj Aj zj yj xj wj uj hHeld ⊢
      refine Nb (i:=1) (N:=some 16) (v:=?_) (a':=?_) #[false,true,false,false,false,false,false,false] rfl rfl (Oc ef.out (by kernel_rfl)) (fun _ _ _ h=>h) (Or.inl ⟨by rfl,?_⟩) ?_ ?_
      rotate_left
      ·intro w'
       go_simp
       with_reducible rfl
      rotate_left
      ·simp only [Act.put,List.setIfInBounds_toArray,List.set_cons_zero,List.set_cons_succ,Za,gb]
       rfl
      refine Nb (i:=3) (N:=some 18) (v:=?_) (a':=?_) #[false,true,false,true,false,false,false,false] rfl rfl (Oc ef.out (by kernel_rfl)) (fun _ _ _ h=>h) (Or.inl ⟨by rfl,?_⟩) ?_ ?_
      rotate_left
      ·intro w'
       go_simp
       with_reducible rfl
      rotate_left
      ·simp only [Act.put,List.setIfInBounds_toArray,List.set_cons_zero,List.set_cons_succ,Za,gb]
       rfl
      refine Jd (i:=0) (N:=some 15) (v:=?_) (a':=?_) #[true,true,false,true,false,false,false,false] rfl rfl (Fe ef.out Pn.out (by kernel_rfl)) (fun _ _ _ h=>h) (Or.inl ⟨by rfl,?_⟩) hHeld ?_ ?_
      rotate_left
      ·rintro w' ⟨s0,s1,s2,s3,s4,s5,s6,s7,s8,s9,xy,cK,bK,aK,NR,MR,LR⟩
       go_simp
       with_reducible rfl
      rotate_left
      ·simp only [Act.put,List.setIfInBounds_toArray,List.set_cons_zero,List.set_cons_succ,Za,gb]
       rfl
      refine Jd (i:=2) (N:=some 17) (v:=?_) (a':=?_) #[true,true,true,true,false,false,false,false] rfl rfl (Fe ef.out Pn.out (by kernel_rfl)) (fun _ _ _ h=>h) (Or.inl ⟨by rfl,?_⟩) hHeld ?_ ?_
      rotate_left
      ·rintro w' ⟨s0,s1,s2,s3,s4,s5,s6,s7,s8,s9,xy,cK,bK,aK,NR,MR,LR⟩
       go_simp
       with_reducible rfl
      rotate_left
      ·simp only [Act.put,List.setIfInBounds_toArray,List.set_cons_zero,List.set_cons_succ,Za,gb]
       rfl
      refine Nb (i:=4) (N:=some 19) (v:=?_) (a':=?_) #[true,true,true,true,true,false,false,false] rfl rfl (Oc ef.out (by kernel_rfl)) (fun _ _ _ h=>h) (Or.inl ⟨by rfl,?_⟩) ?_ ?_
      rotate_left
      ·intro w'
       go_simp
       with_reducible rfl
      rotate_left
      ·simp only [Act.put,List.setIfInBounds_toArray,List.set_cons_zero,List.set_cons_succ,Za,gb]
       rfl
      refine Jd (i:=5) (N:=some 20) (v:=?_) (a':=?_) #[true,true,true,true,true,true,false,false] rfl rfl (Fe ef.out Pn.out (by kernel_rfl)) (fun _ _ _ h=>h) (Or.inl ⟨by rfl,?_⟩) hHeld ?_ ?_
      rotate_left
      ·rintro w' ⟨s0,s1,s2,s3,s4,s5,s6,s7,s8,s9,xy,cK,bK,aK,NR,MR,LR⟩
       go_simp
       with_reducible rfl
      rotate_left
      ·simp only [Act.put,List.setIfInBounds_toArray,List.set_cons_zero,List.set_cons_succ,Za,gb]
       rfl
      refine gh (i:=6) (N:=some 21) #[true,true,true,true,true,true,true,false] rfl rfl (Mk ef.out (by kernel_rfl)) (by decide) (fun K hK=>?_)
      refine Gn Try.func111 (by kernel_rfl) rfl #[.agg #[.slice Ib Ra.length Gb,.int .i64 Ja,.int .i64 Ma,.int .i64 Oa,.slice qc Qa.length dc],.agg #[.int .i64 ((zb Xc Ya).f0),.int .i64 ((zb Xc Ya).f1),.int .i64 ((zb Xc Ya).f2),.int .i64 ((zb Xc Ya).f3),.int .i64 ((zb Xc Ya).f4),.int .i64 ((zb Xc Ya).f5),.string ((zb Xc Ya).f6)]] (by rfl) rfl rfl (by (try simp only [List.map_toArray,List.map_cons,List.map_nil]);first|done|rfl|(simp only [List.length_drop,List.length_take];rfl)) ?_
      with_reducible refine (Xa.calls k1 _ _ Ra Ja Ma Oa _ _ Qa ((zb Xc Ya).f0) ((zb Xc Ya).f1) ((zb Xc Ya).f2) ((zb Xc Ya).f3) ((zb Xc Ya).f4) ((zb Xc Ya).f5) ((zb Xc Ya).f6) false _ ?side1 ?side2 ?side3 ?side4 A7.out).mono ?_
      (case side1=>repeat (first|exact (Kd.Yb Ve.out HB.out)|(with_reducible refine Kd.yc ?_ _)|(with_reducible refine Kd.uc ?_ _)|(with_reducible refine Kd.Sc ?_)))
      (case side2=>exact gf.out)
      (case side3=>repeat (first|exact (Kd.Yb Tf.out HB.out)|(with_reducible refine Kd.yc ?_ _)|(with_reducible refine Kd.uc ?_ _)|(with_reducible refine Kd.Sc ?_)))
      (case side4=>exact Yg.out)
      rintro e Dw ⟨rfl,hb⟩
      refine ⟨_,rfl,?_⟩
      have Pb:=qa.mk (Wa (g:=Fa) (o:=.cells #[.slice Ib Ra.length Gb,.int .i64 Ja,.int .i64 Ma,.int .i64 Oa,.slice qc Qa.length dc] 30 (0,0)) (by (with_reducible repeat (first|refine Ea ?_ _|refine Ga ?_|refine Da ?_ _));exact ua.out) hb)
      have Wb:=qa.mk (Wa (g:=Ia) (o:=.cells #[.slice (some Ig) Xc.length Re,.int .i64 Lb,.int .i64 Sb,.int .i64 Ub,.int .i64 Fc] 68 (0,0)) (by (with_reducible repeat (first|refine Ea ?_ _|refine Ga ?_|refine Da ?_ _));exact Ba.out) hb)
      have nc:=qa.mk (Pa (by repeat (first|(with_reducible first|exact HB.out|apply ia|apply ja|apply za|refine Aa ?_ Va.out|refine Aa ?_ Vb.out)|exact HB.out)) hb)
      clear ua
      clear Ba
      clear HB
      have ua:=Pb
      have Ba:=Wb
      have HB:=nc
      clear Pb Wb nc
      (try clear hb)
      (try clear hb2)
      (try clear hk)
      (try clear hi)
      refine hK.out _ _ ⟨(ga ua.out 0).trans rfl,(ga ua.out 1).trans rfl,(ga ua.out 2).trans rfl,(ga ua.out 3).trans rfl,(ga ua.out 4).trans rfl,(ga Ba.out 0).trans rfl,(ga Ba.out 1).trans rfl,(ga Ba.out 2).trans rfl,(ga Ba.out 3).trans rfl,(ga Ba.out 4).trans rfl,((HB.out.cell (World.block_lt_of_cell? w _ yl)).trans yl),((HB.out.cell (World.block_lt_of_cell? w _ xl)).trans xl),((HB.out.cell (World.block_lt_of_cell? w _ vl)).trans vl),((HB.out.cell (World.block_lt_of_cell? w _ ql)).trans ql),((HB.out.cell (World.block_lt_of_cell? w _ jl)).trans jl),((HB.out.cell (World.block_lt_of_cell? w _ cl)).trans cl),((HB.out.cell (World.block_lt_of_cell? w _ Zk)).trans Zk)⟩ (fun hHeld=>?_)
      clear hK K
      refine Xd (a':=?_) ?_ ?_
      rotate_left
      ·show Act.put _ (some 21) _=_
       simp only [Act.put,List.setIfInBounds_toArray,List.set_cons_zero,List.set_cons_succ,Za,gb]
       rfl
      refine Nb (i:=7) (N:=some 22) (v:=?_) (a':=?_) #[true,true,true,true,true,true,true,true] rfl rfl (Oc ef.out (by kernel_rfl)) (fun _ _ _ h=>h) (Or.inl ⟨by rfl,?_⟩) ?_ ?_
      rotate_left
      ·intro w'
       go_simp
       with_reducible rfl
      rotate_left
      ·simp only [Act.put,List.setIfInBounds_toArray,List.set_cons_zero,List.set_cons_succ,Za,gb]
       rfl
      refine Yh (Oj ef.out (by kernel_rfl)) ?_
      try go_wp2
      go_ret
      exact ⟨by first|rfl|(simp [La,Ka] <;> rfl)|(simp [*,La,Ka] <;> rfl),by repeat (first|(with_reducible first|exact HB.out|apply ia|apply ja|apply za|refine Aa ?_ Va.out|refine Aa ?_ Vb.out)|exact HB.out)⟩
    ·rw [if_neg c6] at H
     exact absurd H (by simp)
   ·rw [if_neg c5] at H
    have Hl:decide (Ya < (Xc.length:Int))=false:=decide_eq_false c5
    clear c5
    replace H:=Option.bind_eq_some_iff.mp H
    obtain ⟨t105,XX,H⟩:=H
    replace H:((jb.f Sb 0 (wrap64 (Oa - 1))).bind fun t106=>(if Lb=0 then (if t105=true then (if Sb=0 then (some (Fc == 0)) else (some false)) else (some false)) else (if Lb=1 then (if t105=true then (if t106=true then ((jb.f Fc 0 (wrap64 ((Qa.length:Int) - 1))).bind fun t107=>(some t107)) else (some false)) else (some false)) else (if Lb=2 then (if t106=true then (if Ub=0 then (some (Fc == 0)) else (some false)) else (some false)) else (some false)))))=some r:=H
    have RJ:=qa.mk XX
    clear XX
    replace H:=Option.bind_eq_some_iff.mp H
    obtain ⟨t106,GJ,H⟩:=H
    replace H:(if Lb=0 then (if t105=true then (if Sb=0 then (some (Fc == 0)) else (some false)) else (some false)) else (if Lb=1 then (if t105=true then (if t106=true then ((jb.f Fc 0 (wrap64 ((Qa.length:Int) - 1))).bind fun t107=>(some t107)) else (some false)) else (some false)) else (if Lb=2 then (if t106=true then (if Ub=0 then (some (Fc == 0)) else (some false)) else (some false)) else (some false))))=some r:=H
    have eH:=qa.mk GJ
    clear GJ
    by_cases c19:Lb=0
    ·rw [if_pos c19] at H
     have lJ:(Lb == 0)=true:=beq_iff_eq.mpr c19
     have jX:(Lb != 0)=false:=bne_eq_false_iff_eq.mpr c19
     clear c19
     by_cases c20:t105=true
     ·subst c20
      have H1:(if Sb=0 then (some (Fc == 0)) else (some false))=some r:=by rw [if_pos rfl] at H;exact H
      clear H
      have H:=H1
      clear H1
      by_cases c21:Sb=0
      ·rw [if_pos c21] at H
       have kJ:(Sb == 0)=true:=beq_iff_eq.mpr c21
       have gX:(Sb != 0)=false:=bne_eq_false_iff_eq.mpr c21
       clear c21
       obtain rfl:=Option.some.inj H
       have dO:=qb.out
       have YN:=Sa.out
       have Mi:wr.cell? ⟨Ia,0,none⟩=some (.slice Ze Xc.length Re):=(ga Ba.out 0).trans rfl
       have Li:wr.cell? ⟨Ia,1,none⟩=some (.int .i64 Lb):=(ga Ba.out 1).trans rfl
       have Tm:wr.cell? ⟨Ia,2,none⟩=some (.int .i64 Sb):=(ga Ba.out 2).trans rfl
       have Sm:wr.cell? ⟨Ia,3,none⟩=some (.int .i64 Ub):=(ga Ba.out 3).trans rfl
       have Rm:wr.cell? ⟨Ia,4,none⟩=some (.int .i64 Fc):=(ga Ba.out 4).trans rfl
       have Ii:=aa Ba.out 0
       have Hi:=aa Ba.out 1
       have Fm:=aa Ba.out 2
       have Em:=aa Ba.out 3
       have Dm:=aa Ba.out 4
       have nk:wr.cell? ⟨Fa,0,none⟩=some (.slice Ib Ra.length Gb):=(ga ua.out 0).trans rfl
       have jk:wr.cell? ⟨Fa,1,none⟩=some (.int .i64 Ja):=(ga ua.out 1).trans rfl
       have Cq:wr.cell? ⟨Fa,2,none⟩=some (.int .i64 Ma):=(ga ua.out 2).trans rfl
       have Bq:wr.cell? ⟨Fa,3,none⟩=some (.int .i64 Oa):=(ga ua.out 3).trans rfl
       have Aq:wr.cell? ⟨Fa,4,none⟩=some (.slice qc Qa.length dc):=(ga ua.out 4).trans rfl
       have ck:=aa ua.out 0
       have bk:=aa ua.out 1
       have lq:=aa ua.out 2
       have jq:=aa ua.out 3
       have iq:=aa ua.out 4
       go_wp2_with (first|((with_reducible refine Bb (f:=54) rfl ?_);refine jd (some 29) rfl rfl Try.func54 (by kernel_rfl) rfl #[.int .i64 Ub,.int .i64 0,.int .i64 (wrap64 ((Qa.length:Int) - 1))] rfl (by (try simp only [List.map_toArray,List.map_cons,List.map_nil]);first|done|rfl|(simp only [List.length_drop,List.length_take];rfl)) ?_;(with_reducible refine (jb.calls Ub 0 (wrap64 ((Qa.length:Int) - 1)) true _ RJ.out).mono ?_);rintro e w' ⟨rfl,⟨nd,rfl⟩⟩;refine ⟨_,rfl,?_⟩)|((with_reducible refine Bb (f:=54) rfl ?_);refine jd (some 35) rfl rfl Try.func54 (by kernel_rfl) rfl #[.int .i64 Sb,.int .i64 0,.int .i64 (wrap64 (Oa - 1))] rfl (by (try simp only [List.map_toArray,List.map_cons,List.map_nil]);first|done|rfl|(simp only [List.length_drop,List.length_take];rfl)) ?_;(with_reducible refine (jb.calls Sb 0 (wrap64 (Oa - 1)) t106 _ eH.out).mono ?_);rintro e w' ⟨rfl,⟨nd,rfl⟩⟩;refine ⟨_,rfl,?_⟩))
       go_ret
       exact ⟨by first|rfl|(simp [La,Ka] <;> rfl)|(simp [*,La,Ka] <;> rfl),by repeat (first|(with_reducible first|exact HB.out|apply ia|apply ja|apply za|refine Aa ?_ Va.out|refine Aa ?_ Vb.out)|exact HB.out)⟩
      ·rw [if_neg c21] at H
       have kJ:(Sb == 0)=false:=beq_eq_false_iff_ne.mpr c21
       have gX:(Sb != 0)=true:=bne_iff_ne.mpr c21
       obtain rfl:=Option.some.inj H
       have MS:=qb.out
       have oS:=Sa.out
       have Ss:wr.cell? ⟨Ia,0,none⟩=some (.slice Ze Xc.length Re):=(ga Ba.out 0).trans rfl
       have Rs:wr.cell? ⟨Ia,1,none⟩=some (.int .i64 Lb):=(ga Ba.out 1).trans rfl
       have Qs:wr.cell? ⟨Ia,2,none⟩=some (.int .i64 Sb):=(ga Ba.out 2).trans rfl
       have Ns:wr.cell? ⟨Ia,3,none⟩=some (.int .i64 Ub):=(ga Ba.out 3).trans rfl
       have Ms:wr.cell? ⟨Ia,4,none⟩=some (.int .i64 Fc):=(ga Ba.out 4).trans rfl
       have Wr:=aa Ba.out 0
       have Vr:=aa Ba.out 1
       have Ur:=aa Ba.out 2
       have Tr:=aa Ba.out 3
       have Sr:=aa Ba.out 4
       have Zv:wr.cell? ⟨Fa,0,none⟩=some (.slice Ib Ra.length Gb):=(ga ua.out 0).trans rfl
       have Yv:wr.cell? ⟨Fa,1,none⟩=some (.int .i64 Ja):=(ga ua.out 1).trans rfl
       have Xv:wr.cell? ⟨Fa,2,none⟩=some (.int .i64 Ma):=(ga ua.out 2).trans rfl
       have Wv:wr.cell? ⟨Fa,3,none⟩=some (.int .i64 Oa):=(ga ua.out 3).trans rfl
       have Vv:wr.cell? ⟨Fa,4,none⟩=some (.slice qc Qa.length dc):=(ga ua.out 4).trans rfl
       have Xu:=aa ua.out 0
       have Wu:=aa ua.out 1
       have Vu:=aa ua.out 2
       have Uu:=aa ua.out 3
       have Tu:=aa ua.out 4
       go_wp2_with (first|((with_reducible refine Bb (f:=54) rfl ?_);refine jd (some 29) rfl rfl Try.func54 (by kernel_rfl) rfl #[.int .i64 Ub,.int .i64 0,.int .i64 (wrap64 ((Qa.length:Int) - 1))] rfl (by (try simp only [List.map_toArray,List.map_cons,List.map_nil]);first|done|rfl|(simp only [List.length_drop,List.length_take];rfl)) ?_;(with_reducible refine (jb.calls Ub 0 (wrap64 ((Qa.length:Int) - 1)) true _ RJ.out).mono ?_);rintro e w' ⟨rfl,⟨nd,rfl⟩⟩;refine ⟨_,rfl,?_⟩)|((with_reducible refine Bb (f:=54) rfl ?_);refine jd (some 35) rfl rfl Try.func54 (by kernel_rfl) rfl #[.int .i64 Sb,.int .i64 0,.int .i64 (wrap64 (Oa - 1))] rfl (by (try simp only [List.map_toArray,List.map_cons,List.map_nil]);first|done|rfl|(simp only [List.length_drop,List.length_take];rfl)) ?_;(with_reducible refine (jb.calls Sb 0 (wrap64 (Oa - 1)) t106 _ eH.out).mono ?_);rintro e w' ⟨rfl,⟨nd,rfl⟩⟩;refine ⟨_,rfl,?_⟩))
       go_ret
       exact ⟨by first|rfl|(simp [La,Ka] <;> rfl)|(simp [*,La,Ka] <;> rfl),by repeat (first|(with_reducible first|exact HB.out|apply ia|apply ja|apply za|refine Aa ?_ Va.out|refine Aa ?_ Vb.out)|exact HB.out)⟩
     ·replace c20:=Bool.eq_false_iff.mpr c20
      subst c20
      have H1:(some false)=some r:=by rw [if_neg (show ¬ (false=true) by decide)] at H;exact H
      clear H
      have H:=H1
      clear H1
      obtain rfl:=Option.some.inj H
      have fI:=qb.out
      have cI:=Sa.out
      have Qm:wr.cell? ⟨Ia,0,none⟩=some (.slice Ze Xc.length Re):=(ga Ba.out 0).trans rfl
      have Pm:wr.cell? ⟨Ia,1,none⟩=some (.int .i64 Lb):=(ga Ba.out 1).trans rfl
      have Jz:wr.cell? ⟨Ia,2,none⟩=some (.int .i64 Sb):=(ga Ba.out 2).trans rfl
      have Iz:wr.cell? ⟨Ia,3,none⟩=some (.int .i64 Ub):=(ga Ba.out 3).trans rfl
      have Hz:wr.cell? ⟨Ia,4,none⟩=some (.int .i64 Fc):=(ga Ba.out 4).trans rfl
      have Cm:=aa Ba.out 0
      have Bm:=aa Ba.out 1
      have gz:=aa Ba.out 2
      have fz:=aa Ba.out 3
      have ez:=aa Ba.out 4
      have fN:wr.cell? ⟨Fa,0,none⟩=some (.slice Ib Ra.length Gb):=(ga ua.out 0).trans rfl
      have eN:wr.cell? ⟨Fa,1,none⟩=some (.int .i64 Ja):=(ga ua.out 1).trans rfl
      have dN:wr.cell? ⟨Fa,2,none⟩=some (.int .i64 Ma):=(ga ua.out 2).trans rfl
      have cN:wr.cell? ⟨Fa,3,none⟩=some (.int .i64 Oa):=(ga ua.out 3).trans rfl
      have bN:wr.cell? ⟨Fa,4,none⟩=some (.slice qc Qa.length dc):=(ga ua.out 4).trans rfl
      have BL:=aa ua.out 0
      have AL:=aa ua.out 1
      have zL:=aa ua.out 2
      have yL:=aa ua.out 3
      have xL:=aa ua.out 4
      go_wp2_with (first|((with_reducible refine Bb (f:=54) rfl ?_);refine jd (some 29) rfl rfl Try.func54 (by kernel_rfl) rfl #[.int .i64 Ub,.int .i64 0,.int .i64 (wrap64 ((Qa.length:Int) - 1))] rfl (by (try simp only [List.map_toArray,List.map_cons,List.map_nil]);first|done|rfl|(simp only [List.length_drop,List.length_take];rfl)) ?_;(with_reducible refine (jb.calls Ub 0 (wrap64 ((Qa.length:Int) - 1)) false _ RJ.out).mono ?_);rintro e w' ⟨rfl,⟨nd,rfl⟩⟩;refine ⟨_,rfl,?_⟩)|((with_reducible refine Bb (f:=54) rfl ?_);refine jd (some 35) rfl rfl Try.func54 (by kernel_rfl) rfl #[.int .i64 Sb,.int .i64 0,.int .i64 (wrap64 (Oa - 1))] rfl (by (try simp only [List.map_toArray,List.map_cons,List.map_nil]);first|done|rfl|(simp only [List.length_drop,List.length_take];rfl)) ?_;(with_reducible refine (jb.calls Sb 0 (wrap64 (Oa - 1)) t106 _ eH.out).mono ?_);rintro e w' ⟨rfl,⟨nd,rfl⟩⟩;refine ⟨_,rfl,?_⟩))
      go_ret
      exact ⟨by first|rfl|(simp [La,Ka] <;> rfl)|(simp [*,La,Ka] <;> rfl),by repeat (first|(with_reducible first|exact HB.out|apply ia|apply ja|apply za|refine Aa ?_ Va.out|refine Aa ?_ Vb.out)|exact HB.out)⟩
    ·rw [if_neg c19] at H
     have lJ:(Lb == 0)=false:=beq_eq_false_iff_ne.mpr c19
     have jX:(Lb != 0)=true:=bne_iff_ne.mpr c19
     by_cases c31:Lb=1
     ·rw [if_pos c31] at H
      have eX:(Lb == 1)=true:=beq_iff_eq.mpr c31
      have dX:(Lb != 1)=false:=bne_eq_false_iff_eq.mpr c31
      clear c31
      by_cases c32:t105=true
      ·subst c32
       have H1:(if t106=true then ((jb.f Fc 0 (wrap64 ((Qa.length:Int) - 1))).bind fun t107=>(some t107)) else (some false))=some r:=by rw [if_pos rfl] at H;exact H
       clear H
       have H:=H1
       clear H1
       by_cases c33:t106=true
       ·subst c33
        have H1:((jb.f Fc 0 (wrap64 ((Qa.length:Int) - 1))).bind fun t107=>(some t107))=some r:=by rw [if_pos rfl] at H;exact H
        clear H
        have H:=H1
        clear H1
        replace H:=Option.bind_eq_some_iff.mp H
        obtain ⟨t107,RX,H⟩:=H
        replace H:(some t107)=some r:=H
        have A34:=qa.mk RX
        clear RX
        obtain rfl:=Option.some.inj H
        have ES:=qb.out
        have kS:=Sa.out
        have uq:wr.cell? ⟨Ia,0,none⟩=some (.slice Ze Xc.length Re):=(ga Ba.out 0).trans rfl
        have tq:wr.cell? ⟨Ia,1,none⟩=some (.int .i64 Lb):=(ga Ba.out 1).trans rfl
        have vF:wr.cell? ⟨Ia,2,none⟩=some (.int .i64 Sb):=(ga Ba.out 2).trans rfl
        have uF:wr.cell? ⟨Ia,3,none⟩=some (.int .i64 Ub):=(ga Ba.out 3).trans rfl
        have tF:wr.cell? ⟨Ia,4,none⟩=some (.int .i64 Fc):=(ga Ba.out 4).trans rfl
        have Zp:=aa Ba.out 0
        have Yp:=aa Ba.out 1
        have aE:=aa Ba.out 2
        have ZD:=aa Ba.out 3
        have YD:=aa Ba.out 4
        have YM:wr.cell? ⟨Fa,0,none⟩=some (.slice Ib Ra.length Gb):=(ga ua.out 0).trans rfl
        have XM:wr.cell? ⟨Fa,1,none⟩=some (.int .i64 Ja):=(ga ua.out 1).trans rfl
        have WM:wr.cell? ⟨Fa,2,none⟩=some (.int .i64 Ma):=(ga ua.out 2).trans rfl
        have VM:wr.cell? ⟨Fa,3,none⟩=some (.int .i64 Oa):=(ga ua.out 3).trans rfl
        have UM:wr.cell? ⟨Fa,4,none⟩=some (.slice qc Qa.length dc):=(ga ua.out 4).trans rfl
        have uL:=aa ua.out 0
        have tL:=aa ua.out 1
        have sL:=aa ua.out 2
        have rL:=aa ua.out 3
        have qL:=aa ua.out 4
        go_wp2_with (first|((with_reducible refine Bb (f:=54) rfl ?_);refine jd (some 29) rfl rfl Try.func54 (by kernel_rfl) rfl #[.int .i64 Ub,.int .i64 0,.int .i64 (wrap64 ((Qa.length:Int) - 1))] rfl (by (try simp only [List.map_toArray,List.map_cons,List.map_nil]);first|done|rfl|(simp only [List.length_drop,List.length_take];rfl)) ?_;(with_reducible refine (jb.calls Ub 0 (wrap64 ((Qa.length:Int) - 1)) true _ RJ.out).mono ?_);rintro e w' ⟨rfl,⟨nd,rfl⟩⟩;refine ⟨_,rfl,?_⟩)|((with_reducible refine Bb (f:=54) rfl ?_);refine jd (some 35) rfl rfl Try.func54 (by kernel_rfl) rfl #[.int .i64 Sb,.int .i64 0,.int .i64 (wrap64 (Oa - 1))] rfl (by (try simp only [List.map_toArray,List.map_cons,List.map_nil]);first|done|rfl|(simp only [List.length_drop,List.length_take];rfl)) ?_;(with_reducible refine (jb.calls Sb 0 (wrap64 (Oa - 1)) true _ eH.out).mono ?_);rintro e w' ⟨rfl,⟨nd,rfl⟩⟩;refine ⟨_,rfl,?_⟩)|(go_at_call 54;(with_reducible refine (jb.calls Fc 0 (wrap64 ((Qa.length:Int) - 1)) t107 _ A34.out).mono ?_);rintro e w' ⟨rfl,⟨nd,rfl⟩⟩))
        go_ret
        exact ⟨by first|rfl|(simp [La,Ka] <;> rfl)|(simp [*,La,Ka] <;> rfl),by repeat (first|(with_reducible first|exact HB.out|apply ia|apply ja|apply za|refine Aa ?_ Va.out|refine Aa ?_ Vb.out)|exact HB.out)⟩
       ·replace c33:=Bool.eq_false_iff.mpr c33
        subst c33
        have H1:(some false)=some r:=by rw [if_neg (show ¬ (false=true) by decide)] at H;exact H
        clear H
        have H:=H1
        clear H1
        obtain rfl:=Option.some.inj H
        have Sac:=qb.out
        have dac:=Sa.out
        have qF:wr.cell? ⟨Ia,0,none⟩=some (.slice Ze Xc.length Re):=(ga Ba.out 0).trans rfl
        have pF:wr.cell? ⟨Ia,1,none⟩=some (.int .i64 Lb):=(ga Ba.out 1).trans rfl
        have oF:wr.cell? ⟨Ia,2,none⟩=some (.int .i64 Sb):=(ga Ba.out 2).trans rfl
        have nF:wr.cell? ⟨Ia,3,none⟩=some (.int .i64 Ub):=(ga Ba.out 3).trans rfl
        have mF:wr.cell? ⟨Ia,4,none⟩=some (.int .i64 Fc):=(ga Ba.out 4).trans rfl
        have VD:=aa Ba.out 0
        have UD:=aa Ba.out 1
        have TD:=aa Ba.out 2
        have SD:=aa Ba.out 3
        have RD:=aa Ba.out 4
        have Nv:wr.cell? ⟨Fa,0,none⟩=some (.slice Ib Ra.length Gb):=(ga ua.out 0).trans rfl
        have Mv:wr.cell? ⟨Fa,1,none⟩=some (.int .i64 Ja):=(ga ua.out 1).trans rfl
        have Lv:wr.cell? ⟨Fa,2,none⟩=some (.int .i64 Ma):=(ga ua.out 2).trans rfl
        have Kv:wr.cell? ⟨Fa,3,none⟩=some (.int .i64 Oa):=(ga ua.out 3).trans rfl
        have Jv:wr.cell? ⟨Fa,4,none⟩=some (.slice qc Qa.length dc):=(ga ua.out 4).trans rfl
        have Lu:=aa ua.out 0
        have Ku:=aa ua.out 1
        have Ju:=aa ua.out 2
        have Iu:=aa ua.out 3
        have Hu:=aa ua.out 4
        go_wp2_with (first|((with_reducible refine Bb (f:=54) rfl ?_);refine jd (some 29) rfl rfl Try.func54 (by kernel_rfl) rfl #[.int .i64 Ub,.int .i64 0,.int .i64 (wrap64 ((Qa.length:Int) - 1))] rfl (by (try simp only [List.map_toArray,List.map_cons,List.map_nil]);first|done|rfl|(simp only [List.length_drop,List.length_take];rfl)) ?_;(with_reducible refine (jb.calls Ub 0 (wrap64 ((Qa.length:Int) - 1)) true _ RJ.out).mono ?_);rintro e w' ⟨rfl,⟨nd,rfl⟩⟩;refine ⟨_,rfl,?_⟩)|((with_reducible refine Bb (f:=54) rfl ?_);refine jd (some 35) rfl rfl Try.func54 (by kernel_rfl) rfl #[.int .i64 Sb,.int .i64 0,.int .i64 (wrap64 (Oa - 1))] rfl (by (try simp only [List.map_toArray,List.map_cons,List.map_nil]);first|done|rfl|(simp only [List.length_drop,List.length_take];rfl)) ?_;(with_reducible refine (jb.calls Sb 0 (wrap64 (Oa - 1)) false _ eH.out).mono ?_);rintro e w' ⟨rfl,⟨nd,rfl⟩⟩;refine ⟨_,rfl,?_⟩))
        go_ret
        exact ⟨by first|rfl|(simp [La,Ka] <;> rfl)|(simp [*,La,Ka] <;> rfl),by repeat (first|(with_reducible first|exact HB.out|apply ia|apply ja|apply za|refine Aa ?_ Va.out|refine Aa ?_ Vb.out)|exact HB.out)⟩
      ·replace c32:=Bool.eq_false_iff.mpr c32
       subst c32
       have H1:(some false)=some r:=by rw [if_neg (show ¬ (false=true) by decide)] at H;exact H
       clear H
       have H:=H1
       clear H1
       obtain rfl:=Option.some.inj H
       have CS:=qb.out
       have iS:=Sa.out
       have lF:wr.cell? ⟨Ia,0,none⟩=some (.slice Ze Xc.length Re):=(ga Ba.out 0).trans rfl
       have kF:wr.cell? ⟨Ia,1,none⟩=some (.int .i64 Lb):=(ga Ba.out 1).trans rfl
       have jF:wr.cell? ⟨Ia,2,none⟩=some (.int .i64 Sb):=(ga Ba.out 2).trans rfl
       have iF:wr.cell? ⟨Ia,3,none⟩=some (.int .i64 Ub):=(ga Ba.out 3).trans rfl
       have gF:wr.cell? ⟨Ia,4,none⟩=some (.int .i64 Fc):=(ga Ba.out 4).trans rfl
       have QD:=aa Ba.out 0
       have PD:=aa Ba.out 1
       have OD:=aa Ba.out 2
       have ND:=aa Ba.out 3
       have MD:=aa Ba.out 4
       have MM:wr.cell? ⟨Fa,0,none⟩=some (.slice Ib Ra.length Gb):=(ga ua.out 0).trans rfl
       have LM:wr.cell? ⟨Fa,1,none⟩=some (.int .i64 Ja):=(ga ua.out 1).trans rfl
       have KM:wr.cell? ⟨Fa,2,none⟩=some (.int .i64 Ma):=(ga ua.out 2).trans rfl
       have JM:wr.cell? ⟨Fa,3,none⟩=some (.int .i64 Oa):=(ga ua.out 3).trans rfl
       have IM:wr.cell? ⟨Fa,4,none⟩=some (.slice qc Qa.length dc):=(ga ua.out 4).trans rfl
       have gL:=aa ua.out 0
       have fL:=aa ua.out 1
       have eL:=aa ua.out 2
       have dL:=aa ua.out 3
       have cL:=aa ua.out 4
       go_wp2_with (first|((with_reducible refine Bb (f:=54) rfl ?_);refine jd (some 29) rfl rfl Try.func54 (by kernel_rfl) rfl #[.int .i64 Ub,.int .i64 0,.int .i64 (wrap64 ((Qa.length:Int) - 1))] rfl (by (try simp only [List.map_toArray,List.map_cons,List.map_nil]);first|done|rfl|(simp only [List.length_drop,List.length_take];rfl)) ?_;(with_reducible refine (jb.calls Ub 0 (wrap64 ((Qa.length:Int) - 1)) false _ RJ.out).mono ?_);rintro e w' ⟨rfl,⟨nd,rfl⟩⟩;refine ⟨_,rfl,?_⟩)|((with_reducible refine Bb (f:=54) rfl ?_);refine jd (some 35) rfl rfl Try.func54 (by kernel_rfl) rfl #[.int .i64 Sb,.int .i64 0,.int .i64 (wrap64 (Oa - 1))] rfl (by (try simp only [List.map_toArray,List.map_cons,List.map_nil]);first|done|rfl|(simp only [List.length_drop,List.length_take];rfl)) ?_;(with_reducible refine (jb.calls Sb 0 (wrap64 (Oa - 1)) t106 _ eH.out).mono ?_);rintro e w' ⟨rfl,⟨nd,rfl⟩⟩;refine ⟨_,rfl,?_⟩))
       go_ret
       exact ⟨by first|rfl|(simp [La,Ka] <;> rfl)|(simp [*,La,Ka] <;> rfl),by repeat (first|(with_reducible first|exact HB.out|apply ia|apply ja|apply za|refine Aa ?_ Va.out|refine Aa ?_ Vb.out)|exact HB.out)⟩
     ·rw [if_neg c31] at H
      have eX:(Lb == 1)=false:=beq_eq_false_iff_ne.mpr c31
      have dX:(Lb != 1)=true:=bne_iff_ne.mpr c31
      by_cases c44:Lb=2
      ·rw [if_pos c44] at H
       have iJ:(Lb == 2)=true:=beq_iff_eq.mpr c44
       have gJ:(Lb != 2)=false:=bne_eq_false_iff_eq.mpr c44
       clear c44
       by_cases c45:t106=true
       ·subst c45
        have H1:(if Ub=0 then (some (Fc == 0)) else (some false))=some r:=by rw [if_pos rfl] at H;exact H
        clear H
        have H:=H1
        clear H1
        by_cases c46:Ub=0
        ·rw [if_pos c46] at H
         have eG:(Ub == 0)=true:=beq_iff_eq.mpr c46
         have fJ:(Ub != 0)=false:=bne_eq_false_iff_eq.mpr c46
         clear c46
         obtain rfl:=Option.some.inj H
         have ZN:=qb.out
         have VN:=Sa.out
         have Js:wr.cell? ⟨Ia,0,none⟩=some (.slice Ze Xc.length Re):=(ga Ba.out 0).trans rfl
         have Hs:wr.cell? ⟨Ia,1,none⟩=some (.int .i64 Lb):=(ga Ba.out 1).trans rfl
         have wz:wr.cell? ⟨Ia,2,none⟩=some (.int .i64 Sb):=(ga Ba.out 2).trans rfl
         have vz:wr.cell? ⟨Ia,3,none⟩=some (.int .i64 Ub):=(ga Ba.out 3).trans rfl
         have uz:wr.cell? ⟨Ia,4,none⟩=some (.int .i64 Fc):=(ga Ba.out 4).trans rfl
         have Nr:=aa Ba.out 0
         have Mr:=aa Ba.out 1
         have Ty:=aa Ba.out 2
         have Sy:=aa Ba.out 3
         have Ry:=aa Ba.out 4
         have zM:wr.cell? ⟨Fa,0,none⟩=some (.slice Ib Ra.length Gb):=(ga ua.out 0).trans rfl
         have yM:wr.cell? ⟨Fa,1,none⟩=some (.int .i64 Ja):=(ga ua.out 1).trans rfl
         have xM:wr.cell? ⟨Fa,2,none⟩=some (.int .i64 Ma):=(ga ua.out 2).trans rfl
         have wM:wr.cell? ⟨Fa,3,none⟩=some (.int .i64 Oa):=(ga ua.out 3).trans rfl
         have vM:wr.cell? ⟨Fa,4,none⟩=some (.slice qc Qa.length dc):=(ga ua.out 4).trans rfl
         have TK:=aa ua.out 0
         have SK:=aa ua.out 1
         have RK:=aa ua.out 2
         have QK:=aa ua.out 3
         have PK:=aa ua.out 4
         go_wp2_with (first|((with_reducible refine Bb (f:=54) rfl ?_);refine jd (some 29) rfl rfl Try.func54 (by kernel_rfl) rfl #[.int .i64 Ub,.int .i64 0,.int .i64 (wrap64 ((Qa.length:Int) - 1))] rfl (by (try simp only [List.map_toArray,List.map_cons,List.map_nil]);first|done|rfl|(simp only [List.length_drop,List.length_take];rfl)) ?_;(with_reducible refine (jb.calls Ub 0 (wrap64 ((Qa.length:Int) - 1)) t105 _ RJ.out).mono ?_);rintro e w' ⟨rfl,⟨nd,rfl⟩⟩;refine ⟨_,rfl,?_⟩)|((with_reducible refine Bb (f:=54) rfl ?_);refine jd (some 35) rfl rfl Try.func54 (by kernel_rfl) rfl #[.int .i64 Sb,.int .i64 0,.int .i64 (wrap64 (Oa - 1))] rfl (by (try simp only [List.map_toArray,List.map_cons,List.map_nil]);first|done|rfl|(simp only [List.length_drop,List.length_take];rfl)) ?_;(with_reducible refine (jb.calls Sb 0 (wrap64 (Oa - 1)) true _ eH.out).mono ?_);rintro e w' ⟨rfl,⟨nd,rfl⟩⟩;refine ⟨_,rfl,?_⟩))
         go_ret
         exact ⟨by first|rfl|(simp [La,Ka] <;> rfl)|(simp [*,La,Ka] <;> rfl),by repeat (first|(with_reducible first|exact HB.out|apply ia|apply ja|apply za|refine Aa ?_ Va.out|refine Aa ?_ Vb.out)|exact HB.out)⟩
        ·rw [if_neg c46] at H
         have eG:(Ub == 0)=false:=beq_eq_false_iff_ne.mpr c46
         have fJ:(Ub != 0)=true:=bne_iff_ne.mpr c46
         obtain rfl:=Option.some.inj H
         have Mac:=qb.out
         have Xab:=Sa.out
         have K7:wr.cell? ⟨Ia,0,none⟩=some (.slice Ze Xc.length Re):=(ga Ba.out 0).trans rfl
         have J7:wr.cell? ⟨Ia,1,none⟩=some (.int .i64 Lb):=(ga Ba.out 1).trans rfl
         have I7:wr.cell? ⟨Ia,2,none⟩=some (.int .i64 Sb):=(ga Ba.out 2).trans rfl
         have H7:wr.cell? ⟨Ia,3,none⟩=some (.int .i64 Ub):=(ga Ba.out 3).trans rfl
         have G7:wr.cell? ⟨Ia,4,none⟩=some (.int .i64 Fc):=(ga Ba.out 4).trans rfl
         have D1:=aa Ba.out 0
         have B1:=aa Ba.out 1
         have z1:=aa Ba.out 2
         have Z0:=aa Ba.out 3
         have Y0:=aa Ba.out 4
         have rz:wr.cell? ⟨Fa,0,none⟩=some (.slice Ib Ra.length Gb):=(ga ua.out 0).trans rfl
         have qz:wr.cell? ⟨Fa,1,none⟩=some (.int .i64 Ja):=(ga ua.out 1).trans rfl
         have bF:wr.cell? ⟨Fa,2,none⟩=some (.int .i64 Ma):=(ga ua.out 2).trans rfl
         have ZE:wr.cell? ⟨Fa,3,none⟩=some (.int .i64 Oa):=(ga ua.out 3).trans rfl
         have YE:wr.cell? ⟨Fa,4,none⟩=some (.slice qc Qa.length dc):=(ga ua.out 4).trans rfl
         have Qy:=aa ua.out 0
         have Py:=aa ua.out 1
         have GD:=aa ua.out 2
         have FD:=aa ua.out 3
         have ED:=aa ua.out 4
         go_wp2_with (first|((with_reducible refine Bb (f:=54) rfl ?_);refine jd (some 29) rfl rfl Try.func54 (by kernel_rfl) rfl #[.int .i64 Ub,.int .i64 0,.int .i64 (wrap64 ((Qa.length:Int) - 1))] rfl (by (try simp only [List.map_toArray,List.map_cons,List.map_nil]);first|done|rfl|(simp only [List.length_drop,List.length_take];rfl)) ?_;(with_reducible refine (jb.calls Ub 0 (wrap64 ((Qa.length:Int) - 1)) t105 _ RJ.out).mono ?_);rintro e w' ⟨rfl,⟨nd,rfl⟩⟩;refine ⟨_,rfl,?_⟩)|((with_reducible refine Bb (f:=54) rfl ?_);refine jd (some 35) rfl rfl Try.func54 (by kernel_rfl) rfl #[.int .i64 Sb,.int .i64 0,.int .i64 (wrap64 (Oa - 1))] rfl (by (try simp only [List.map_toArray,List.map_cons,List.map_nil]);first|done|rfl|(simp only [List.length_drop,List.length_take];rfl)) ?_;(with_reducible refine (jb.calls Sb 0 (wrap64 (Oa - 1)) true _ eH.out).mono ?_);rintro e w' ⟨rfl,⟨nd,rfl⟩⟩;refine ⟨_,rfl,?_⟩))
         go_ret
         exact ⟨by first|rfl|(simp [La,Ka] <;> rfl)|(simp [*,La,Ka] <;> rfl),by repeat (first|(with_reducible first|exact HB.out|apply ia|apply ja|apply za|refine Aa ?_ Va.out|refine Aa ?_ Vb.out)|exact HB.out)⟩
       ·replace c45:=Bool.eq_false_iff.mpr c45
        subst c45
        have H1:(some false)=some r:=by rw [if_neg (show ¬ (false=true) by decide)] at H;exact H
        clear H
        have H:=H1
        clear H1
        obtain rfl:=Option.some.inj H
        have Kac:=qb.out
        have Vab:=Sa.out
        have u7:wr.cell? ⟨Ia,0,none⟩=some (.slice Ze Xc.length Re):=(ga Ba.out 0).trans rfl
        have o7:wr.cell? ⟨Ia,1,none⟩=some (.int .i64 Lb):=(ga Ba.out 1).trans rfl
        have m7:wr.cell? ⟨Ia,2,none⟩=some (.int .i64 Sb):=(ga Ba.out 2).trans rfl
        have l7:wr.cell? ⟨Ia,3,none⟩=some (.int .i64 Ub):=(ga Ba.out 3).trans rfl
        have j7:wr.cell? ⟨Ia,4,none⟩=some (.int .i64 Fc):=(ga Ba.out 4).trans rfl
        have S0:=aa Ba.out 0
        have R0:=aa Ba.out 1
        have Q0:=aa Ba.out 2
        have P0:=aa Ba.out 3
        have O0:=aa Ba.out 4
        have e7:wr.cell? ⟨Fa,0,none⟩=some (.slice Ib Ra.length Gb):=(ga ua.out 0).trans rfl
        have Z6:wr.cell? ⟨Fa,1,none⟩=some (.int .i64 Ja):=(ga ua.out 1).trans rfl
        have Y6:wr.cell? ⟨Fa,2,none⟩=some (.int .i64 Ma):=(ga ua.out 2).trans rfl
        have X6:wr.cell? ⟨Fa,3,none⟩=some (.int .i64 Oa):=(ga ua.out 3).trans rfl
        have W6:wr.cell? ⟨Fa,4,none⟩=some (.slice qc Qa.length dc):=(ga ua.out 4).trans rfl
        have N0:=aa ua.out 0
        have M0:=aa ua.out 1
        have L0:=aa ua.out 2
        have K0:=aa ua.out 3
        have J0:=aa ua.out 4
        go_wp2_with (first|((with_reducible refine Bb (f:=54) rfl ?_);refine jd (some 29) rfl rfl Try.func54 (by kernel_rfl) rfl #[.int .i64 Ub,.int .i64 0,.int .i64 (wrap64 ((Qa.length:Int) - 1))] rfl (by (try simp only [List.map_toArray,List.map_cons,List.map_nil]);first|done|rfl|(simp only [List.length_drop,List.length_take];rfl)) ?_;(with_reducible refine (jb.calls Ub 0 (wrap64 ((Qa.length:Int) - 1)) t105 _ RJ.out).mono ?_);rintro e w' ⟨rfl,⟨nd,rfl⟩⟩;refine ⟨_,rfl,?_⟩)|((with_reducible refine Bb (f:=54) rfl ?_);refine jd (some 35) rfl rfl Try.func54 (by kernel_rfl) rfl #[.int .i64 Sb,.int .i64 0,.int .i64 (wrap64 (Oa - 1))] rfl (by (try simp only [List.map_toArray,List.map_cons,List.map_nil]);first|done|rfl|(simp only [List.length_drop,List.length_take];rfl)) ?_;(with_reducible refine (jb.calls Sb 0 (wrap64 (Oa - 1)) false _ eH.out).mono ?_);rintro e w' ⟨rfl,⟨nd,rfl⟩⟩;refine ⟨_,rfl,?_⟩))
        go_ret
        exact ⟨by first|rfl|(simp [La,Ka] <;> rfl)|(simp [*,La,Ka] <;> rfl),by repeat (first|(with_reducible first|exact HB.out|apply ia|apply ja|apply za|refine Aa ?_ Va.out|refine Aa ?_ Vb.out)|exact HB.out)⟩
      ·rw [if_neg c44] at H
       have iJ:(Lb == 2)=false:=beq_eq_false_iff_ne.mpr c44
       have gJ:(Lb != 2)=true:=bne_iff_ne.mpr c44
       obtain rfl:=Option.some.inj H
       have zS:=qb.out
       have fS:=Sa.out
       have rM:wr.cell? ⟨Ia,0,none⟩=some (.slice Ze Xc.length Re):=(ga Ba.out 0).trans rfl
       have qM:wr.cell? ⟨Ia,1,none⟩=some (.int .i64 Lb):=(ga Ba.out 1).trans rfl
       have V6:wr.cell? ⟨Ia,2,none⟩=some (.int .i64 Sb):=(ga Ba.out 2).trans rfl
       have U6:wr.cell? ⟨Ia,3,none⟩=some (.int .i64 Ub):=(ga Ba.out 3).trans rfl
       have S6:wr.cell? ⟨Ia,4,none⟩=some (.int .i64 Fc):=(ga Ba.out 4).trans rfl
       have LK:=aa Ba.out 0
       have KK:=aa Ba.out 1
       have I0:=aa Ba.out 2
       have G0:=aa Ba.out 3
       have E0:=aa Ba.out 4
       have pM:wr.cell? ⟨Fa,0,none⟩=some (.slice Ib Ra.length Gb):=(ga ua.out 0).trans rfl
       have oM:wr.cell? ⟨Fa,1,none⟩=some (.int .i64 Ja):=(ga ua.out 1).trans rfl
       have nM:wr.cell? ⟨Fa,2,none⟩=some (.int .i64 Ma):=(ga ua.out 2).trans rfl
       have mM:wr.cell? ⟨Fa,3,none⟩=some (.int .i64 Oa):=(ga ua.out 3).trans rfl
       have lM:wr.cell? ⟨Fa,4,none⟩=some (.slice qc Qa.length dc):=(ga ua.out 4).trans rfl
       have JK:=aa ua.out 0
       have IK:=aa ua.out 1
       have GK:=aa ua.out 2
       have EK:=aa ua.out 3
       have DK:=aa ua.out 4
       go_wp2_with (first|((with_reducible refine Bb (f:=54) rfl ?_);refine jd (some 29) rfl rfl Try.func54 (by kernel_rfl) rfl #[.int .i64 Ub,.int .i64 0,.int .i64 (wrap64 ((Qa.length:Int) - 1))] rfl (by (try simp only [List.map_toArray,List.map_cons,List.map_nil]);first|done|rfl|(simp only [List.length_drop,List.length_take];rfl)) ?_;(with_reducible refine (jb.calls Ub 0 (wrap64 ((Qa.length:Int) - 1)) t105 _ RJ.out).mono ?_);rintro e w' ⟨rfl,⟨nd,rfl⟩⟩;refine ⟨_,rfl,?_⟩)|((with_reducible refine Bb (f:=54) rfl ?_);refine jd (some 35) rfl rfl Try.func54 (by kernel_rfl) rfl #[.int .i64 Sb,.int .i64 0,.int .i64 (wrap64 (Oa - 1))] rfl (by (try simp only [List.map_toArray,List.map_cons,List.map_nil]);first|done|rfl|(simp only [List.length_drop,List.length_take];rfl)) ?_;(with_reducible refine (jb.calls Sb 0 (wrap64 (Oa - 1)) t106 _ eH.out).mono ?_);rintro e w' ⟨rfl,⟨nd,rfl⟩⟩;refine ⟨_,rfl,?_⟩))
       go_ret
       exact ⟨by first|rfl|(simp [La,Ka] <;> rfl)|(simp [*,La,Ka] <;> rfl),by repeat (first|(with_reducible first|exact HB.out|apply ia|apply ja|apply za|refine Aa ?_ Va.out|refine Aa ?_ Vb.out)|exact HB.out)⟩
end Go.Proofs.Ytmifdccaajngcaa.P
end
section
namespace Go.Proofs.Ytmifdccaajngcaa.P
open Go.RowKit Go.Proofs.Ca.xb Go.Proofs.Ca.Xb Go.Proofs.Ca.ic
attribute [local go_sem] Vd Td we ue Dd Cd Ud Sd
set_option linter.unusedVariables false
set_option linter.unusedSimpArgs false
mutual
def Ua.l0:Nat→Int→List Int→Int→Int→Int→List (Eh)→Option (Bool)
 | 0,_,_,_,_,_,_=>none
 | k + 1,x3,x102000,Od,x102002,x102003,x102004=>if x3 < (x102000.length:Int) then (if 0 ≤ x3 then ((jb.f (rd x102000 x3) 1 16).bind fun t103=>(if t103=true then (Ua.l0 k (wrap64 (x3 + 1)) x102000 Od x102002 x102003 x102004) else (some false))) else (none)) else ((jb.f (x102000.length:Int) 1 4).bind fun t104=>(if t104=true then ((jb.f x102002 0 20).bind fun t105=>(if t105=true then ((jb.f Od 0 6).bind fun t106=>(if t106=true then (if Od > x102002 then (Ua.j1 k true x102000 Od x102002 x102003 x102004) else ((jb.f x102003 x102002 1000).bind fun t107=>(if t107=true then ((jb.f (x102004.length:Int) 1 300).bind fun t108=>(Ua.j1 k (!t108) x102000 Od x102002 x102003 x102004)) else (Ua.j1 k true x102000 Od x102002 x102003 x102004)))) else (Ua.j1 k true x102000 Od x102002 x102003 x102004))) else (Ua.j1 k true x102000 Od x102002 x102003 x102004))) else (Ua.j1 k true x102000 Od x102002 x102003 x102004)))
def Ua.j1:Nat→Bool→List Int→Int→Int→Int→List (Eh)→Option (Bool)
 | 0,_,_,_,_,_,_=>none
 | k + 1,x58,x102000,Od,x102002,x102003,x102004=>if x58=true then (some false) else (Ua.l1 k 0 0 x102000 Od x102002 x102003 x102004)
def Ua.l1:Nat→Int→Int→List Int→Int→Int→Int→List (Eh)→Option (Bool)
 | 0,_,_,_,_,_,_,_=>none
 | k + 1,x4,x5,x102000,Od,x102002,x102003,x102004=>if x5 < (x102004.length:Int) then (if 0 ≤ x5 then (if (wrap64 (x4 + (((mb x102004 x5).f0).length:Int))) > 1000 then (some false) else ((Fb.f k x102000 Od x102002 x102003 x102004 ((mb x102004 x5).f0) ((mb x102004 x5).f1) ((mb x102004 x5).f2) ((mb x102004 x5).f3) ((mb x102004 x5).f4)).bind fun t111=>(if t111=true then (Ua.l1 k (wrap64 (x4 + (((mb x102004 x5).f0).length:Int))) (wrap64 (x5 + 1)) x102000 Od x102002 x102003 x102004) else (some false)))) else (none)) else (some true)
end
def Ua.f (k:Nat) (Ra:List Int) (Ja:Int) (Ma:Int) (Oa:Int) (Qa:List (Eh)):Option (Bool):=Ua.l0 k 0 Ra Ja Ma Oa Qa
theorem Ua.je:∀ k,(∀ y0 y1 y2 y3 y4 y5,mc (Ua.l0 k y0 y1 y2 y3 y4 y5) (Ua.l0 (k + 1) y0 y1 y2 y3 y4 y5))∧(∀ y0 y1 y2 y3 y4 y5,mc (Ua.j1 k y0 y1 y2 y3 y4 y5) (Ua.j1 (k + 1) y0 y1 y2 y3 y4 y5))∧(∀ y0 y1 y2 y3 y4 y5 y6,mc (Ua.l1 k y0 y1 y2 y3 y4 y5 y6) (Ua.l1 (k + 1) y0 y1 y2 y3 y4 y5 y6))
 | 0=>⟨fun _ _ _ _ _ _ r h=>by simp [Ua.l0] at h,fun _ _ _ _ _ _ r h=>by simp [Ua.j1] at h,fun _ _ _ _ _ _ _ r h=>by simp [Ua.l1] at h⟩
 | k + 1=>by
  obtain ⟨Lf,ih1,ih2⟩:=Ua.je k
  refine ⟨?_,?_,?_⟩
  ·intro y0 y1 y2 y3 y4 y5
   unfold Ua.l0
   repeat' first
   | (with_reducible exact Lf _ _ _ _ _ _)
   | (with_reducible exact ih1 _ _ _ _ _ _)
   | (with_reducible exact ih2 _ _ _ _ _ _ _)
   | (with_reducible exact Fb.mono _ _ _ _ _ _ _ _ _ _ _)
   | (with_reducible exact mc.refl _)
   | (with_reducible exact mc.none _)
   | (with_reducible refine mc.ite ?_ ?_)
   | (with_reducible refine mc.bind ?_ (fun _=>?_))
   | exact Lf _ _ _ _ _ _
   | exact ih1 _ _ _ _ _ _
   | exact ih2 _ _ _ _ _ _ _
   | exact Fb.mono _ _ _ _ _ _ _ _ _ _ _
   | exact mc.none _
   | refine mc.ite ?_ ?_
   | refine mc.bind ?_ (fun _=>?_)
  ·intro y0 y1 y2 y3 y4 y5
   unfold Ua.j1
   repeat' first
   | (with_reducible exact Lf _ _ _ _ _ _)
   | (with_reducible exact ih1 _ _ _ _ _ _)
   | (with_reducible exact ih2 _ _ _ _ _ _ _)
   | (with_reducible exact Fb.mono _ _ _ _ _ _ _ _ _ _ _)
   | (with_reducible exact mc.refl _)
   | (with_reducible exact mc.none _)
   | (with_reducible refine mc.ite ?_ ?_)
   | (with_reducible refine mc.bind ?_ (fun _=>?_))
   | exact Lf _ _ _ _ _ _
   | exact ih1 _ _ _ _ _ _
   | exact ih2 _ _ _ _ _ _ _
   | exact Fb.mono _ _ _ _ _ _ _ _ _ _ _
   | exact mc.none _
   | refine mc.ite ?_ ?_
   | refine mc.bind ?_ (fun _=>?_)
  ·intro y0 y1 y2 y3 y4 y5 y6
   unfold Ua.l1
   repeat' first
   | (with_reducible exact Lf _ _ _ _ _ _)
   | (with_reducible exact ih1 _ _ _ _ _ _)
   | (with_reducible exact ih2 _ _ _ _ _ _ _)
   | (with_reducible exact Fb.mono _ _ _ _ _ _ _ _ _ _ _)
   | (with_reducible exact mc.refl _)
   | (with_reducible exact mc.none _)
   | (with_reducible refine mc.ite ?_ ?_)
   | (with_reducible refine mc.bind ?_ (fun _=>?_))
   | exact Lf _ _ _ _ _ _
   | exact ih1 _ _ _ _ _ _
   | exact ih2 _ _ _ _ _ _ _
   | exact Fb.mono _ _ _ _ _ _ _ _ _ _ _
   | exact mc.none _
   | refine mc.ite ?_ ?_
   | refine mc.bind ?_ (fun _=>?_)
theorem Ua.mono:∀ a0 a1 a2 a3 a4 k,mc (Ua.f k a0 a1 a2 a3 a4) (Ua.f (k + 1) a0 a1 a2 a3 a4):=by
 intro a0 a1 a2 a3 a4 k
 obtain ⟨Lf,ih1,ih2⟩:=Ua.je k
 unfold Ua.f
 repeat' first
   | (with_reducible exact Lf _ _ _ _ _ _)
   | (with_reducible exact ih1 _ _ _ _ _ _)
   | (with_reducible exact ih2 _ _ _ _ _ _ _)
   | (with_reducible exact Fb.mono _ _ _ _ _ _ _ _ _ _ _)
   | (with_reducible exact mc.refl _)
   | (with_reducible exact mc.none _)
   | (with_reducible refine mc.ite ?_ ?_)
   | (with_reducible refine mc.bind ?_ (fun _=>?_))
   | exact Lf _ _ _ _ _ _
   | exact ih1 _ _ _ _ _ _
   | exact ih2 _ _ _ _ _ _ _
   | exact Fb.mono _ _ _ _ _ _ _ _ _ _ _
   | exact mc.none _
   | refine mc.ite ?_ ?_
   | refine mc.bind ?_ (fun _=>?_)
def Ua.T13:Bool × List (List Nat × List Nat):=(true,[([],[]),([0],[0]),([1],[1]),([2],[2]),([2],[2]),([4,2],[2,4]),([2],[2]),([5,6,2],[2,5,6]),([7,2],[2,7]),([3,8,2,2],[2,3,8]),([9,2],[2,9]),([2,10],[2,10])])
def Ua.B13:List Nat:=[0,1,3,7,7,23,7,119,247,511,1023,2047]
theorem Ua.uH:Jk .any (opsOf Try.f53 13)=Ua.T13:=by kernel_rfl
theorem Ua.DC:Rk Ua.T13.2 Ua.B13=true:=by kernel_rfl
set_option maxHeartbeats 8000000 in
set_option maxRecDepth 100000 in
theorem Ua.calls (k:Nat) (Ib:Option Addr) (Gb:Nat) (Ra:List Int) (Ja:Int) (Ma:Int) (Oa:Int) (qc:Option Addr) (dc:Nat) (Qa:List (Eh)) (r:Bool) (w:World) (zf:Kd.C (Kd.int .i64) w Ib Ra.length Ra) (uf:Ra.length ≤ Gb) (bg:Kd.C Xq w qc Qa.length Qa) (cg:Qa.length ≤ dc) (h:Ua.f k Ra Ja Ma Oa Qa=some r) :
  Calls Try.prog 53 #[.agg #[.slice Ib Ra.length Gb,.int .i64 Ja,.int .i64 Ma,.int .i64 Oa,.slice qc Qa.length dc]] w fun e w'=>e = .returned (.bool r)∧Below w.heap.size w w':=by
 have CA:=Try.underlying30
 have NG:=Try.underlying68
 have Ve:=qa.mk zf
 have gf:=qa.mk uf
 clear zf uf
 have Tf:=qa.mk bg
 have Yg:=qa.mk cg
 clear bg cg
 have HB:=qa.mk (Below.refl w.heap.size w)
 have H:(Ua.l0 k 0 Ra Ja Ma Oa Qa)=some r:=h
 clear h
 have H':=qa.mk H
 clear H
 go_enter Try.func53,Try.ntmps53
 go_wp2_with (first|((with_reducible refine Mb (N:=1) rfl ?_);(try (refine pg (by rfl) ?_;dsimp only));refine Jb ?hg (N:=1) ?hd (cs:=#[.slice Ib Ra.length Gb,.int .i64 Ja,.int .i64 Ma,.int .i64 Oa,.slice qc Qa.length dc]) (t:=30) ?hr ?_;(case hd=>rfl);(case hg=>rfl);(case hr=>first|(go_simp;done)|(go_simp;rfl));intro Fa hg w2 Qb hb;have Pb:=qa.mk (Pa (by repeat (first|(with_reducible first|exact HB.out|apply ia|apply ja|apply za)|exact HB.out)) hb);have Wb:=qa.mk (Qb);have nc:=qa.mk ((by rw [hg];exact (Na (by repeat (first|(with_reducible first|exact HB.out|apply ia|apply ja|apply za)|exact HB.out))):w.heap.size ≤ Fa));have Nc:=qa.mk ((by rw [hg];exact (Na (by repeat (first|(with_reducible first|exact HB.out|apply ia|apply ja|apply za)|exact HB.out))):w.heap.size ≤ Fa));clear HB;have HB:=Pb;have ua:=Wb;have Nd:=nc;have Va:=Nc;clear Pb Wb nc Nc;clear hb Qb hg))
 go_loopg [3] k (fun kq v3 w'=>∃ (Te:Int),v3 = .int .i64 Te∧qa (Ua.l0 kq Te Ra Ja Ma Oa Qa=some r)∧qa (kq ≤ k)∧qa (w'.heap[Fa]? = some (.cells #[(.slice Ib Ra.length Gb),.int .i64 Ja,.int .i64 Ma,.int .i64 Oa,(.slice qc Qa.length dc)] 30 (0,0)))∧qa (Below w.heap.size w w'))
 case atStart=>exact ⟨(0),(by first|rfl|(simp;done)|(simp [*];done)),H',⟨Nat.le_refl _⟩,⟨by (with_reducible repeat (first|refine Ea ?_ _|refine Ga ?_|refine Da ?_ _));exact ua.out⟩,⟨by repeat (first|(with_reducible first|exact HB.out|apply ia|apply ja|apply za|refine Aa ?_ Va.out)|exact HB.out)⟩⟩
 case round =>
  clear H'
  try clear p2
  (try clear HA)
  (try clear We)
  (try clear ua)
  (try clear HB)
  obtain ⟨Te,rfl,HA,We,ua,HB⟩:=hrel
  cases gk with
  | zero=>exact absurd HA.out (by simp [Ua.l0])
  | succ k1 =>
   have H:=HA.out
   clear HA
   simp only [Ua.l0] at H
   by_cases c3:Te < (Ra.length:Int)
   ·rw [if_pos c3] at H
    have Uh:decide (Te < (Ra.length:Int))=true:=decide_eq_true c3
    clear c3
    by_cases c4:0 ≤ Te
    ·rw [if_pos c4] at H
     have Mh:decide (0 ≤ Te)=true:=decide_eq_true c4
     clear c4
     replace H:=Option.bind_eq_some_iff.mp H
     obtain ⟨t103,RO,H⟩:=H
     replace H:(if t103=true then (Ua.l0 k1 (wrap64 (Te + 1)) Ra Ja Ma Oa Qa) else (some false))=some r:=H
     have A5:=qa.mk RO
     clear RO
     by_cases c6:t103=true
     ·subst c6
      have H1:(Ua.l0 k1 (wrap64 (Te + 1)) Ra Ja Ma Oa Qa)=some r:=by rw [if_pos rfl] at H;exact H
      clear H
      have H:=H1
      clear H1
      have H':=qa.mk H
      clear H
      have yo:wr.cell? ⟨Fa,0,none⟩=some (.slice Ib Ra.length Gb):=(ga ua.out 0).trans rfl
      have xo:wr.cell? ⟨Fa,1,none⟩=some (.int .i64 Ja):=(ga ua.out 1).trans rfl
      have wo:wr.cell? ⟨Fa,2,none⟩=some (.int .i64 Ma):=(ga ua.out 2).trans rfl
      have vo:wr.cell? ⟨Fa,3,none⟩=some (.int .i64 Oa):=(ga ua.out 3).trans rfl
      have uo:wr.cell? ⟨Fa,4,none⟩=some (.slice qc Qa.length dc):=(ga ua.out 4).trans rfl
      have fo:=aa ua.out 0
      have Zn:=aa ua.out 1
      have Yn:=aa ua.out 2
      have Xn:=aa ua.out 3
      have Wn:=aa ua.out 4
      have ei:0 ≤ (Te:Int):=of_decide_eq_true (by first|(with_reducible assumption)|assumption)
      have di:Te < (Ra.length:Int):=of_decide_eq_true (by first|(with_reducible assumption)|assumption)
      obtain ⟨Ue,sr,Ee⟩:=Kd.Lp Ve.out Te ei di
      cases sr
      replace Ee:=(HB.out.cell (World.block_lt_of_cell? w _ Ee)).trans Ee
      replace ei:=eq_true ei
      replace di:=eq_true di
      go_wp2_with (first|((with_reducible refine Bb (f:=54) rfl ?_);refine jd (some 18) rfl rfl Try.func54 (by kernel_rfl) rfl #[.int .i64 (rd Ra Te),.int .i64 1,.int .i64 16] rfl (by (try simp only [List.map_toArray,List.map_cons,List.map_nil]);first|done|rfl|(simp only [List.length_drop,List.length_take];rfl)) ?_;(with_reducible refine (jb.calls (rd Ra Te) 1 16 true _ A5.out).mono ?_);rintro e w' ⟨rfl,⟨nd,rfl⟩⟩;refine ⟨_,rfl,?_⟩))
      go_roundg k1
      case measure=>have:=We.out;omega
      case rel=>exact ⟨(wrap64 (Te + 1)),(by first|rfl|(simp;done)|(simp [*];done)),H',⟨by have:=We.out;omega⟩,⟨by (with_reducible repeat (first|refine Ea ?_ _|refine Ga ?_|refine Da ?_ _));exact ua.out⟩,⟨by repeat (first|(with_reducible first|exact HB.out|apply ia|apply ja|apply za|refine Aa ?_ Va.out)|exact HB.out)⟩⟩
     ·replace c6:=Bool.eq_false_iff.mpr c6
      subst c6
      have H1:(some false)=some r:=by rw [if_neg (show ¬ (false=true) by decide)] at H;exact H
      clear H
      have H:=H1
      clear H1
      obtain rfl:=Option.some.inj H
      have iC:wr.cell? ⟨Fa,0,none⟩=some (.slice Ib Ra.length Gb):=(ga ua.out 0).trans rfl
      have gC:wr.cell? ⟨Fa,1,none⟩=some (.int .i64 Ja):=(ga ua.out 1).trans rfl
      have fC:wr.cell? ⟨Fa,2,none⟩=some (.int .i64 Ma):=(ga ua.out 2).trans rfl
      have eC:wr.cell? ⟨Fa,3,none⟩=some (.int .i64 Oa):=(ga ua.out 3).trans rfl
      have cC:wr.cell? ⟨Fa,4,none⟩=some (.slice qc Qa.length dc):=(ga ua.out 4).trans rfl
      have VB:=aa ua.out 0
      have UB:=aa ua.out 1
      have TB:=aa ua.out 2
      have SB:=aa ua.out 3
      have RB:=aa ua.out 4
      have ei:0 ≤ (Te:Int):=of_decide_eq_true (by first|(with_reducible assumption)|assumption)
      have di:Te < (Ra.length:Int):=of_decide_eq_true (by first|(with_reducible assumption)|assumption)
      obtain ⟨Ue,sr,Ee⟩:=Kd.Lp Ve.out Te ei di
      cases sr
      replace Ee:=(HB.out.cell (World.block_lt_of_cell? w _ Ee)).trans Ee
      replace ei:=eq_true ei
      replace di:=eq_true di
      go_wp2_with (first|((with_reducible refine Bb (f:=54) rfl ?_);refine jd (some 18) rfl rfl Try.func54 (by kernel_rfl) rfl #[.int .i64 (rd Ra Te),.int .i64 1,.int .i64 16] rfl (by (try simp only [List.map_toArray,List.map_cons,List.map_nil]);first|done|rfl|(simp only [List.length_drop,List.length_take];rfl)) ?_;(with_reducible refine (jb.calls (rd Ra Te) 1 16 false _ A5.out).mono ?_);rintro e w' ⟨rfl,⟨nd,rfl⟩⟩;refine ⟨_,rfl,?_⟩))
      go_ret
      exact ⟨by first|rfl|(simp [La,Ka] <;> rfl)|(simp [*,La,Ka] <;> rfl),by repeat (first|(with_reducible first|exact HB.out|apply ia|apply ja|apply za|refine Aa ?_ Va.out)|exact HB.out)⟩
    ·rw [if_neg c4] at H
     exact absurd H (by simp)
   ·rw [if_neg c3] at H
    have Uh:decide (Te < (Ra.length:Int))=false:=decide_eq_false c3
    clear c3
    have HC9:=qa.mk H
    clear H
    have cn:wr.cell? ⟨Fa,0,none⟩=some (.slice Ib Ra.length Gb):=(ga ua.out 0).trans rfl
    have bn:wr.cell? ⟨Fa,1,none⟩=some (.int .i64 Ja):=(ga ua.out 1).trans rfl
    have Zm:wr.cell? ⟨Fa,2,none⟩=some (.int .i64 Ma):=(ga ua.out 2).trans rfl
    have Ym:wr.cell? ⟨Fa,3,none⟩=some (.int .i64 Oa):=(ga ua.out 3).trans rfl
    have Xm:wr.cell? ⟨Fa,4,none⟩=some (.slice qc Qa.length dc):=(ga ua.out 4).trans rfl
    have Om:=aa ua.out 0
    have Nm:=aa ua.out 1
    have Mm:=aa ua.out 2
    have Lm:=aa ua.out 3
    have Km:=aa ua.out 4
    go_upto_region 6 with (fail)
    go_cut [58] (fun v58 wc=>∃ (kq:Nat) (RC:Bool),v58 = .bool RC∧qa (Ua.j1 kq RC Ra Ja Ma Oa Qa=some r)∧qa (kq ≤ k1)∧qa (wc.heap[Fa]? = some (.cells #[(.slice Ib Ra.length Gb),.int .i64 Ja,.int .i64 Ma,.int .i64 Oa,(.slice qc Qa.length dc)] 30 (0,0)))∧qa (Below w.heap.size w wc))
    case first =>
     have H:=HC9.out
     clear HC9
     replace H:=Option.bind_eq_some_iff.mp H
     obtain ⟨t104,JJ,H⟩:=H
     replace H:(if t104=true then ((jb.f Ma 0 20).bind fun t105=>(if t105=true then ((jb.f Ja 0 6).bind fun t106=>(if t106=true then (if Ja > Ma then (Ua.j1 k1 true Ra Ja Ma Oa Qa) else ((jb.f Oa Ma 1000).bind fun t107=>(if t107=true then ((jb.f (Qa.length:Int) 1 300).bind fun t108=>(Ua.j1 k1 (!t108) Ra Ja Ma Oa Qa)) else (Ua.j1 k1 true Ra Ja Ma Oa Qa)))) else (Ua.j1 k1 true Ra Ja Ma Oa Qa))) else (Ua.j1 k1 true Ra Ja Ma Oa Qa))) else (Ua.j1 k1 true Ra Ja Ma Oa Qa))=some r:=H
     have UO:=qa.mk JJ
     clear JJ
     by_cases c12:t104=true
     ·subst c12
      have H1:((jb.f Ma 0 20).bind fun t105=>(if t105=true then ((jb.f Ja 0 6).bind fun t106=>(if t106=true then (if Ja > Ma then (Ua.j1 k1 true Ra Ja Ma Oa Qa) else ((jb.f Oa Ma 1000).bind fun t107=>(if t107=true then ((jb.f (Qa.length:Int) 1 300).bind fun t108=>(Ua.j1 k1 (!t108) Ra Ja Ma Oa Qa)) else (Ua.j1 k1 true Ra Ja Ma Oa Qa)))) else (Ua.j1 k1 true Ra Ja Ma Oa Qa))) else (Ua.j1 k1 true Ra Ja Ma Oa Qa)))=some r:=by rw [if_pos rfl] at H;exact H
      clear H
      have H:=H1
      clear H1
      replace H:=Option.bind_eq_some_iff.mp H
      obtain ⟨t105,IJ,H⟩:=H
      replace H:(if t105=true then ((jb.f Ja 0 6).bind fun t106=>(if t106=true then (if Ja > Ma then (Ua.j1 k1 true Ra Ja Ma Oa Qa) else ((jb.f Oa Ma 1000).bind fun t107=>(if t107=true then ((jb.f (Qa.length:Int) 1 300).bind fun t108=>(Ua.j1 k1 (!t108) Ra Ja Ma Oa Qa)) else (Ua.j1 k1 true Ra Ja Ma Oa Qa)))) else (Ua.j1 k1 true Ra Ja Ma Oa Qa))) else (Ua.j1 k1 true Ra Ja Ma Oa Qa))=some r:=H
      have wR:=qa.mk IJ
      clear IJ
      by_cases c14:t105=true
      ·subst c14
       have H1:((jb.f Ja 0 6).bind fun t106=>(if t106=true then (if Ja > Ma then (Ua.j1 k1 true Ra Ja Ma Oa Qa) else ((jb.f Oa Ma 1000).bind fun t107=>(if t107=true then ((jb.f (Qa.length:Int) 1 300).bind fun t108=>(Ua.j1 k1 (!t108) Ra Ja Ma Oa Qa)) else (Ua.j1 k1 true Ra Ja Ma Oa Qa)))) else (Ua.j1 k1 true Ra Ja Ma Oa Qa)))=some r:=by rw [if_pos rfl] at H;exact H
       clear H
       have H:=H1
       clear H1
       replace H:=Option.bind_eq_some_iff.mp H
       obtain ⟨t106,YX,H⟩:=H
       replace H:(if t106=true then (if Ja > Ma then (Ua.j1 k1 true Ra Ja Ma Oa Qa) else ((jb.f Oa Ma 1000).bind fun t107=>(if t107=true then ((jb.f (Qa.length:Int) 1 300).bind fun t108=>(Ua.j1 k1 (!t108) Ra Ja Ma Oa Qa)) else (Ua.j1 k1 true Ra Ja Ma Oa Qa)))) else (Ua.j1 k1 true Ra Ja Ma Oa Qa))=some r:=H
       have j9:=qa.mk YX
       clear YX
       by_cases c16:t106=true
       ·subst c16
        have H1:(if Ja > Ma then (Ua.j1 k1 true Ra Ja Ma Oa Qa) else ((jb.f Oa Ma 1000).bind fun t107=>(if t107=true then ((jb.f (Qa.length:Int) 1 300).bind fun t108=>(Ua.j1 k1 (!t108) Ra Ja Ma Oa Qa)) else (Ua.j1 k1 true Ra Ja Ma Oa Qa))))=some r:=by rw [if_pos rfl] at H;exact H
        clear H
        have H:=H1
        clear H1
        by_cases c17:Ja > Ma
        ·rw [if_pos c17] at H
         have ux:decide (Ma < Ja)=true:=decide_eq_true c17
         clear c17
         (first|rw [ux]|(simp only [Za,gb];rw [ux])|skip)
         have H':=qa.mk H
         clear H
         have Eo:wr.cell? ⟨Fa,0,none⟩=some (.slice Ib Ra.length Gb):=(ga ua.out 0).trans rfl
         have Co:wr.cell? ⟨Fa,1,none⟩=some (.int .i64 Ja):=(ga ua.out 1).trans rfl
         have Bo:wr.cell? ⟨Fa,2,none⟩=some (.int .i64 Ma):=(ga ua.out 2).trans rfl
         have Ao:wr.cell? ⟨Fa,3,none⟩=some (.int .i64 Oa):=(ga ua.out 3).trans rfl
         have zo:wr.cell? ⟨Fa,4,none⟩=some (.slice qc Qa.length dc):=(ga ua.out 4).trans rfl
         have qo:=aa ua.out 0
         have oo:=aa ua.out 1
         have mo:=aa ua.out 2
         have ko:=aa ua.out 3
         have jo:=aa ua.out 4
         go_wp2_with (first|((with_reducible refine Bb (f:=54) rfl ?_);refine jd (some 23) rfl rfl Try.func54 (by kernel_rfl) rfl #[.int .i64 (Ra.length:Int),.int .i64 1,.int .i64 4] rfl (by (try simp only [List.map_toArray,List.map_cons,List.map_nil]);first|done|rfl|(simp only [List.length_drop,List.length_take];rfl)) ?_;(with_reducible refine (jb.calls (Ra.length:Int) 1 4 true _ UO.out).mono ?_);rintro e w' ⟨rfl,⟨nd,rfl⟩⟩;refine ⟨_,rfl,?_⟩)|(go_at_call 54;(with_reducible refine (jb.calls Ma 0 20 true _ wR.out).mono ?_);rintro e w' ⟨rfl,⟨nd,rfl⟩⟩)|(go_at_call 54;(with_reducible refine (jb.calls Ja 0 6 true _ j9.out).mono ?_);rintro e w' ⟨rfl,⟨nd,rfl⟩⟩))
         go_meet
         case rel=>exact ⟨_,(true),(by first|rfl|(simp;done)|(simp [*];done)),H',⟨by have:=We.out;first|omega|exact Nat.le_refl _⟩,⟨by (with_reducible repeat (first|refine Ea ?_ _|refine Ga ?_|refine Da ?_ _));exact ua.out⟩,⟨by repeat (first|(with_reducible first|exact HB.out|apply ia|apply ja|apply za|refine Aa ?_ Va.out)|exact HB.out)⟩⟩
        ·rw [if_neg c17] at H
         have ux:decide (Ma < Ja)=false:=decide_eq_false c17
         clear c17
         (first|rw [ux]|(simp only [Za,gb];rw [ux])|skip)
         replace H:=Option.bind_eq_some_iff.mp H
         obtain ⟨t107,WX,H⟩:=H
         replace H:(if t107=true then ((jb.f (Qa.length:Int) 1 300).bind fun t108=>(Ua.j1 k1 (!t108) Ra Ja Ma Oa Qa)) else (Ua.j1 k1 true Ra Ja Ma Oa Qa))=some r:=H
         have A19:=qa.mk WX
         clear WX
         by_cases c20:t107=true
         ·subst c20
          have H1:((jb.f (Qa.length:Int) 1 300).bind fun t108=>(Ua.j1 k1 (!t108) Ra Ja Ma Oa Qa))=some r:=by rw [if_pos rfl] at H;exact H
          clear H
          have H:=H1
          clear H1
          replace H:=Option.bind_eq_some_iff.mp H
          obtain ⟨t108,UX,H⟩:=H
          replace H:(Ua.j1 k1 (!t108) Ra Ja Ma Oa Qa)=some r:=H
          have A21:=qa.mk UX
          clear UX
          have H':=qa.mk H
          clear H
          have Xs:wr.cell? ⟨Fa,0,none⟩=some (.slice Ib Ra.length Gb):=(ga ua.out 0).trans rfl
          have Ws:wr.cell? ⟨Fa,1,none⟩=some (.int .i64 Ja):=(ga ua.out 1).trans rfl
          have Vs:wr.cell? ⟨Fa,2,none⟩=some (.int .i64 Ma):=(ga ua.out 2).trans rfl
          have Us:wr.cell? ⟨Fa,3,none⟩=some (.int .i64 Oa):=(ga ua.out 3).trans rfl
          have Ts:wr.cell? ⟨Fa,4,none⟩=some (.slice qc Qa.length dc):=(ga ua.out 4).trans rfl
          have Bs:=aa ua.out 0
          have js:=aa ua.out 1
          have Zr:=aa ua.out 2
          have Yr:=aa ua.out 3
          have Xr:=aa ua.out 4
          go_wp2_with (first|((with_reducible refine Bb (f:=54) rfl ?_);refine jd (some 23) rfl rfl Try.func54 (by kernel_rfl) rfl #[.int .i64 (Ra.length:Int),.int .i64 1,.int .i64 4] rfl (by (try simp only [List.map_toArray,List.map_cons,List.map_nil]);first|done|rfl|(simp only [List.length_drop,List.length_take];rfl)) ?_;(with_reducible refine (jb.calls (Ra.length:Int) 1 4 true _ UO.out).mono ?_);rintro e w' ⟨rfl,⟨nd,rfl⟩⟩;refine ⟨_,rfl,?_⟩)|(go_at_call 54;(with_reducible refine (jb.calls Ma 0 20 true _ wR.out).mono ?_);rintro e w' ⟨rfl,⟨nd,rfl⟩⟩)|(go_at_call 54;(with_reducible refine (jb.calls Ja 0 6 true _ j9.out).mono ?_);rintro e w' ⟨rfl,⟨nd,rfl⟩⟩)|(go_at_call 54;(with_reducible refine (jb.calls Oa Ma 1000 true _ A19.out).mono ?_);rintro e w' ⟨rfl,⟨nd,rfl⟩⟩)|(go_at_call 54;(with_reducible refine (jb.calls (Qa.length:Int) 1 300 t108 _ A21.out).mono ?_);rintro e w' ⟨rfl,⟨nd,rfl⟩⟩))
          go_meet
          case rel=>exact ⟨_,(!t108),(by first|rfl|(simp;done)|(simp [*];done)),H',⟨by have:=We.out;first|omega|exact Nat.le_refl _⟩,⟨by (with_reducible repeat (first|refine Ea ?_ _|refine Ga ?_|refine Da ?_ _));exact ua.out⟩,⟨by repeat (first|(with_reducible first|exact HB.out|apply ia|apply ja|apply za|refine Aa ?_ Va.out)|exact HB.out)⟩⟩
         ·replace c20:=Bool.eq_false_iff.mpr c20
          subst c20
          have H1:(Ua.j1 k1 true Ra Ja Ma Oa Qa)=some r:=by rw [if_neg (show ¬ (false=true) by decide)] at H;exact H
          clear H
          have H:=H1
          clear H1
          have H':=qa.mk H
          clear H
          have Mi:wr.cell? ⟨Fa,0,none⟩=some (.slice Ib Ra.length Gb):=(ga ua.out 0).trans rfl
          have Li:wr.cell? ⟨Fa,1,none⟩=some (.int .i64 Ja):=(ga ua.out 1).trans rfl
          have Tm:wr.cell? ⟨Fa,2,none⟩=some (.int .i64 Ma):=(ga ua.out 2).trans rfl
          have Sm:wr.cell? ⟨Fa,3,none⟩=some (.int .i64 Oa):=(ga ua.out 3).trans rfl
          have Rm:wr.cell? ⟨Fa,4,none⟩=some (.slice qc Qa.length dc):=(ga ua.out 4).trans rfl
          have Ii:=aa ua.out 0
          have Hi:=aa ua.out 1
          have Fm:=aa ua.out 2
          have Em:=aa ua.out 3
          have Dm:=aa ua.out 4
          go_wp2_with (first|((with_reducible refine Bb (f:=54) rfl ?_);refine jd (some 23) rfl rfl Try.func54 (by kernel_rfl) rfl #[.int .i64 (Ra.length:Int),.int .i64 1,.int .i64 4] rfl (by (try simp only [List.map_toArray,List.map_cons,List.map_nil]);first|done|rfl|(simp only [List.length_drop,List.length_take];rfl)) ?_;(with_reducible refine (jb.calls (Ra.length:Int) 1 4 true _ UO.out).mono ?_);rintro e w' ⟨rfl,⟨nd,rfl⟩⟩;refine ⟨_,rfl,?_⟩)|(go_at_call 54;(with_reducible refine (jb.calls Ma 0 20 true _ wR.out).mono ?_);rintro e w' ⟨rfl,⟨nd,rfl⟩⟩)|(go_at_call 54;(with_reducible refine (jb.calls Ja 0 6 true _ j9.out).mono ?_);rintro e w' ⟨rfl,⟨nd,rfl⟩⟩)|(go_at_call 54;(with_reducible refine (jb.calls Oa Ma 1000 false _ A19.out).mono ?_);rintro e w' ⟨rfl,⟨nd,rfl⟩⟩))
          go_meet
          case rel=>exact ⟨_,(true),(by first|rfl|(simp;done)|(simp [*];done)),H',⟨by have:=We.out;first|omega|exact Nat.le_refl _⟩,⟨by (with_reducible repeat (first|refine Ea ?_ _|refine Ga ?_|refine Da ?_ _));exact ua.out⟩,⟨by repeat (first|(with_reducible first|exact HB.out|apply ia|apply ja|apply za|refine Aa ?_ Va.out)|exact HB.out)⟩⟩
       ·replace c16:=Bool.eq_false_iff.mpr c16
        subst c16
        have H1:(Ua.j1 k1 true Ra Ja Ma Oa Qa)=some r:=by rw [if_neg (show ¬ (false=true) by decide)] at H;exact H
        clear H
        have H:=H1
        clear H1
        have H':=qa.mk H
        clear H
        have nk:wr.cell? ⟨Fa,0,none⟩=some (.slice Ib Ra.length Gb):=(ga ua.out 0).trans rfl
        have jk:wr.cell? ⟨Fa,1,none⟩=some (.int .i64 Ja):=(ga ua.out 1).trans rfl
        have Cq:wr.cell? ⟨Fa,2,none⟩=some (.int .i64 Ma):=(ga ua.out 2).trans rfl
        have Bq:wr.cell? ⟨Fa,3,none⟩=some (.int .i64 Oa):=(ga ua.out 3).trans rfl
        have Aq:wr.cell? ⟨Fa,4,none⟩=some (.slice qc Qa.length dc):=(ga ua.out 4).trans rfl
        have ck:=aa ua.out 0
        have bk:=aa ua.out 1
        have lq:=aa ua.out 2
        have jq:=aa ua.out 3
        have iq:=aa ua.out 4
        go_wp2_with (first|((with_reducible refine Bb (f:=54) rfl ?_);refine jd (some 23) rfl rfl Try.func54 (by kernel_rfl) rfl #[.int .i64 (Ra.length:Int),.int .i64 1,.int .i64 4] rfl (by (try simp only [List.map_toArray,List.map_cons,List.map_nil]);first|done|rfl|(simp only [List.length_drop,List.length_take];rfl)) ?_;(with_reducible refine (jb.calls (Ra.length:Int) 1 4 true _ UO.out).mono ?_);rintro e w' ⟨rfl,⟨nd,rfl⟩⟩;refine ⟨_,rfl,?_⟩)|(go_at_call 54;(with_reducible refine (jb.calls Ma 0 20 true _ wR.out).mono ?_);rintro e w' ⟨rfl,⟨nd,rfl⟩⟩)|(go_at_call 54;(with_reducible refine (jb.calls Ja 0 6 false _ j9.out).mono ?_);rintro e w' ⟨rfl,⟨nd,rfl⟩⟩))
        go_meet
        case rel=>exact ⟨_,(true),(by first|rfl|(simp;done)|(simp [*];done)),H',⟨by have:=We.out;first|omega|exact Nat.le_refl _⟩,⟨by (with_reducible repeat (first|refine Ea ?_ _|refine Ga ?_|refine Da ?_ _));exact ua.out⟩,⟨by repeat (first|(with_reducible first|exact HB.out|apply ia|apply ja|apply za|refine Aa ?_ Va.out)|exact HB.out)⟩⟩
      ·replace c14:=Bool.eq_false_iff.mpr c14
       subst c14
       have H1:(Ua.j1 k1 true Ra Ja Ma Oa Qa)=some r:=by rw [if_neg (show ¬ (false=true) by decide)] at H;exact H
       clear H
       have H:=H1
       clear H1
       have H':=qa.mk H
       clear H
       have zq:wr.cell? ⟨Fa,0,none⟩=some (.slice Ib Ra.length Gb):=(ga ua.out 0).trans rfl
       have yq:wr.cell? ⟨Fa,1,none⟩=some (.int .i64 Ja):=(ga ua.out 1).trans rfl
       have xq:wr.cell? ⟨Fa,2,none⟩=some (.int .i64 Ma):=(ga ua.out 2).trans rfl
       have wq:wr.cell? ⟨Fa,3,none⟩=some (.int .i64 Oa):=(ga ua.out 3).trans rfl
       have vq:wr.cell? ⟨Fa,4,none⟩=some (.slice qc Qa.length dc):=(ga ua.out 4).trans rfl
       have gq:=aa ua.out 0
       have fq:=aa ua.out 1
       have cq:=aa ua.out 2
       have bq:=aa ua.out 3
       have aq:=aa ua.out 4
       go_wp2_with (first|((with_reducible refine Bb (f:=54) rfl ?_);refine jd (some 23) rfl rfl Try.func54 (by kernel_rfl) rfl #[.int .i64 (Ra.length:Int),.int .i64 1,.int .i64 4] rfl (by (try simp only [List.map_toArray,List.map_cons,List.map_nil]);first|done|rfl|(simp only [List.length_drop,List.length_take];rfl)) ?_;(with_reducible refine (jb.calls (Ra.length:Int) 1 4 true _ UO.out).mono ?_);rintro e w' ⟨rfl,⟨nd,rfl⟩⟩;refine ⟨_,rfl,?_⟩)|(go_at_call 54;(with_reducible refine (jb.calls Ma 0 20 false _ wR.out).mono ?_);rintro e w' ⟨rfl,⟨nd,rfl⟩⟩))
       go_meet
       case rel=>exact ⟨_,(true),(by first|rfl|(simp;done)|(simp [*];done)),H',⟨by have:=We.out;first|omega|exact Nat.le_refl _⟩,⟨by (with_reducible repeat (first|refine Ea ?_ _|refine Ga ?_|refine Da ?_ _));exact ua.out⟩,⟨by repeat (first|(with_reducible first|exact HB.out|apply ia|apply ja|apply za|refine Aa ?_ Va.out)|exact HB.out)⟩⟩
     ·replace c12:=Bool.eq_false_iff.mpr c12
      subst c12
      have H1:(Ua.j1 k1 true Ra Ja Ma Oa Qa)=some r:=by rw [if_neg (show ¬ (false=true) by decide)] at H;exact H
      clear H
      have H:=H1
      clear H1
      have H':=qa.mk H
      clear H
      have Ss:wr.cell? ⟨Fa,0,none⟩=some (.slice Ib Ra.length Gb):=(ga ua.out 0).trans rfl
      have Rs:wr.cell? ⟨Fa,1,none⟩=some (.int .i64 Ja):=(ga ua.out 1).trans rfl
      have Qs:wr.cell? ⟨Fa,2,none⟩=some (.int .i64 Ma):=(ga ua.out 2).trans rfl
      have Ns:wr.cell? ⟨Fa,3,none⟩=some (.int .i64 Oa):=(ga ua.out 3).trans rfl
      have Ms:wr.cell? ⟨Fa,4,none⟩=some (.slice qc Qa.length dc):=(ga ua.out 4).trans rfl
      have Wr:=aa ua.out 0
      have Vr:=aa ua.out 1
      have Ur:=aa ua.out 2
      have Tr:=aa ua.out 3
      have Sr:=aa ua.out 4
      go_wp2_with (first|((with_reducible refine Bb (f:=54) rfl ?_);refine jd (some 23) rfl rfl Try.func54 (by kernel_rfl) rfl #[.int .i64 (Ra.length:Int),.int .i64 1,.int .i64 4] rfl (by (try simp only [List.map_toArray,List.map_cons,List.map_nil]);first|done|rfl|(simp only [List.length_drop,List.length_take];rfl)) ?_;(with_reducible refine (jb.calls (Ra.length:Int) 1 4 false _ UO.out).mono ?_);rintro e w' ⟨rfl,⟨nd,rfl⟩⟩;refine ⟨_,rfl,?_⟩))
      go_meet
      case rel=>exact ⟨_,(true),(by first|rfl|(simp;done)|(simp [*];done)),H',⟨by have:=We.out;first|omega|exact Nat.le_refl _⟩,⟨by (with_reducible repeat (first|refine Ea ?_ _|refine Ga ?_|refine Da ?_ _));exact ua.out⟩,⟨by repeat (first|(with_reducible first|exact HB.out|apply ia|apply ja|apply za|refine Aa ?_ Va.out)|exact HB.out)⟩⟩
    case rest =>
     clear HC9
     try clear c1
     try clear p1
     try clear q1
     try clear hx1
     try clear c2
     try clear p2
     try clear c3
     try clear Uh
     try clear c4
     try clear Mh
     try clear c5
     try clear c6
     try clear p6
     try clear xH
     try clear wH
     try clear hx10
     try clear c12
     try clear c14
     try clear c16
     try clear c17
     try clear ux
     try clear c20
     try clear cn
     try clear bn
     try clear Zm
     try clear Ym
     try clear Xm
     try clear Eo
     try clear Co
     try clear Bo
     try clear Ao
     try clear zo
     try clear Xs
     try clear Ws
     try clear Vs
     try clear Us
     try clear Ts
     try clear Mi
     try clear Li
     try clear Tm
     try clear Sm
     try clear Rm
     try clear nk
     try clear jk
     try clear Cq
     try clear Bq
     try clear Aq
     try clear zq
     try clear yq
     try clear xq
     try clear wq
     try clear vq
     try clear Ss
     try clear Rs
     try clear Qs
     try clear Ns
     try clear Ms
     try clear yo
     try clear xo
     try clear wo
     try clear vo
     try clear uo
     try clear iC
     try clear gC
     try clear fC
     try clear eC
     try clear cC
     try clear Om
     try clear Nm
     try clear Mm
     try clear Lm
     try clear Km
     try clear qo
     try clear oo
     try clear mo
     try clear ko
     try clear jo
     try clear Bs
     try clear js
     try clear Zr
     try clear Yr
     try clear Xr
     try clear Ii
     try clear Hi
     try clear Fm
     try clear Em
     try clear Dm
     try clear ck
     try clear bk
     try clear lq
     try clear jq
     try clear iq
     try clear gq
     try clear fq
     try clear cq
     try clear bq
     try clear aq
     try clear Wr
     try clear Vr
     try clear Ur
     try clear Tr
     try clear Sr
     try clear fo
     try clear Zn
     try clear Yn
     try clear Xn
     try clear Wn
     try clear VB
     try clear UB
     try clear TB
     try clear SB
     try clear RB
     try clear Ee
     try clear ei
     try clear p2
     try clear di
     obtain ⟨kq,RC,rfl,HA,HJ8,ua,HB⟩:=hcut
     cases kq with
     | zero=>exact absurd HA.out (by simp [Ua.j1])
     | succ kj8 =>
      have H:=HA.out
      clear HA
      simp only [Ua.j1] at H
      by_cases c27:RC=true
      ·subst c27
       have H1:(some false)=some r:=by rw [if_pos rfl] at H;exact H
       clear H
       have H:=H1
       clear H1
       obtain rfl:=Option.some.inj H
       go_wp2
       go_ret
       exact ⟨by first|rfl|(simp [La,Ka] <;> rfl)|(simp [*,La,Ka] <;> rfl),by repeat (first|(with_reducible first|exact HB.out|apply ia|apply ja|apply za|refine Aa ?_ Va.out)|exact HB.out)⟩
      ·replace c27:=Bool.eq_false_iff.mpr c27
       subst c27
       have H1:(Ua.l1 kj8 0 0 Ra Ja Ma Oa Qa)=some r:=by rw [if_neg (show ¬ (false=true) by decide)] at H;exact H
       clear H
       have H:=H1
       clear H1
       have H':=qa.mk H
       clear H
       go_wp2
       go_loopg [4,5] kj8 (fun kq v4 v5 w'=>∃ (ny:Int) (Me:Int),v4 = .int .i64 ny∧v5 = .int .i64 Me∧qa (Ua.l1 kq ny Me Ra Ja Ma Oa Qa=some r)∧qa (kq ≤ kj8)∧qa (w'.heap[Fa]? = some (.cells #[(.slice Ib Ra.length Gb),.int .i64 Ja,.int .i64 Ma,.int .i64 Oa,(.slice qc Qa.length dc)] 30 (0,0)))∧qa (Below w.heap.size w w'))
       case atStart=>exact ⟨(0),(0),(by first|rfl|(simp;done)|(simp [*];done)),(by first|rfl|(simp;done)|(simp [*];done)),H',⟨Nat.le_refl _⟩,⟨by (with_reducible repeat (first|refine Ea ?_ _|refine Ga ?_|refine Da ?_ _));exact ua.out⟩,⟨by repeat (first|(with_reducible first|exact HB.out|apply ia|apply ja|apply za|refine Aa ?_ Va.out)|exact HB.out)⟩⟩
       case round =>
        clear H'
        try clear c1
        try clear p1
        try clear q1
        try clear hx1
        try clear c2
        try clear p2
        try clear c3
        try clear Uh
        try clear c4
        try clear Mh
        try clear c5
        try clear c6
        try clear p6
        try clear xH
        try clear wH
        try clear hx10
        try clear c12
        try clear c14
        try clear c16
        try clear c17
        try clear ux
        try clear c20
        try clear c27
        try clear cn
        try clear bn
        try clear Zm
        try clear Ym
        try clear Xm
        try clear Eo
        try clear Co
        try clear Bo
        try clear Ao
        try clear zo
        try clear Xs
        try clear Ws
        try clear Vs
        try clear Us
        try clear Ts
        try clear Mi
        try clear Li
        try clear Tm
        try clear Sm
        try clear Rm
        try clear nk
        try clear jk
        try clear Cq
        try clear Bq
        try clear Aq
        try clear zq
        try clear yq
        try clear xq
        try clear wq
        try clear vq
        try clear Ss
        try clear Rs
        try clear Qs
        try clear Ns
        try clear Ms
        try clear yo
        try clear xo
        try clear wo
        try clear vo
        try clear uo
        try clear iC
        try clear gC
        try clear fC
        try clear eC
        try clear cC
        try clear Om
        try clear Nm
        try clear Mm
        try clear Lm
        try clear Km
        try clear qo
        try clear oo
        try clear mo
        try clear ko
        try clear jo
        try clear Bs
        try clear js
        try clear Zr
        try clear Yr
        try clear Xr
        try clear Ii
        try clear Hi
        try clear Fm
        try clear Em
        try clear Dm
        try clear ck
        try clear bk
        try clear lq
        try clear jq
        try clear iq
        try clear gq
        try clear fq
        try clear cq
        try clear bq
        try clear aq
        try clear Wr
        try clear Vr
        try clear Ur
        try clear Tr
        try clear Sr
        try clear fo
        try clear Zn
        try clear Yn
        try clear Xn
        try clear Wn
        try clear VB
        try clear UB
        try clear TB
        try clear SB
        try clear RB
        try clear Ee
        try clear p1
        try clear xH
        try clear ei
        try clear p2
        try clear p6
        try clear q1
        try clear wH
        try clear di
        (try clear HA)
        (try clear HK3)
        (try clear ua)
        (try clear HB)
        obtain ⟨ny,Me,rfl,rfl,HA,HK3,ua,HB⟩:=hrel
        cases gk with
        | zero=>exact absurd HA.out (by simp [Ua.l1])
        | succ k3 =>
         have H:=HA.out
         clear HA
         simp only [Ua.l1] at H
         by_cases c28:Me < (Qa.length:Int)
         ·rw [if_pos c28] at H
          have fX:decide (Me < (Qa.length:Int))=true:=decide_eq_true c28
          clear c28
          by_cases c29:0 ≤ Me
          ·rw [if_pos c29] at H
           have qx:decide (0 ≤ Me)=true:=decide_eq_true c29
           clear c29
           by_cases c30:(wrap64 (ny + (((mb Qa Me).f0).length:Int))) > 1000
           ·rw [if_pos c30] at H
            have fG:decide (1000 < (wrap64 (ny + (((mb Qa Me).f0).length:Int))))=true:=decide_eq_true c30
            clear c30
            obtain rfl:=Option.some.inj H
            have Uv:wr.cell? ⟨Fa,0,none⟩=some (.slice Ib Ra.length Gb):=(ga ua.out 0).trans rfl
            have Tv:wr.cell? ⟨Fa,1,none⟩=some (.int .i64 Ja):=(ga ua.out 1).trans rfl
            have Sv:wr.cell? ⟨Fa,2,none⟩=some (.int .i64 Ma):=(ga ua.out 2).trans rfl
            have Rv:wr.cell? ⟨Fa,3,none⟩=some (.int .i64 Oa):=(ga ua.out 3).trans rfl
            have Qv:wr.cell? ⟨Fa,4,none⟩=some (.slice qc Qa.length dc):=(ga ua.out 4).trans rfl
            have Su:=aa ua.out 0
            have Ru:=aa ua.out 1
            have Qu:=aa ua.out 2
            have Pu:=aa ua.out 3
            have Ou:=aa ua.out 4
            have Lw:0 ≤ (Me:Int):=of_decide_eq_true (by first|(with_reducible assumption)|assumption)
            have Kw:Me < (Qa.length:Int):=of_decide_eq_true (by first|(with_reducible assumption)|assumption)
            obtain ⟨dh,KJ,oJ,aJ,tj,sj,rj,qj,nj,zm,Am⟩:=Wi Tf.out Me Lw Kw
            cases aJ
            replace tj:=(HB.out.cell (World.block_lt_of_cell? w _ tj)).trans tj
            replace sj:=(HB.out.cell (World.block_lt_of_cell? w _ sj)).trans sj
            replace rj:=(HB.out.cell (World.block_lt_of_cell? w _ rj)).trans rj
            replace qj:=(HB.out.cell (World.block_lt_of_cell? w _ qj)).trans qj
            replace nj:=(HB.out.cell (World.block_lt_of_cell? w _ nj)).trans nj
            have nG:=qa.mk Am
            have oG:=qa.mk zm
            clear Am zm
            replace Lw:=eq_true Lw
            replace Kw:=eq_true Kw
            try go_wp2
            have Pb:=qa.mk (Ga ua.out)
            have Wb:=qa.mk (za HB.out)
            clear ua
            clear HB
            have ua:=Pb
            have HB:=Wb
            clear Pb Wb
            refine Pg (n:=12) (S:=fun w'=>True) (ds:=[]) #[false,false,false,false,false,false,false,false,false,false,false,false] (by kernel_rfl) rfl rfl trivial (fun hHeld=>?_);refine nh Ua.uH Ua.DC (fun ef Pn=>?_)
            generalize wr.drew=w32 at ua HB hHeld ⊢
            refine Nb (i:=0) (N:=some 75) (v:=?_) (a':=?_) #[true,false,false,false,false,false,false,false,false,false,false,false] rfl rfl (Oc ef.out (by kernel_rfl)) (fun _ _ _ h=>h) (Or.inl ⟨by rfl,?_⟩) ?_ ?_
            rotate_left
            ·intro w'
             go_simp
             with_reducible rfl
            rotate_left
            ·simp only [Act.put,List.setIfInBounds_toArray,List.set_cons_zero,List.set_cons_succ,Za,gb]
             rfl
            refine Nb (i:=1) (N:=some 76) (v:=?_) (a':=?_) #[true,true,false,false,false,false,false,false,false,false,false,false] rfl rfl (Oc ef.out (by kernel_rfl)) (fun _ _ _ h=>h) (Or.inl ⟨by rfl,?_⟩) ?_ ?_
            rotate_left
            ·intro w'
             go_simp
             with_reducible rfl
            rotate_left
            ·simp only [Act.put,List.setIfInBounds_toArray,List.set_cons_zero,List.set_cons_succ,Za,gb]
             rfl
            refine Nb (i:=2) (N:=some 77) (v:=?_) (a':=?_) #[true,true,true,false,false,false,false,false,false,false,false,false] rfl rfl (Oc ef.out (by kernel_rfl)) (fun _ _ _ h=>h) (Or.inl ⟨by rfl,?_⟩) ?_ ?_
            rotate_left
            ·intro w'
             go_simp
             with_reducible rfl
            rotate_left
            ·simp only [Act.put,List.setIfInBounds_toArray,List.set_cons_zero,List.set_cons_succ,Za,gb]
             rfl
            refine Nb (i:=3) (N:=some 78) (v:=undef) (a':=?_) #[true,true,true,true,false,false,false,false,false,false,false,false] rfl rfl (Oc ef.out (by kernel_rfl)) (fun _ _ _ h=>h) (Or.inr ⟨by rfl,rfl⟩) ?_ ?_
            rotate_left
            ·simp only [Act.put,List.setIfInBounds_toArray,List.set_cons_zero,List.set_cons_succ,Za,gb]
             rfl
            refine Nb (i:=4) (N:=some 79) (v:=undef) (a':=?_) #[true,true,true,true,true,false,false,false,false,false,false,false] rfl rfl (Oc ef.out (by kernel_rfl)) (fun _ _ _ h=>h) (Or.inr ⟨by rfl,rfl⟩) ?_ ?_
            rotate_left
            ·simp only [Act.put,List.setIfInBounds_toArray,List.set_cons_zero,List.set_cons_succ,Za,gb]
             rfl
            refine Nb (i:=5) (N:=some 80) (v:=undef) (a':=?_) #[true,true,true,true,true,true,false,false,false,false,false,false] rfl rfl (Oc ef.out (by kernel_rfl)) (fun _ _ _ h=>h) (Or.inr ⟨by rfl,rfl⟩) ?_ ?_
            rotate_left
            ·simp only [Act.put,List.setIfInBounds_toArray,List.set_cons_zero,List.set_cons_succ,Za,gb]
             rfl
            refine Nb (i:=6) (N:=some 81) (v:=undef) (a':=?_) #[true,true,true,true,true,true,true,false,false,false,false,false] rfl rfl (Oc ef.out (by kernel_rfl)) (fun _ _ _ h=>h) (Or.inr ⟨by rfl,rfl⟩) ?_ ?_
            rotate_left
            ·simp only [Act.put,List.setIfInBounds_toArray,List.set_cons_zero,List.set_cons_succ,Za,gb]
             rfl
            refine Nb (i:=7) (N:=some 82) (v:=undef) (a':=?_) #[true,true,true,true,true,true,true,true,false,false,false,false] rfl rfl (Oc ef.out (by kernel_rfl)) (fun _ _ _ h=>h) (Or.inr ⟨by rfl,rfl⟩) ?_ ?_
            rotate_left
            ·simp only [Act.put,List.setIfInBounds_toArray,List.set_cons_zero,List.set_cons_succ,Za,gb]
             rfl
            refine Nb (i:=8) (N:=some 83) (v:=undef) (a':=?_) #[true,true,true,true,true,true,true,true,true,false,false,false] rfl rfl (Oc ef.out (by kernel_rfl)) (fun _ _ _ h=>h) (Or.inr ⟨by rfl,rfl⟩) ?_ ?_
            rotate_left
            ·simp only [Act.put,List.setIfInBounds_toArray,List.set_cons_zero,List.set_cons_succ,Za,gb]
             rfl
            refine Nb (i:=9) (N:=some 84) (v:=undef) (a':=?_) #[true,true,true,true,true,true,true,true,true,true,false,false] rfl rfl (Oc ef.out (by kernel_rfl)) (fun _ _ _ h=>h) (Or.inr ⟨by rfl,rfl⟩) ?_ ?_
            rotate_left
            ·simp only [Act.put,List.setIfInBounds_toArray,List.set_cons_zero,List.set_cons_succ,Za,gb]
             rfl
            refine Nb (i:=10) (N:=some 85) (v:=undef) (a':=?_) #[true,true,true,true,true,true,true,true,true,true,true,false] rfl rfl (Oc ef.out (by kernel_rfl)) (fun _ _ _ h=>h) (Or.inr ⟨by rfl,rfl⟩) ?_ ?_
            rotate_left
            ·simp only [Act.put,List.setIfInBounds_toArray,List.set_cons_zero,List.set_cons_succ,Za,gb]
             rfl
            refine Nb (i:=11) (N:=some 86) (v:=?_) (a':=?_) #[true,true,true,true,true,true,true,true,true,true,true,true] rfl rfl (Oc ef.out (by kernel_rfl)) (fun _ _ _ h=>h) (Or.inl ⟨by rfl,?_⟩) ?_ ?_
            rotate_left
            ·intro w'
             go_simp
             with_reducible rfl
            rotate_left
            ·simp only [Act.put,List.setIfInBounds_toArray,List.set_cons_zero,List.set_cons_succ,Za,gb]
             rfl
            refine Yh (Oj ef.out (by kernel_rfl)) ?_
            try go_wp2
            go_ret
            exact ⟨by first|rfl|(simp [La,Ka] <;> rfl)|(simp [*,La,Ka] <;> rfl),by repeat (first|(with_reducible first|exact HB.out|apply ia|apply ja|apply za|refine Aa ?_ Va.out)|exact HB.out)⟩
           ·rw [if_neg c30] at H
            have fG:decide (1000 < (wrap64 (ny + (((mb Qa Me).f0).length:Int))))=false:=decide_eq_false c30
            clear c30
            replace H:=Option.bind_eq_some_iff.mp H
            obtain ⟨t111,SX,H⟩:=H
            replace H:(if t111=true then (Ua.l1 k3 (wrap64 (ny + (((mb Qa Me).f0).length:Int))) (wrap64 (Me + 1)) Ra Ja Ma Oa Qa) else (some false))=some r:=H
            have A33:=qa.mk SX
            clear SX
            by_cases c34:t111=true
            ·subst c34
             have H1:(Ua.l1 k3 (wrap64 (ny + (((mb Qa Me).f0).length:Int))) (wrap64 (Me + 1)) Ra Ja Ma Oa Qa)=some r:=by rw [if_pos rfl] at H;exact H
             clear H
             have H:=H1
             clear H1
             have H':=qa.mk H
             clear H
             have Ls:wr.cell? ⟨Fa,0,none⟩=some (.slice Ib Ra.length Gb):=(ga ua.out 0).trans rfl
             have Ks:wr.cell? ⟨Fa,1,none⟩=some (.int .i64 Ja):=(ga ua.out 1).trans rfl
             have yF:wr.cell? ⟨Fa,2,none⟩=some (.int .i64 Ma):=(ga ua.out 2).trans rfl
             have xF:wr.cell? ⟨Fa,3,none⟩=some (.int .i64 Oa):=(ga ua.out 3).trans rfl
             have wF:wr.cell? ⟨Fa,4,none⟩=some (.slice qc Qa.length dc):=(ga ua.out 4).trans rfl
             have Qr:=aa ua.out 0
             have Pr:=aa ua.out 1
             have eE:=aa ua.out 2
             have cE:=aa ua.out 3
             have bE:=aa ua.out 4
             have Lw:0 ≤ (Me:Int):=of_decide_eq_true (by first|(with_reducible assumption)|assumption)
             have Kw:Me < (Qa.length:Int):=of_decide_eq_true (by first|(with_reducible assumption)|assumption)
             obtain ⟨dh,KJ,oJ,aJ,tj,sj,rj,qj,nj,zm,Am⟩:=Wi Tf.out Me Lw Kw
             cases aJ
             replace tj:=(HB.out.cell (World.block_lt_of_cell? w _ tj)).trans tj
             replace sj:=(HB.out.cell (World.block_lt_of_cell? w _ sj)).trans sj
             replace rj:=(HB.out.cell (World.block_lt_of_cell? w _ rj)).trans rj
             replace qj:=(HB.out.cell (World.block_lt_of_cell? w _ qj)).trans qj
             replace nj:=(HB.out.cell (World.block_lt_of_cell? w _ nj)).trans nj
             have nG:=qa.mk Am
             have oG:=qa.mk zm
             clear Am zm
             replace Lw:=eq_true Lw
             replace Kw:=eq_true Kw
             try go_wp2
             have Pb:=qa.mk (Ga ua.out)
             have Wb:=qa.mk (za HB.out)
             clear ua
             clear HB
             have ua:=Pb
             have HB:=Wb
             clear Pb Wb
             have AB:0 ≤ (Me:Int):=of_decide_eq_true (by first|(with_reducible assumption)|assumption)
             have yB:Me < (Qa.length:Int):=of_decide_eq_true (by first|(with_reducible assumption)|assumption)
             obtain ⟨pJ,Dx,xx,zQ,jj,ij,gj,fj,ej,Hr,Kr⟩:=Wi Tf.out Me AB yB
             have Uk:=ej
             have Vk:=fj
             have Wk:=gj
             have Xk:=ij
             have Yk:=jj
             obtain rfl:dh=pJ:=(by injection zQ)
             replace jj:=(HB.out.cell (World.block_lt_of_cell? w _ jj)).trans jj
             replace ij:=(HB.out.cell (World.block_lt_of_cell? w _ ij)).trans ij
             replace gj:=(HB.out.cell (World.block_lt_of_cell? w _ gj)).trans gj
             replace fj:=(HB.out.cell (World.block_lt_of_cell? w _ fj)).trans fj
             replace ej:=(HB.out.cell (World.block_lt_of_cell? w _ ej)).trans ej
             have Et:=qa.mk Kr
             have bA:=qa.mk Hr
             clear Kr Hr
             replace AB:=eq_true AB
             replace yB:=eq_true yB
             refine Pg (n:=12) (S:=fun w'=>w'.cell? ⟨Fa,0,none⟩=some (.slice Ib Ra.length Gb)∧w'.cell? ⟨Fa,1,none⟩=some (.int .i64 Ja)∧w'.cell? ⟨Fa,2,none⟩=some (.int .i64 Ma)∧w'.cell? ⟨Fa,3,none⟩=some (.int .i64 Oa)∧w'.cell? ⟨Fa,4,none⟩=some (.slice (some dh) Qa.length dc)∧w'.cell? (dh.add ((Me).toNat * 5))=some (.slice Dx ((mb Qa Me).f0).length xx)∧w'.cell? ⟨(dh.add ((Me).toNat * 5)).block,(dh.add ((Me).toNat * 5)).off + 1,none⟩=some (.int .i64 ((mb Qa Me).f1))∧w'.cell? ⟨(dh.add ((Me).toNat * 5)).block,(dh.add ((Me).toNat * 5)).off + 2,none⟩=some (.int .i64 ((mb Qa Me).f2))∧w'.cell? ⟨(dh.add ((Me).toNat * 5)).block,(dh.add ((Me).toNat * 5)).off + 3,none⟩=some (.int .i64 ((mb Qa Me).f3))∧w'.cell? ⟨(dh.add ((Me).toNat * 5)).block,(dh.add ((Me).toNat * 5)).off + 4,none⟩=some (.int .i64 ((mb Qa Me).f4))) (ds:=[]) #[false,false,false,false,false,false,false,false,false,false,false,false] (by kernel_rfl) rfl rfl ⟨(ga ua.out 0).trans rfl,(ga ua.out 1).trans rfl,(ga ua.out 2).trans rfl,(ga ua.out 3).trans rfl,(ga ua.out 4).trans rfl,((HB.out.cell (World.block_lt_of_cell? w _ Yk)).trans Yk),((HB.out.cell (World.block_lt_of_cell? w _ Xk)).trans Xk),((HB.out.cell (World.block_lt_of_cell? w _ Wk)).trans Wk),((HB.out.cell (World.block_lt_of_cell? w _ Vk)).trans Vk),((HB.out.cell (World.block_lt_of_cell? w _ Uk)).trans Uk)⟩ (fun hHeld=>?_);refine nh Ua.uH Ua.DC (fun ef Pn=>?_)
             generalize wr.drew=fB at ua HB Et jj ij gj fj ej hHeld ⊢
             refine Nb (i:=0) (N:=some 75) (v:=?_) (a':=?_) #[true,false,false,false,false,false,false,false,false,false,false,false] rfl rfl (Oc ef.out (by kernel_rfl)) (fun _ _ _ h=>h) (Or.inl ⟨by rfl,?_⟩) ?_ ?_
             rotate_left
             ·intro w'
              go_simp
              with_reducible rfl
             rotate_left
             ·simp only [Act.put,List.setIfInBounds_toArray,List.set_cons_zero,List.set_cons_succ,Za,gb]
              rfl
             refine Nb (i:=1) (N:=some 76) (v:=?_) (a':=?_) #[true,true,false,false,false,false,false,false,false,false,false,false] rfl rfl (Oc ef.out (by kernel_rfl)) (fun _ _ _ h=>h) (Or.inl ⟨by rfl,?_⟩) ?_ ?_
             rotate_left
             ·intro w'
              go_simp
              with_reducible rfl
             rotate_left
             ·simp only [Act.put,List.setIfInBounds_toArray,List.set_cons_zero,List.set_cons_succ,Za,gb]
              rfl
             refine Nb (i:=2) (N:=some 77) (v:=?_) (a':=?_) #[true,true,true,false,false,false,false,false,false,false,false,false] rfl rfl (Oc ef.out (by kernel_rfl)) (fun _ _ _ h=>h) (Or.inl ⟨by rfl,?_⟩) ?_ ?_
             rotate_left
             ·intro w'
              go_simp
              with_reducible rfl
             rotate_left
             ·simp only [Act.put,List.setIfInBounds_toArray,List.set_cons_zero,List.set_cons_succ,Za,gb]
              rfl
             refine Nb (i:=4) (N:=some 79) (v:=?_) (a':=?_) #[true,true,true,false,true,false,false,false,false,false,false,false] rfl rfl (Oc ef.out (by kernel_rfl)) (fun _ _ _ h=>h) (Or.inl ⟨by rfl,?_⟩) ?_ ?_
             rotate_left
             ·intro w'
              go_simp
              with_reducible rfl
             rotate_left
             ·simp only [Act.put,List.setIfInBounds_toArray,List.set_cons_zero,List.set_cons_succ,Za,gb]
              rfl
             refine Nb (i:=6) (N:=some 81) (v:=?_) (a':=?_) #[true,true,true,false,true,false,true,false,false,false,false,false] rfl rfl (Oc ef.out (by kernel_rfl)) (fun _ _ _ h=>h) (Or.inl ⟨by rfl,?_⟩) ?_ ?_
             rotate_left
             ·intro w'
              go_simp
              with_reducible rfl
             rotate_left
             ·simp only [Act.put,List.setIfInBounds_toArray,List.set_cons_zero,List.set_cons_succ,Za,gb]
              rfl
             refine Jd (i:=3) (N:=some 78) (v:=?_) (a':=?_) #[true,true,true,true,true,false,true,false,false,false,false,false] rfl rfl (Fe ef.out Pn.out (by kernel_rfl)) (fun _ _ _ h=>h) (Or.inl ⟨by rfl,?_⟩) hHeld ?_ ?_
             rotate_left
             ·rintro w' ⟨s0,s1,s2,s3,s4,s5,s6,s7,s8,s9⟩
              go_simp
              with_reducible rfl
             rotate_left
             ·simp only [Act.put,List.setIfInBounds_toArray,List.set_cons_zero,List.set_cons_succ,Za,gb]
              rfl
             refine Jd (i:=5) (N:=some 80) (v:=?_) (a':=?_) #[true,true,true,true,true,true,true,false,false,false,false,false] rfl rfl (Fe ef.out Pn.out (by kernel_rfl)) (fun _ _ _ h=>h) (Or.inl ⟨by rfl,?_⟩) hHeld ?_ ?_
             rotate_left
             ·rintro w' ⟨s0,s1,s2,s3,s4,s5,s6,s7,s8,s9⟩
              go_simp
              with_reducible rfl
             rotate_left
             ·simp only [Act.put,List.setIfInBounds_toArray,List.set_cons_zero,List.set_cons_succ,Za,gb]
              rfl
             refine Nb (i:=7) (N:=some 82) (v:=?_) (a':=?_) #[true,true,true,true,true,true,true,true,false,false,false,false] rfl rfl (Oc ef.out (by kernel_rfl)) (fun _ _ _ h=>h) (Or.inl ⟨by rfl,?_⟩) ?_ ?_
             rotate_left
             ·intro w'
              go_simp
              with_reducible rfl
             rotate_left
             ·simp only [Act.put,List.setIfInBounds_toArray,List.set_cons_zero,List.set_cons_succ,Za,gb]
              rfl
             refine Jd (i:=8) (N:=some 83) (v:=?_) (a':=?_) #[true,true,true,true,true,true,true,true,true,false,false,false] rfl rfl (Fe ef.out Pn.out (by kernel_rfl)) (fun _ _ _ h=>h) (Or.inl ⟨by rfl,?_⟩) hHeld ?_ ?_
             rotate_left
             ·rintro w' ⟨s0,s1,s2,s3,s4,s5,s6,s7,s8,s9⟩
              go_simp
              with_reducible rfl
             rotate_left
             ·simp only [Act.put,List.setIfInBounds_toArray,List.set_cons_zero,List.set_cons_succ,Za,gb]
              rfl
             refine gh (i:=9) (N:=some 84) #[true,true,true,true,true,true,true,true,true,true,false,false] rfl rfl (Mk ef.out (by kernel_rfl)) (by decide) (fun K hK=>?_)
             refine Gn Try.func87 (by kernel_rfl) rfl #[.agg #[.slice Ib Ra.length Gb,.int .i64 Ja,.int .i64 Ma,.int .i64 Oa,.slice (some dh) Qa.length dc],.agg #[.slice Dx ((mb Qa Me).f0).length xx,.int .i64 ((mb Qa Me).f1),.int .i64 ((mb Qa Me).f2),.int .i64 ((mb Qa Me).f3),.int .i64 ((mb Qa Me).f4)]] (by rfl) rfl rfl (by (try simp only [List.map_toArray,List.map_cons,List.map_nil]);first|done|rfl|(simp only [List.length_drop,List.length_take];rfl)) ?_
             with_reducible refine (Fb.calls k3 _ _ Ra Ja Ma Oa _ _ Qa _ _ ((mb Qa Me).f0) ((mb Qa Me).f1) ((mb Qa Me).f2) ((mb Qa Me).f3) ((mb Qa Me).f4) true _ ?side1 ?side2 ?side3 ?side4 ?side5 ?side6 A33.out).mono ?_
             (case side1=>repeat (first|exact (Kd.Yb Ve.out HB.out)|(with_reducible refine Kd.yc ?_ _)|(with_reducible refine Kd.uc ?_ _)|(with_reducible refine Kd.Sc ?_)))
             (case side2=>exact gf.out)
             (case side3=>repeat (first|exact (Kd.Yb Tf.out HB.out)|(with_reducible refine Kd.yc ?_ _)|(with_reducible refine Kd.uc ?_ _)|(with_reducible refine Kd.Sc ?_)))
             (case side4=>exact Yg.out)
             (case side5=>repeat (first|exact (Kd.Yb Et.out HB.out)|(with_reducible refine Kd.yc ?_ _)|(with_reducible refine Kd.uc ?_ _)|(with_reducible refine Kd.Sc ?_)))
             (case side6=>exact bA.out)
             rintro e w37 ⟨rfl,hb⟩
             refine ⟨_,rfl,?_⟩
             have Pb:=qa.mk (Wa (g:=Fa) (o:=.cells #[.slice Ib Ra.length Gb,.int .i64 Ja,.int .i64 Ma,.int .i64 Oa,.slice (some dh) Qa.length dc] 30 (0,0)) (by (with_reducible repeat (first|refine Ea ?_ _|refine Ga ?_|refine Da ?_ _));exact ua.out) hb)
             have Wb:=qa.mk (Pa (by repeat (first|(with_reducible first|exact HB.out|apply ia|apply ja|apply za|refine Aa ?_ Va.out)|exact HB.out)) hb)
             clear ua
             clear HB
             have ua:=Pb
             have HB:=Wb
             clear Pb Wb
             (try clear hb)
             (try clear hb2)
             (try clear hk)
             (try clear hi)
             refine hK.out _ _ ⟨(ga ua.out 0).trans rfl,(ga ua.out 1).trans rfl,(ga ua.out 2).trans rfl,(ga ua.out 3).trans rfl,(ga ua.out 4).trans rfl,((HB.out.cell (World.block_lt_of_cell? w _ Yk)).trans Yk),((HB.out.cell (World.block_lt_of_cell? w _ Xk)).trans Xk),((HB.out.cell (World.block_lt_of_cell? w _ Wk)).trans Wk),((HB.out.cell (World.block_lt_of_cell? w _ Vk)).trans Vk),((HB.out.cell (World.block_lt_of_cell? w _ Uk)).trans Uk)⟩ (fun hHeld=>?_)
             clear hK K
             refine Xd (a':=?_) ?_ ?_
             rotate_left
             ·show Act.put _ (some 84) _=_
              simp only [Act.put,List.setIfInBounds_toArray,List.set_cons_zero,List.set_cons_succ,Za,gb]
              rfl
             refine Nb (i:=10) (N:=some 85) (v:=?_) (a':=?_) #[true,true,true,true,true,true,true,true,true,true,true,false] rfl rfl (Oc ef.out (by kernel_rfl)) (fun _ _ _ h=>h) (Or.inl ⟨by rfl,?_⟩) ?_ ?_
             rotate_left
             ·intro w'
              go_simp
              with_reducible rfl
             rotate_left
             ·simp only [Act.put,List.setIfInBounds_toArray,List.set_cons_zero,List.set_cons_succ,Za,gb]
              rfl
             refine Nb (i:=11) (N:=some 86) (v:=?_) (a':=?_) #[true,true,true,true,true,true,true,true,true,true,true,true] rfl rfl (Oc ef.out (by kernel_rfl)) (fun _ _ _ h=>h) (Or.inl ⟨by rfl,?_⟩) ?_ ?_
             rotate_left
             ·intro w'
              go_simp
              with_reducible rfl
             rotate_left
             ·simp only [Act.put,List.setIfInBounds_toArray,List.set_cons_zero,List.set_cons_succ,Za,gb]
              rfl
             refine Yh (Oj ef.out (by kernel_rfl)) ?_
             try go_wp2
             go_roundg k3
             case measure=>have:=We.out;have:=HJ8.out;have:=HK3.out;omega
             case rel=>exact ⟨(wrap64 (ny + (((mb Qa Me).f0).length:Int))),(wrap64 (Me + 1)),(by first|rfl|(simp;done)|(simp [*];done)),(by first|rfl|(simp;done)|(simp [*];done)),H',⟨by have:=We.out;have:=HJ8.out;have:=HK3.out;omega⟩,⟨by (with_reducible repeat (first|refine Ea ?_ _|refine Ga ?_|refine Da ?_ _));exact ua.out⟩,⟨by repeat (first|(with_reducible first|exact HB.out|apply ia|apply ja|apply za|refine Aa ?_ Va.out)|exact HB.out)⟩⟩
            ·replace c34:=Bool.eq_false_iff.mpr c34
             subst c34
             have H1:(some false)=some r:=by rw [if_neg (show ¬ (false=true) by decide)] at H;exact H
             clear H
             have H:=H1
             clear H1
             obtain rfl:=Option.some.inj H
             have Bz:wr.cell? ⟨Fa,0,none⟩=some (.slice Ib Ra.length Gb):=(ga ua.out 0).trans rfl
             have Az:wr.cell? ⟨Fa,1,none⟩=some (.int .i64 Ja):=(ga ua.out 1).trans rfl
             have zz:wr.cell? ⟨Fa,2,none⟩=some (.int .i64 Ma):=(ga ua.out 2).trans rfl
             have yz:wr.cell? ⟨Fa,3,none⟩=some (.int .i64 Oa):=(ga ua.out 3).trans rfl
             have xz:wr.cell? ⟨Fa,4,none⟩=some (.slice qc Qa.length dc):=(ga ua.out 4).trans rfl
             have Yy:=aa ua.out 0
             have Xy:=aa ua.out 1
             have Wy:=aa ua.out 2
             have Vy:=aa ua.out 3
             have Uy:=aa ua.out 4
             have Lw:0 ≤ (Me:Int):=of_decide_eq_true (by first|(with_reducible assumption)|assumption)
             have Kw:Me < (Qa.length:Int):=of_decide_eq_true (by first|(with_reducible assumption)|assumption)
             obtain ⟨dh,KJ,oJ,aJ,tj,sj,rj,qj,nj,zm,Am⟩:=Wi Tf.out Me Lw Kw
             cases aJ
             replace tj:=(HB.out.cell (World.block_lt_of_cell? w _ tj)).trans tj
             replace sj:=(HB.out.cell (World.block_lt_of_cell? w _ sj)).trans sj
             replace rj:=(HB.out.cell (World.block_lt_of_cell? w _ rj)).trans rj
             replace qj:=(HB.out.cell (World.block_lt_of_cell? w _ qj)).trans qj
             replace nj:=(HB.out.cell (World.block_lt_of_cell? w _ nj)).trans nj
             have nG:=qa.mk Am
             have oG:=qa.mk zm
             clear Am zm
             replace Lw:=eq_true Lw
             replace Kw:=eq_true Kw
             try go_wp2
             have Pb:=qa.mk (Ga ua.out)
             have Wb:=qa.mk (za HB.out)
             clear ua
             clear HB
             have ua:=Pb
             have HB:=Wb
             clear Pb Wb
             have AB:0 ≤ (Me:Int):=of_decide_eq_true (by first|(with_reducible assumption)|assumption)
             have yB:Me < (Qa.length:Int):=of_decide_eq_true (by first|(with_reducible assumption)|assumption)
             obtain ⟨pJ,Dx,xx,zQ,jj,ij,gj,fj,ej,Hr,Kr⟩:=Wi Tf.out Me AB yB
             have Uk:=ej
             have Vk:=fj
             have Wk:=gj
             have Xk:=ij
             have Yk:=jj
             obtain rfl:dh=pJ:=(by injection zQ)
             replace jj:=(HB.out.cell (World.block_lt_of_cell? w _ jj)).trans jj
             replace ij:=(HB.out.cell (World.block_lt_of_cell? w _ ij)).trans ij
             replace gj:=(HB.out.cell (World.block_lt_of_cell? w _ gj)).trans gj
             replace fj:=(HB.out.cell (World.block_lt_of_cell? w _ fj)).trans fj
             replace ej:=(HB.out.cell (World.block_lt_of_cell? w _ ej)).trans ej
             have Et:=qa.mk Kr
             have bA:=qa.mk Hr
             clear Kr Hr
             replace AB:=eq_true AB
             replace yB:=eq_true yB
             refine Pg (n:=12) (S:=fun w'=>w'.cell? ⟨Fa,0,none⟩=some (.slice Ib Ra.length Gb)∧w'.cell? ⟨Fa,1,none⟩=some (.int .i64 Ja)∧w'.cell? ⟨Fa,2,none⟩=some (.int .i64 Ma)∧w'.cell? ⟨Fa,3,none⟩=some (.int .i64 Oa)∧w'.cell? ⟨Fa,4,none⟩=some (.slice (some dh) Qa.length dc)∧w'.cell? (dh.add ((Me).toNat * 5))=some (.slice Dx ((mb Qa Me).f0).length xx)∧w'.cell? ⟨(dh.add ((Me).toNat * 5)).block,(dh.add ((Me).toNat * 5)).off + 1,none⟩=some (.int .i64 ((mb Qa Me).f1))∧w'.cell? ⟨(dh.add ((Me).toNat * 5)).block,(dh.add ((Me).toNat * 5)).off + 2,none⟩=some (.int .i64 ((mb Qa Me).f2))∧w'.cell? ⟨(dh.add ((Me).toNat * 5)).block,(dh.add ((Me).toNat * 5)).off + 3,none⟩=some (.int .i64 ((mb Qa Me).f3))∧w'.cell? ⟨(dh.add ((Me).toNat * 5)).block,(dh.add ((Me).toNat * 5)).off + 4,none⟩=some (.int .i64 ((mb Qa Me).f4))) (ds:=[]) #[false,false,false,false,false,false,false,false,false,false,false,false] (by kernel_rfl) rfl rfl ⟨(ga ua.out 0).trans rfl,(ga ua.out 1).trans rfl,(ga ua.out 2).trans rfl,(ga ua.out 3).trans rfl,(ga ua.out 4).trans rfl,((HB.out.cell (World.block_lt_of_cell? w _ Yk)).trans Yk),((HB.out.cell (World.block_lt_of_cell? w _ Xk)).trans Xk),((HB.out.cell (World.block_lt_of_cell? w _ Wk)).trans Wk),((HB.out.cell (World.block_lt_of_cell? w _ Vk)).trans Vk),((HB.out.cell (World.block_lt_of_cell? w _ Uk)).trans Uk)⟩ (fun hHeld=>?_);refine nh Ua.uH Ua.DC (fun ef Pn=>?_)
             generalize wr.drew=w39 at ua HB Et jj ij gj fj ej hHeld ⊢
             refine Nb (i:=0) (N:=some 75) (v:=?_) (a':=?_) #[true,false,false,false,false,false,false,false,false,false,false,false] rfl rfl (Oc ef.out (by kernel_rfl)) (fun _ _ _ h=>h) (Or.inl ⟨by rfl,?_⟩) ?_ ?_
             rotate_left
             ·intro w'
              go_simp
              with_reducible rfl
             rotate_left
             ·simp only [Act.put,List.setIfInBounds_toArray,List.set_cons_zero,List.set_cons_succ,Za,gb]
              rfl
             refine Nb (i:=1) (N:=some 76) (v:=?_) (a':=?_) #[true,true,false,false,false,false,false,false,false,false,false,false] rfl rfl (Oc ef.out (by kernel_rfl)) (fun _ _ _ h=>h) (Or.inl ⟨by rfl,?_⟩) ?_ ?_
             rotate_left
             ·intro w'
              go_simp
              with_reducible rfl
             rotate_left
             ·simp only [Act.put,List.setIfInBounds_toArray,List.set_cons_zero,List.set_cons_succ,Za,gb]
              rfl
             refine Nb (i:=2) (N:=some 77) (v:=?_) (a':=?_) #[true,true,true,false,false,false,false,false,false,false,false,false] rfl rfl (Oc ef.out (by kernel_rfl)) (fun _ _ _ h=>h) (Or.inl ⟨by rfl,?_⟩) ?_ ?_
             rotate_left
             ·intro w'
              go_simp
              with_reducible rfl
             rotate_left
             ·simp only [Act.put,List.setIfInBounds_toArray,List.set_cons_zero,List.set_cons_succ,Za,gb]
              rfl
             refine Nb (i:=4) (N:=some 79) (v:=?_) (a':=?_) #[true,true,true,false,true,false,false,false,false,false,false,false] rfl rfl (Oc ef.out (by kernel_rfl)) (fun _ _ _ h=>h) (Or.inl ⟨by rfl,?_⟩) ?_ ?_
             rotate_left
             ·intro w'
              go_simp
              with_reducible rfl
             rotate_left
             ·simp only [Act.put,List.setIfInBounds_toArray,List.set_cons_zero,List.set_cons_succ,Za,gb]
              rfl
             refine Nb (i:=6) (N:=some 81) (v:=?_) (a':=?_) #[true,true,true,false,true,false,true,false,false,false,false,false] rfl rfl (Oc ef.out (by kernel_rfl)) (fun _ _ _ h=>h) (Or.inl ⟨by rfl,?_⟩) ?_ ?_
             rotate_left
             ·intro w'
              go_simp
              with_reducible rfl
             rotate_left
             ·simp only [Act.put,List.setIfInBounds_toArray,List.set_cons_zero,List.set_cons_succ,Za,gb]
              rfl
             refine Jd (i:=3) (N:=some 78) (v:=?_) (a':=?_) #[true,true,true,true,true,false,true,false,false,false,false,false] rfl rfl (Fe ef.out Pn.out (by kernel_rfl)) (fun _ _ _ h=>h) (Or.inl ⟨by rfl,?_⟩) hHeld ?_ ?_
             rotate_left
             ·rintro w' ⟨s0,s1,s2,s3,s4,s5,s6,s7,s8,s9⟩
              go_simp
              with_reducible rfl
             rotate_left
             ·simp only [Act.put,List.setIfInBounds_toArray,List.set_cons_zero,List.set_cons_succ,Za,gb]
              rfl
             refine Jd (i:=5) (N:=some 80) (v:=?_) (a':=?_) #[true,true,true,true,true,true,true,false,false,false,false,false] rfl rfl (Fe ef.out Pn.out (by kernel_rfl)) (fun _ _ _ h=>h) (Or.inl ⟨by rfl,?_⟩) hHeld ?_ ?_
             rotate_left
             ·rintro w' ⟨s0,s1,s2,s3,s4,s5,s6,s7,s8,s9⟩
              go_simp
              with_reducible rfl
             rotate_left
             ·simp only [Act.put,List.setIfInBounds_toArray,List.set_cons_zero,List.set_cons_succ,Za,gb]
              rfl
             refine Nb (i:=7) (N:=some 82) (v:=?_) (a':=?_) #[true,true,true,true,true,true,true,true,false,false,false,false] rfl rfl (Oc ef.out (by kernel_rfl)) (fun _ _ _ h=>h) (Or.inl ⟨by rfl,?_⟩) ?_ ?_
             rotate_left
             ·intro w'
              go_simp
              with_reducible rfl
             rotate_left
             ·simp only [Act.put,List.setIfInBounds_toArray,List.set_cons_zero,List.set_cons_succ,Za,gb]
              rfl
             refine Jd (i:=8) (N:=some 83) (v:=?_) (a':=?_) #[true,true,true,true,true,true,true,true,true,false,false,false] rfl rfl (Fe ef.out Pn.out (by kernel_rfl)) (fun _ _ _ h=>h) (Or.inl ⟨by rfl,?_⟩) hHeld ?_ ?_
             rotate_left
             ·rintro w' ⟨s0,s1,s2,s3,s4,s5,s6,s7,s8,s9⟩
              go_simp
              with_reducible rfl
             rotate_left
             ·simp only [Act.put,List.setIfInBounds_toArray,List.set_cons_zero,List.set_cons_succ,Za,gb]
              rfl
             refine gh (i:=9) (N:=some 84) #[true,true,true,true,true,true,true,true,true,true,false,false] rfl rfl (Mk ef.out (by kernel_rfl)) (by decide) (fun K hK=>?_)
             refine Gn Try.func87 (by kernel_rfl) rfl #[.agg #[.slice Ib Ra.length Gb,.int .i64 Ja,.int .i64 Ma,.int .i64 Oa,.slice (some dh) Qa.length dc],.agg #[.slice Dx ((mb Qa Me).f0).length xx,.int .i64 ((mb Qa Me).f1),.int .i64 ((mb Qa Me).f2),.int .i64 ((mb Qa Me).f3),.int .i64 ((mb Qa Me).f4)]] (by rfl) rfl rfl (by (try simp only [List.map_toArray,List.map_cons,List.map_nil]);first|done|rfl|(simp only [List.length_drop,List.length_take];rfl)) ?_
             with_reducible refine (Fb.calls k3 _ _ Ra Ja Ma Oa _ _ Qa _ _ ((mb Qa Me).f0) ((mb Qa Me).f1) ((mb Qa Me).f2) ((mb Qa Me).f3) ((mb Qa Me).f4) false _ ?side1 ?side2 ?side3 ?side4 ?side5 ?side6 A33.out).mono ?_
             (case side1=>repeat (first|exact (Kd.Yb Ve.out HB.out)|(with_reducible refine Kd.yc ?_ _)|(with_reducible refine Kd.uc ?_ _)|(with_reducible refine Kd.Sc ?_)))
             (case side2=>exact gf.out)
             (case side3=>repeat (first|exact (Kd.Yb Tf.out HB.out)|(with_reducible refine Kd.yc ?_ _)|(with_reducible refine Kd.uc ?_ _)|(with_reducible refine Kd.Sc ?_)))
             (case side4=>exact Yg.out)
             (case side5=>repeat (first|exact (Kd.Yb Et.out HB.out)|(with_reducible refine Kd.yc ?_ _)|(with_reducible refine Kd.uc ?_ _)|(with_reducible refine Kd.Sc ?_)))
             (case side6=>exact bA.out)
             rintro e w40 ⟨rfl,hb⟩
             refine ⟨_,rfl,?_⟩
             have Pb:=qa.mk (Wa (g:=Fa) (o:=.cells #[.slice Ib Ra.length Gb,.int .i64 Ja,.int .i64 Ma,.int .i64 Oa,.slice (some dh) Qa.length dc] 30 (0,0)) (by (with_reducible repeat (first|refine Ea ?_ _|refine Ga ?_|refine Da ?_ _));exact ua.out) hb)
             have Wb:=qa.mk (Pa (by repeat (first|(with_reducible first|exact HB.out|apply ia|apply ja|apply za|refine Aa ?_ Va.out)|exact HB.out)) hb)
             clear ua
             clear HB
             have ua:=Pb
             have HB:=Wb
             clear Pb Wb
             (try clear hb)
             (try clear hb2)
             (try clear hk)
             (try clear hi)
             refine hK.out _ _ ⟨(ga ua.out 0).trans rfl,(ga ua.out 1).trans rfl,(ga ua.out 2).trans rfl,(ga ua.out 3).trans rfl,(ga ua.out 4).trans rfl,((HB.out.cell (World.block_lt_of_cell? w _ Yk)).trans Yk),((HB.out.cell (World.block_lt_of_cell? w _ Xk)).trans Xk),((HB.out.cell (World.block_lt_of_cell? w _ Wk)).trans Wk),((HB.out.cell (World.block_lt_of_cell? w _ Vk)).trans Vk),((HB.out.cell (World.block_lt_of_cell? w _ Uk)).trans Uk)⟩ (fun hHeld=>?_)
             clear hK K
             refine Xd (a':=?_) ?_ ?_
             rotate_left
             ·show Act.put _ (some 84) _=_
              simp only [Act.put,List.setIfInBounds_toArray,List.set_cons_zero,List.set_cons_succ,Za,gb]
              rfl
             refine Nb (i:=10) (N:=some 85) (v:=?_) (a':=?_) #[true,true,true,true,true,true,true,true,true,true,true,false] rfl rfl (Oc ef.out (by kernel_rfl)) (fun _ _ _ h=>h) (Or.inl ⟨by rfl,?_⟩) ?_ ?_
             rotate_left
             ·intro w'
              go_simp
              with_reducible rfl
             rotate_left
             ·simp only [Act.put,List.setIfInBounds_toArray,List.set_cons_zero,List.set_cons_succ,Za,gb]
              rfl
             refine Nb (i:=11) (N:=some 86) (v:=?_) (a':=?_) #[true,true,true,true,true,true,true,true,true,true,true,true] rfl rfl (Oc ef.out (by kernel_rfl)) (fun _ _ _ h=>h) (Or.inl ⟨by rfl,?_⟩) ?_ ?_
             rotate_left
             ·intro w'
              go_simp
              with_reducible rfl
             rotate_left
             ·simp only [Act.put,List.setIfInBounds_toArray,List.set_cons_zero,List.set_cons_succ,Za,gb]
              rfl
             refine Yh (Oj ef.out (by kernel_rfl)) ?_
             try go_wp2
             go_ret
             exact ⟨by first|rfl|(simp [La,Ka] <;> rfl)|(simp [*,La,Ka] <;> rfl),by repeat (first|(with_reducible first|exact HB.out|apply ia|apply ja|apply za|refine Aa ?_ Va.out)|exact HB.out)⟩
          ·rw [if_neg c29] at H
           exact absurd H (by simp)
         ·rw [if_neg c28] at H
          have fX:decide (Me < (Qa.length:Int))=false:=decide_eq_false c28
          clear c28
          obtain rfl:=Option.some.inj H
          have Iv:wr.cell? ⟨Fa,0,none⟩=some (.slice Ib Ra.length Gb):=(ga ua.out 0).trans rfl
          have Hv:wr.cell? ⟨Fa,1,none⟩=some (.int .i64 Ja):=(ga ua.out 1).trans rfl
          have RM:wr.cell? ⟨Fa,2,none⟩=some (.int .i64 Ma):=(ga ua.out 2).trans rfl
          have QM:wr.cell? ⟨Fa,3,none⟩=some (.int .i64 Oa):=(ga ua.out 3).trans rfl
          have PM:wr.cell? ⟨Fa,4,none⟩=some (.slice qc Qa.length dc):=(ga ua.out 4).trans rfl
          have Gu:=aa ua.out 0
          have Fu:=aa ua.out 1
          have nL:=aa ua.out 2
          have mL:=aa ua.out 3
          have kL:=aa ua.out 4
          go_wp2
          go_ret
          exact ⟨by first|rfl|(simp [La,Ka] <;> rfl)|(simp [*,La,Ka] <;> rfl),by repeat (first|(with_reducible first|exact HB.out|apply ia|apply ja|apply za|refine Aa ?_ Va.out)|exact HB.out)⟩
end Go.Proofs.Ytmifdccaajngcaa.P
end
