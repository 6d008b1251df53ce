import Derived.Test.YtkigbdceceeenaaQPressure1
import Derived.Test.YtkigbdceceeenaaQPressure3
import Derived.Test.YtkigbdceceeenaaQPressure5
import Derived.Test.YtkigbdceceeenaaQPressure4
set_option maxHeartbeats 8000000
set_option maxRecDepth 100000
section
namespace Go.Proofs.Ytkigbdceceeenaa.P
open Go.RowKit Go.Proofs.Oa.Wb Go.Proofs.Oa.Vd Go.Proofs.Oa.Xe
set_option linter.unusedVariables false
set_option linter.unusedSimpArgs false
attribute [local go_sem] bh Gh Ki Cj Mg Lg Hh Fh
mutual
def qb.l0:Nat→Int→List (List Bool)→Int→List Int→Int→Int→Int→List (Ce)→Option (Int)
 | 0,_,_,_,_,_,_,_,_=>none
 | k + 1,x3,x4,x5,fc,Gc,nc,mc,Kb=>if x5 < (Kb.length:Int) then (if 0 ≤ x5 then (if x5 < (x4.length:Int) then ((jf.f ((Aa Kb x5).f0) ((Aa Kb x5).f1) ((Aa Kb x5).f2) ((Aa Kb x5).f3) ((Aa Kb x5).f4) (Md x4 x5)).bind fun t109=>((Rc.f k t109).bind fun t112=>(if t112 > x3 then (qb.j1 k x3 x4 x5 t109 t112 (decide ((((Aa Kb x5).f0).length:Int) > 0)) fc Gc nc mc Kb ((Aa Kb x5).f0) ((Aa Kb x5).f1) ((Aa Kb x5).f2) ((Aa Kb x5).f3) ((Aa Kb x5).f4)) else (qb.j1 k x3 x4 x5 t109 t112 false fc Gc nc mc Kb ((Aa Kb x5).f0) ((Aa Kb x5).f1) ((Aa Kb x5).f2) ((Aa Kb x5).f3) ((Aa Kb x5).f4))))) else (none)) else (none)) else (some x3)
def qb.j1:Nat→Int→List (List Bool)→Int→List Bool→Int→Bool→List Int→Int→Int→Int→List (Ce)→List (Rf)→Int→Int→Int→Int→Option (Int)
 | 0,_,_,_,_,_,_,_,_,_,_,_,_,_,_,_,_=>none
 | k + 1,x3,x4,x5,x7,x8,x45,fc,Gc,nc,mc,Kb,zh,Tq,Sq,Rq,Qq=>if x45=true then (qb.j2 k x8 x4 x5 x7 fc Gc nc mc Kb zh Tq Sq Rq Qq) else (qb.j2 k x3 x4 x5 x7 fc Gc nc mc Kb zh Tq Sq Rq Qq)
def qb.j2:Nat→Int→List (List Bool)→Int→List Bool→List Int→Int→Int→Int→List (Ce)→List (Rf)→Int→Int→Int→Int→Option (Int)
 | 0,_,_,_,_,_,_,_,_,_,_,_,_,_,_=>none
 | k + 1,x3,x4,x5,x7,fc,Gc,nc,mc,Kb,zh,Tq,Sq,Rq,Qq=>qb.l1 k x3 x4 x5 x7 (wrap64 ((zh.length:Int) - 1)) fc Gc nc mc Kb zh Tq Sq Rq Qq
def qb.l1:Nat→Int→List (List Bool)→Int→List Bool→Int→List Int→Int→Int→Int→List (Ce)→List (Rf)→Int→Int→Int→Int→Option (Int)
 | 0,_,_,_,_,_,_,_,_,_,_,_,_,_,_,_=>none
 | k + 1,x3,x4,x5,x7,x9,fc,Gc,nc,mc,Kb,zh,Tq,Sq,Rq,Qq=>if x9 ≥ 0 then (if 0 ≤ x9 then (if x9 < (zh.length:Int) then ((tc.f k ((Ta zh x9).f0) ((Ta zh x9).f1) ((Ta zh x9).f2) ((Ta zh x9).f3) ((Ta zh x9).f4) ((Ta zh x9).f5) ((Ta zh x9).f6) x7).bind fun t115=>((Rc.f k t115).bind fun t116=>(if t116 > x3 then (qb.l1 k t116 x4 x5 t115 (wrap64 (x9 - 1)) fc Gc nc mc Kb zh Tq Sq Rq Qq) else (qb.l1 k x3 x4 x5 t115 (wrap64 (x9 - 1)) fc Gc nc mc Kb zh Tq Sq Rq Qq)))) else (none)) else (none)) else ((Rc.f k x7).bind fun t113=>(if t113 > x3 then (qb.l0 k t113 x4 (wrap64 (x5 + 1)) fc Gc nc mc Kb) else (qb.l0 k x3 x4 (wrap64 (x5 + 1)) fc Gc nc mc Kb)))
end
def qb.f (k:Nat) (Pa:List Int) (Ka:Int) (Ga:Int) (Ia:Int) (Da:List (Ce)):Option (Int):=(Va.f k Pa Ka Ga Ia Da).bind fun t102=>(if t102=true then ((gb.f k Pa Ka Ga Ia Da).bind fun t103=>(qb.l0 k 0 t103 0 Pa Ka Ga Ia Da)) else (some (-1)))
theorem qb.calls (k:Nat) (Ya:Option Addr) (Za:Nat) (Pa:List Int) (Ka:Int) (Ga:Int) (Ia:Int) (Vb:Option Addr) (Jb:Nat) (Da:List (Ce)) (r:Int) (w:World) (Wd:Kd.C (Kd.int .i64) w Ya Pa.length Pa) (Sd:Pa.length ≤ Za) (zf:Kd.C Mt w Vb Da.length Da) (uf:Da.length ≤ Jb) (h:qb.f k Pa Ka Ga Ia Da=some r) :
  Calls Try.prog 11 #[.agg #[.slice Ya Pa.length Za,.int .i64 Ka,.int .i64 Ga,.int .i64 Ia,.slice Vb Da.length Jb]] w fun e w'=>e = .returned (.int .i64 r)∧Below w.heap.size w w':=by
 have LD:=Try.underlying30;have mz:=Try.underlying59;have ox:=Try.underlying65;have qe:=ja.mk Wd;have Be:=ja.mk Sd;clear Wd Sd;have Hf:=ja.mk zf;have Tg:=ja.mk uf;clear zf uf;have HB:=ja.mk (Below.refl w.heap.size w);have H:((Va.f k Pa Ka Ga Ia Da).bind fun t102=>(if t102=true then ((gb.f k Pa Ka Ga Ia Da).bind fun t103=>(qb.l0 k 0 t103 0 Pa Ka Ga Ia Da)) else (some (-1))))=some r:=h;clear h;replace H:=Option.bind_eq_some_iff.mp H;obtain ⟨t102,iH,H⟩:=H;replace H:(if t102=true then ((gb.f k Pa Ka Ga Ia Da).bind fun t103=>(qb.l0 k 0 t103 0 Pa Ka Ga Ia Da)) else (some (-1)))=some r:=H;have A2:=ja.mk iH;clear iH
 by_cases c3:t102=true
 ·subst c3;have H1:((gb.f k Pa Ka Ga Ia Da).bind fun t103=>(qb.l0 k 0 t103 0 Pa Ka Ga Ia Da))=some r:=by rw [if_pos rfl] at H;exact H
  clear H;have H:=H1;clear H1;replace H:=Option.bind_eq_some_iff.mp H;obtain ⟨t103,oS,H⟩:=H;replace H:(qb.l0 k 0 t103 0 Pa Ka Ga Ia Da)=some r:=H;have A4:=ja.mk oS;clear oS;have H':=ja.mk H;clear H;go_enter Try.func11,Try.ntmps11;go_wp2_with (first|((with_reducible refine yb (N:=1) rfl ?_);(try (refine xg (by rfl) ?_;dsimp only));refine Gb ?hg (N:=1) ?hd (cs:=#[.slice Ya Pa.length Za,.int .i64 Ka,.int .i64 Ga,.int .i64 Ia,.slice Vb Da.length Jb]) (t:=30) ?hr ?_;(case hd=>rfl);(case hg=>rfl);(case hr=>first|(go_simp;done)|(go_simp;rfl));intro ya hg w5 Qb hb;have Fb:=ja.mk (Qa (by repeat (first|(with_reducible first|exact HB.out|apply qa|apply ia|apply ta)|exact HB.out)) hb);have Ib:=ja.mk (Qb);have Sb:=ja.mk ((by rw [hg];exact (Fa (by repeat (first|(with_reducible first|exact HB.out|apply qa|apply ia|apply ta)|exact HB.out))):w.heap.size ≤ ya));have Ec:=ja.mk ((by rw [hg];exact (Fa (by repeat (first|(with_reducible first|exact HB.out|apply qa|apply ia|apply ta)|exact HB.out))):w.heap.size ≤ ya));clear HB;have HB:=Fb;have oa:=Ib;have yd:=Sb;have Sa:=Ec;clear Fb Ib Sb Ec hb Qb hg;have Sj:w5.cell? ⟨ya,0,none⟩=some (.slice Ya Pa.length Za):=(ga oa.out 0).trans rfl;have Rj:w5.cell? ⟨ya,1,none⟩=some (.int .i64 Ka):=(ga oa.out 1).trans rfl;have Qj:w5.cell? ⟨ya,2,none⟩=some (.int .i64 Ga):=(ga oa.out 2).trans rfl;have Pj:w5.cell? ⟨ya,3,none⟩=some (.int .i64 Ia):=(ga oa.out 3).trans rfl;have Oj:w5.cell? ⟨ya,4,none⟩=some (.slice Vb Da.length Jb):=(ga oa.out 4).trans rfl;have Nj:=aa oa.out 0;have Mj:=aa oa.out 1;have Lj:=aa oa.out 2;have Kj:=aa oa.out 3;have Jj:=aa oa.out 4)|((with_reducible refine jb (f:=40) rfl ?_);refine Fc (some 13) rfl rfl Try.func40 (by kernel_rfl) rfl #[.agg #[.slice Ya Pa.length Za,.int .i64 Ka,.int .i64 Ga,.int .i64 Ia,.slice Vb Da.length Jb]] rfl (by (try simp only [List.map_toArray,List.map_cons,List.map_nil]);first|done|rfl|(simp only [List.length_drop,List.length_take];rfl)) ?_;(with_reducible refine (Va.calls k _ _ Pa Ka Ga Ia _ _ Da true _ ?yc ?uc ?ud ?td A2.out).mono ?_);(case yc=>repeat (first|exact (Kd.Ob qe.out HB.out)|(with_reducible refine Kd.Pb ?_ _)|(with_reducible refine Kd.Nb ?_ _)|(with_reducible refine Kd.Zb ?_)));(case uc=>exact Be.out);(case ud=>repeat (first|exact (Kd.Ob Hf.out HB.out)|(with_reducible refine Kd.Pb ?_ _)|(with_reducible refine Kd.Nb ?_ _)|(with_reducible refine Kd.Zb ?_)));(case td=>exact Tg.out);rintro e w7 ⟨rfl,hb⟩;refine ⟨_,rfl,?_⟩;have Fb:=ja.mk (Ua (g:=ya) (o:=.cells #[.slice Ya Pa.length Za,.int .i64 Ka,.int .i64 Ga,.int .i64 Ia,.slice Vb Da.length Jb] 30 (0,0)) (by (with_reducible repeat (first|refine Ba ?_ _|refine Ea ?_|refine Ca ?_ _));exact oa.out) hb);have Ib:=ja.mk (Qa (by repeat (first|(with_reducible first|exact HB.out|apply qa|apply ia|apply ta|refine ua ?_ Sa.out)|exact HB.out)) hb);clear oa HB;have oa:=Fb;have HB:=Ib;clear Fb Ib;(try clear hb);(try clear Hi);(try clear hk);(try clear hi);have vq:w7.cell? ⟨ya,0,none⟩=some (.slice Ya Pa.length Za):=(ga oa.out 0).trans rfl;have uq:w7.cell? ⟨ya,1,none⟩=some (.int .i64 Ka):=(ga oa.out 1).trans rfl;have tq:w7.cell? ⟨ya,2,none⟩=some (.int .i64 Ga):=(ga oa.out 2).trans rfl;have sq:w7.cell? ⟨ya,3,none⟩=some (.int .i64 Ia):=(ga oa.out 3).trans rfl;have rq:w7.cell? ⟨ya,4,none⟩=some (.slice Vb Da.length Jb):=(ga oa.out 4).trans rfl;have qq:=aa oa.out 0;have pq:=aa oa.out 1;have oq:=aa oa.out 2;have mq:=aa oa.out 3;have lq:=aa oa.out 4)|((with_reducible refine jb (f:=41) rfl ?_);refine Fc (some 16) rfl rfl Try.func41 (by kernel_rfl) rfl #[.agg #[.slice Ya Pa.length Za,.int .i64 Ka,.int .i64 Ga,.int .i64 Ia,.slice Vb Da.length Jb]] rfl (by (try simp only [List.map_toArray,List.map_cons,List.map_nil]);first|done|rfl|(simp only [List.length_drop,List.length_take];rfl)) ?_;(with_reducible refine (gb.calls k _ _ Pa Ka Ga Ia _ _ Da t103 _ ?yc ?uc ?ud ?td A4.out).mono ?_);(case yc=>repeat (first|exact (Kd.Ob qe.out HB.out)|(with_reducible refine Kd.Pb ?_ _)|(with_reducible refine Kd.Nb ?_ _)|(with_reducible refine Kd.Zb ?_)));(case uc=>exact Be.out);(case ud=>repeat (first|exact (Kd.Ob Hf.out HB.out)|(with_reducible refine Kd.Pb ?_ _)|(with_reducible refine Kd.Nb ?_ _)|(with_reducible refine Kd.Zb ?_)));(case td=>exact Tg.out);rintro e w9 ⟨MX,rfl,Am,hb⟩;refine ⟨_,rfl,?_⟩;have Fb:=ja.mk (Kd.Bt Am (Fa (by repeat (first|(with_reducible first|exact HB.out|apply qa|apply ia|apply ta|refine ua ?_ Sa.out)|exact HB.out))));have Ib:=ja.mk (Ua (g:=ya) (o:=.cells #[.slice Ya Pa.length Za,.int .i64 Ka,.int .i64 Ga,.int .i64 Ia,.slice Vb Da.length Jb] 30 (0,0)) (by (with_reducible repeat (first|refine Ba ?_ _|refine Ea ?_|refine Ca ?_ _));exact oa.out) hb);have Sb:=ja.mk (Qa (by repeat (first|(with_reducible first|exact HB.out|apply qa|apply ia|apply ta|refine ua ?_ Sa.out)|exact HB.out)) hb);clear oa HB;have th:=Fb;have oa:=Ib;have HB:=Sb;clear Fb Ib Sb;(try clear hb);(try clear Hi);(try clear hk);(try clear hi);(try clear Am)))
  go_loopg [3,5] k (fun kq v3 v5 w'=>∃ (ld:Int) (Ra:Int),v3 = .int .i64 ld∧v5 = .int .i64 Ra∧ja (qb.l0 kq ld t103 Ra Pa Ka Ga Ia Da=some r)∧ja (kq ≤ k)∧ja (Kd.S (Kd.slice 4 Kd.bool) 60 w' w.heap.size (fun _=>True) MX t103)∧ja (w'.heap[ya]? = some (.cells #[(.slice Ya Pa.length Za),.int .i64 Ka,.int .i64 Ga,.int .i64 Ia,(.slice Vb Da.length Jb)] 30 (0,0)))∧ja (Below w.heap.size w w'))
  case atStart=>exact ⟨(0),(0),(by first|rfl|(simp;done)|(simp [*];done)),(by first|rfl|(simp;done)|(simp [*];done)),H',⟨Nat.le_refl _⟩,⟨by (with_reducible repeat (first|apply Kd.Zc|apply Kd.Yc|apply Kd.Jd));exact th.out⟩,⟨by (with_reducible repeat (first|refine Ba ?_ _|refine Ea ?_|refine Ca ?_ _));exact oa.out⟩,⟨by repeat (first|(with_reducible first|exact HB.out|apply qa|apply ia|apply ta|refine ua ?_ Sa.out)|exact HB.out)⟩⟩
  case round =>
   clear H'
   try clear c1
   try clear p2
   try clear c3
   try clear c4
   try clear Sj
   try clear Rj
   try clear Qj
   try clear Pj
   try clear Oj
   try clear vq
   try clear uq
   try clear tq
   try clear sq
   try clear rq
   try clear Nj
   try clear Mj
   try clear Lj
   try clear Kj
   try clear Jj
   try clear qq
   try clear pq
   try clear oq
   try clear mq
   try clear lq
   (try clear HA);(try clear lg);(try clear Sg);(try clear oa);(try clear HB);obtain ⟨ld,Ra,rfl,rfl,HA,lg,Sg,oa,HB⟩:=hrel;cases gk with
   | zero=>exact absurd HA.out (by simp [qb.l0])
   | succ k1 =>
    have H:=HA.out;clear HA;simp only [qb.l0] at H
    by_cases Wp:Ra < (Da.length:Int)
    ·rw [if_pos Wp] at H;have Oo:decide (Ra < (Da.length:Int))=true:=decide_eq_true Wp;clear Wp
     by_cases Hz:0 ≤ Ra
     ·rw [if_pos Hz] at H;have cD:decide (0 ≤ Ra)=true:=decide_eq_true Hz;clear Hz
      by_cases nu:Ra < (t103.length:Int)
      ·rw [if_pos nu] at H;have bD:decide (Ra < (t103.length:Int))=true:=decide_eq_true nu;clear nu;replace H:=Option.bind_eq_some_iff.mp H;obtain ⟨t109,tI,H⟩:=H;replace H:((Rc.f k1 t109).bind fun t112=>(if t112 > ld then (qb.j1 k1 ld t103 Ra t109 t112 (decide ((((Aa Da Ra).f0).length:Int) > 0)) Pa Ka Ga Ia Da ((Aa Da Ra).f0) ((Aa Da Ra).f1) ((Aa Da Ra).f2) ((Aa Da Ra).f3) ((Aa Da Ra).f4)) else (qb.j1 k1 ld t103 Ra t109 t112 false Pa Ka Ga Ia Da ((Aa Da Ra).f0) ((Aa Da Ra).f1) ((Aa Da Ra).f2) ((Aa Da Ra).f3) ((Aa Da Ra).f4))))=some r:=H;have nW:=ja.mk tI;clear tI;replace H:=Option.bind_eq_some_iff.mp H;obtain ⟨t112,sD,H⟩:=H;replace H:(if t112 > ld then (qb.j1 k1 ld t103 Ra t109 t112 (decide ((((Aa Da Ra).f0).length:Int) > 0)) Pa Ka Ga Ia Da ((Aa Da Ra).f0) ((Aa Da Ra).f1) ((Aa Da Ra).f2) ((Aa Da Ra).f3) ((Aa Da Ra).f4)) else (qb.j1 k1 ld t103 Ra t109 t112 false Pa Ka Ga Ia Da ((Aa Da Ra).f0) ((Aa Da Ra).f1) ((Aa Da Ra).f2) ((Aa Da Ra).f3) ((Aa Da Ra).f4)))=some r:=H;have I1:=ja.mk sD;clear sD;have S0:=ja.mk H;clear H;have ji:wr.cell? ⟨ya,0,none⟩=some (.slice Ya Pa.length Za):=(ga oa.out 0).trans rfl;have ei:wr.cell? ⟨ya,1,none⟩=some (.int .i64 Ka):=(ga oa.out 1).trans rfl;have di:wr.cell? ⟨ya,2,none⟩=some (.int .i64 Ga):=(ga oa.out 2).trans rfl;have ai:wr.cell? ⟨ya,3,none⟩=some (.int .i64 Ia):=(ga oa.out 3).trans rfl;have Zh:wr.cell? ⟨ya,4,none⟩=some (.slice Vb Da.length Jb):=(ga oa.out 4).trans rfl;have Yh:=aa oa.out 0;have Xh:=aa oa.out 1;have Wh:=aa oa.out 2;have Vh:=aa oa.out 3;have Uh:=aa oa.out 4;have GD:0 ≤ (Ra:Int):=Wa;have FD:Ra < (Da.length:Int):=Wa;obtain ⟨Ny,wh,uh,lZ,xp,vp,qp,lp,gp,oL,vL⟩:=ki Hf.out Ra GD FD;cases lZ
       try replace xp:=Na HB.out xp
       try replace vp:=Na HB.out vp
       try replace qp:=Na HB.out qp
       try replace lp:=Na HB.out lp
       try replace gp:=Na HB.out gp
       have VG:=ja.mk vL;have jW:=ja.mk oL;clear vL oL;replace GD:=eq_true GD;replace FD:=eq_true FD
       try go_wp2_with (first|((with_reducible refine yb (N:=6) rfl ?_);(try (refine xg (by rfl) ?_;dsimp only));refine Gb ?hg (N:=6) ?hd (cs:=#[.slice none 0 0,.int .i64 0,.int .i64 0,.int .i64 0,.int .i64 0]) (t:=59) ?hr ?_;(case hd=>rfl);(case hg=>rfl);(case hr=>first|(go_simp;done)|(go_simp;rfl));intro Td hg bw Qb hb;have Fb:=ja.mk (Kd.jh (by (with_reducible repeat (first|apply Kd.Zc|apply Kd.Yc|apply Kd.Jd));exact Sg.out) hb);have Ib:=ja.mk (Ua (g:=ya) (o:=.cells #[.slice Ya Pa.length Za,.int .i64 Ka,.int .i64 Ga,.int .i64 Ia,.slice (some Ny) Da.length Jb] 30 (0,0)) (by (with_reducible repeat (first|refine Ba ?_ _|refine Ea ?_|refine Ca ?_ _));exact oa.out) hb);have Sb:=ja.mk (Qa (by repeat (first|(with_reducible first|exact HB.out|apply qa|apply ia|apply ta|refine ua ?_ Sa.out)|exact HB.out)) hb);have Ec:=ja.mk (Qb);have Re:=ja.mk ((by rw [hg];exact (Fa (by repeat (first|(with_reducible first|exact HB.out|apply qa|apply ia|apply ta|refine ua ?_ Sa.out)|exact HB.out))):w.heap.size ≤ Td));have Gf:=ja.mk ((by rw [hg];exact (Fa (by repeat (first|(with_reducible first|exact HB.out|apply qa|apply ia|apply ta|refine ua ?_ Sa.out)|exact HB.out))):w.heap.size ≤ Td));have Yf:=ja.mk ((by rw [hg];exact Nat.ne_of_lt (Jc (g:=ya) (o:=.cells #[.slice Ya Pa.length Za,.int .i64 Ka,.int .i64 Ga,.int .i64 Ia,.slice (some Ny) Da.length Jb] 30 (0,0)) (by (with_reducible repeat (first|refine Ba ?_ _|refine Ea ?_|refine Ca ?_ _));exact oa.out)):ya ≠ Td));have tw:=ja.mk ((by rw [hg];exact Nat.ne_of_gt (Jc (g:=ya) (o:=.cells #[.slice Ya Pa.length Za,.int .i64 Ka,.int .i64 Ga,.int .i64 Ia,.slice (some Ny) Da.length Jb] 30 (0,0)) (by (with_reducible repeat (first|refine Ba ?_ _|refine Ea ?_|refine Ca ?_ _));exact oa.out)):Td ≠ ya));clear Sg oa HB;have Sg:=Fb;have oa:=Ib;have HB:=Sb;have Uc:=Ec;have Nao:=Re;have bq:=Gf;have Gi:=Yf;have Jq:=tw;clear Fb Ib Sb Ec Re Gf Yf tw hb Qb hg;have G4:=Jq.out;have Y3:=Gi.out;have xy:bw.cell? ⟨Td,0,none⟩=some (.slice none 0 0):=(ga Uc.out 0).trans rfl;have uy:bw.cell? ⟨Td,1,none⟩=some (.int .i64 0):=(ga Uc.out 1).trans rfl;have sy:bw.cell? ⟨Td,2,none⟩=some (.int .i64 0):=(ga Uc.out 2).trans rfl;have ry:bw.cell? ⟨Td,3,none⟩=some (.int .i64 0):=(ga Uc.out 3).trans rfl;have qy:bw.cell? ⟨Td,4,none⟩=some (.int .i64 0):=(ga Uc.out 4).trans rfl;have Qx:=aa Uc.out 0;have Px:=aa Uc.out 1;have Ox:=aa Uc.out 2;have Nx:=aa Uc.out 3;have Mx:=aa Uc.out 4))
       have Fb:ja (Kd.S (Kd.slice 4 Kd.bool) 60 (((((bw.setCell ⟨Td,0,none⟩ (.slice wh ((Aa Da Ra).f0).length uh)).setCell ⟨Td,1,none⟩ (.int .i64 ((Aa Da Ra).f1))).setCell ⟨Td,2,none⟩ (.int .i64 ((Aa Da Ra).f2))).setCell ⟨Td,3,none⟩ (.int .i64 ((Aa Da Ra).f3))).setCell ⟨Td,4,none⟩ (.int .i64 ((Aa Da Ra).f4))) w.heap.size (fun _=>True) MX t103):=⟨by (with_reducible repeat (first|apply Kd.Zc|apply Kd.Yc|apply Kd.Jd));exact Kd.sg (Kd.Oh (p:=⟨Td,4,none⟩) (Kd.Oh (p:=⟨Td,3,none⟩) (Kd.Oh (p:=⟨Td,2,none⟩) (Kd.Oh (p:=⟨Td,1,none⟩) (Kd.Oh (p:=⟨Td,0,none⟩) (Kd.gv Sg.out Uc.out (by decide)) (fun _ hk=>hk.2) (.slice wh ((Aa Da Ra).f0).length uh)) (fun _ hk=>hk.2) (.int .i64 ((Aa Da Ra).f1))) (fun _ hk=>hk.2) (.int .i64 ((Aa Da Ra).f2))) (fun _ hk=>hk.2) (.int .i64 ((Aa Da Ra).f3))) (fun _ hk=>hk.2) (.int .i64 ((Aa Da Ra).f4))) (fun _ hk=>trivial)⟩;have Ib:ja ((((((bw.setCell ⟨Td,0,none⟩ (.slice wh ((Aa Da Ra).f0).length uh)).setCell ⟨Td,1,none⟩ (.int .i64 ((Aa Da Ra).f1))).setCell ⟨Td,2,none⟩ (.int .i64 ((Aa Da Ra).f2))).setCell ⟨Td,3,none⟩ (.int .i64 ((Aa Da Ra).f3))).setCell ⟨Td,4,none⟩ (.int .i64 ((Aa Da Ra).f4))).heap[ya]? = some (.cells #[.slice Ya Pa.length Za,.int .i64 Ka,.int .i64 Ga,.int .i64 Ia,.slice (some Ny) Da.length Jb] 30 (0,0))):=⟨by (with_reducible repeat (first|refine Ba ?_ _|refine Ea ?_|refine Ca ?_ _));refine Bd ?_ Gi.out _;(with_reducible repeat (first|refine Ba ?_ _|refine Ea ?_|refine Ca ?_ _));refine Bd ?_ Gi.out _;(with_reducible repeat (first|refine Ba ?_ _|refine Ea ?_|refine Ca ?_ _));refine Bd ?_ Gi.out _;(with_reducible repeat (first|refine Ba ?_ _|refine Ea ?_|refine Ca ?_ _));refine Bd ?_ Gi.out _;(with_reducible repeat (first|refine Ba ?_ _|refine Ea ?_|refine Ca ?_ _));refine Bd ?_ Gi.out _;(with_reducible repeat (first|refine Ba ?_ _|refine Ea ?_|refine Ca ?_ _));exact oa.out⟩;have Sb:ja ((((((bw.setCell ⟨Td,0,none⟩ (.slice wh ((Aa Da Ra).f0).length uh)).setCell ⟨Td,1,none⟩ (.int .i64 ((Aa Da Ra).f1))).setCell ⟨Td,2,none⟩ (.int .i64 ((Aa Da Ra).f2))).setCell ⟨Td,3,none⟩ (.int .i64 ((Aa Da Ra).f3))).setCell ⟨Td,4,none⟩ (.int .i64 ((Aa Da Ra).f4))).heap[Td]? = some (.cells #[.slice wh ((Aa Da Ra).f0).length uh,.int .i64 ((Aa Da Ra).f1),.int .i64 ((Aa Da Ra).f2),.int .i64 ((Aa Da Ra).f3),.int .i64 ((Aa Da Ra).f4)] 59 (0,0))):=⟨by (with_reducible repeat (first|refine Ba ?_ _|refine Ea ?_|refine Ca ?_ _));refine Ad (cs:=#[.slice wh ((Aa Da Ra).f0).length uh,.int .i64 ((Aa Da Ra).f1),.int .i64 ((Aa Da Ra).f2),.int .i64 ((Aa Da Ra).f3),.int .i64 0]) ?_ 4 _ rfl;(with_reducible repeat (first|refine Ba ?_ _|refine Ea ?_|refine Ca ?_ _));refine Ad (cs:=#[.slice wh ((Aa Da Ra).f0).length uh,.int .i64 ((Aa Da Ra).f1),.int .i64 ((Aa Da Ra).f2),.int .i64 0,.int .i64 0]) ?_ 3 _ rfl;(with_reducible repeat (first|refine Ba ?_ _|refine Ea ?_|refine Ca ?_ _));refine Ad (cs:=#[.slice wh ((Aa Da Ra).f0).length uh,.int .i64 ((Aa Da Ra).f1),.int .i64 0,.int .i64 0,.int .i64 0]) ?_ 2 _ rfl;(with_reducible repeat (first|refine Ba ?_ _|refine Ea ?_|refine Ca ?_ _));refine Ad (cs:=#[.slice wh ((Aa Da Ra).f0).length uh,.int .i64 0,.int .i64 0,.int .i64 0,.int .i64 0]) ?_ 1 _ rfl;(with_reducible repeat (first|refine Ba ?_ _|refine Ea ?_|refine Ca ?_ _));refine Ad (cs:=#[.slice none 0 0,.int .i64 0,.int .i64 0,.int .i64 0,.int .i64 0]) ?_ 0 _ rfl;(with_reducible repeat (first|refine Ba ?_ _|refine Ea ?_|refine Ca ?_ _));exact Uc.out⟩;have Ec:ja (Below w.heap.size w (((((bw.setCell ⟨Td,0,none⟩ (.slice wh ((Aa Da Ra).f0).length uh)).setCell ⟨Td,1,none⟩ (.int .i64 ((Aa Da Ra).f1))).setCell ⟨Td,2,none⟩ (.int .i64 ((Aa Da Ra).f2))).setCell ⟨Td,3,none⟩ (.int .i64 ((Aa Da Ra).f3))).setCell ⟨Td,4,none⟩ (.int .i64 ((Aa Da Ra).f4)))):=⟨by repeat (first|(with_reducible first|exact HB.out|apply qa|apply ia|apply ta|refine ua ?_ Sa.out|refine ua ?_ bq.out)|exact HB.out)⟩;(try clear Sg);(try clear oa);(try clear Uc);(try clear HB);generalize (((((bw.setCell ⟨Td,0,none⟩ (.slice wh ((Aa Da Ra).f0).length uh)).setCell ⟨Td,1,none⟩ (.int .i64 ((Aa Da Ra).f1))).setCell ⟨Td,2,none⟩ (.int .i64 ((Aa Da Ra).f2))).setCell ⟨Td,3,none⟩ (.int .i64 ((Aa Da Ra).f3))).setCell ⟨Td,4,none⟩ (.int .i64 ((Aa Da Ra).f4)))=w20 at Fb Ib Sb Ec ⊢;have Sg:=Fb;have oa:=Ib;have Uc:=Sb;have HB:=Ec;clear Fb Ib Sb Ec;have Fb:=ja.mk (Kd.Jd Sg.out);have Ib:=ja.mk (Ea oa.out);have Sb:=ja.mk (Ea Uc.out);have Ec:=ja.mk (ta HB.out);clear Sg oa Uc HB;have Sg:=Fb;have oa:=Ib;have Uc:=Sb;have HB:=Ec;clear Fb Ib Sb Ec;obtain ⟨xar,iP,kR⟩:=Kd.yt Sg.out;(first|subst kR|(injection kR with gR YY fR;have XY:=gR.symm;have WY:=fR.symm;clear gR YY fR;subst XY;subst WY));have YI:0 ≤ (Ra:Int):=Wa;have RI:Ra < (t103.length:Int):=Wa;obtain ⟨WN,aH,CR,Mak,Gu,nL,uL⟩:=Wv (Kd.ef Sg.out).2.2 Ra YI RI;cases Mak;obtain ⟨Zan,MY,RY,UQ⟩:=Kd.lI Sg.out [] Ra YI (by first|exact RI|exact Wa|(have e_:=(Kd.ef Sg.out).1;omega));obtain ⟨bab,rfl,DG⟩:=RY;have jx:=UQ 0 _ rfl;rw [Nat.add_zero,show ((Kd.slice 4 Kd.bool)).sz=1 from rfl,Nat.mul_one] at jx;replace jx:=Option.some.inj (jx.symm.trans Gu);rw [jx] at DG;have Vy:=ja.mk (show Kd.R Kd.bool 4 _ _ _ _ (Md t103 Ra) from DG);clear jx DG UQ MY;have oh:=ja.mk uL;have iW:=ja.mk nL;clear uL nL;replace YI:=eq_true YI;replace RI:=eq_true RI;refine fl (n:=7) (S:=fun w'=>w'.cell? ⟨Td,0,none⟩=some (.slice wh ((Aa Da Ra).f0).length uh)∧w'.cell? ⟨Td,1,none⟩=some (.int .i64 ((Aa Da Ra).f1))∧w'.cell? ⟨Td,2,none⟩=some (.int .i64 ((Aa Da Ra).f2))∧w'.cell? ⟨Td,3,none⟩=some (.int .i64 ((Aa Da Ra).f3))∧w'.cell? ⟨Td,4,none⟩=some (.int .i64 ((Aa Da Ra).f4))∧w'.cell? (WN.add (Ra).toNat)=some (.slice aH (Md t103 Ra).length CR)) (ds:=[]) #[false,false,false,false,false,false,false] (by kernel_rfl) rfl rfl ⟨(ga Uc.out 0).trans rfl,(ga Uc.out 1).trans rfl,(ga Uc.out 2).trans rfl,(ga Uc.out 3).trans rfl,(ga Uc.out 4).trans rfl,Gu⟩ (fun hHeld=>?_);generalize w20.drew=kH at Sg oa Uc HB Vy oh Gu hHeld ⊢;refine Wc (i:=1) (N:=some 30) (v:=?_) (a':=?_) #[false,true,false,false,false,false,false] rfl rfl (by kernel_rfl) (fun _ _ _ h=>h) (Or.inl ⟨by rfl,?_⟩) ?_ ?_;rotate_left
       ·intro w';go_simp;with_reducible rfl
       rotate_left
       ·simp only [Act.put,List.setIfInBounds_toArray,List.set_cons_zero,List.set_cons_succ,Xb,Yb]
        rfl
       refine Wc (i:=2) (N:=some 31) (v:=?_) (a':=?_) #[false,true,true,false,false,false,false] rfl rfl (by kernel_rfl) (fun _ _ _ h=>h) (Or.inl ⟨by rfl,?_⟩) ?_ ?_;rotate_left
       ·intro w';go_simp;with_reducible rfl
       rotate_left
       ·simp only [Act.put,List.setIfInBounds_toArray,List.set_cons_zero,List.set_cons_succ,Xb,Yb]
        rfl
       refine Wc (i:=3) (N:=some 32) (v:=?_) (a':=?_) #[false,true,true,true,false,false,false] rfl rfl (by kernel_rfl) (fun _ _ _ h=>h) (Or.inl ⟨by rfl,?_⟩) ?_ ?_;rotate_left
       ·intro w';go_simp;with_reducible rfl
       rotate_left
       ·simp only [Act.put,List.setIfInBounds_toArray,List.set_cons_zero,List.set_cons_succ,Xb,Yb]
        rfl
       refine ug (i:=0) (N:=some 29) (v:=?_) (a':=?_) #[true,true,true,true,false,false,false] rfl rfl (by kernel_rfl) (fun _ _ _ h=>h) (Or.inl ⟨by rfl,?_⟩) hHeld ?_ ?_;rotate_left
       ·rintro w' ⟨s0,s1,s2,s3,s4,s5⟩;go_simp;with_reducible rfl
       rotate_left
       ·simp only [Act.put,List.setIfInBounds_toArray,List.set_cons_zero,List.set_cons_succ,Xb,Yb]
        rfl
       refine ug (i:=4) (N:=some 33) (v:=?_) (a':=?_) #[true,true,true,true,true,false,false] rfl rfl (by kernel_rfl) (fun _ _ _ h=>h) (Or.inl ⟨by rfl,?_⟩) hHeld ?_ ?_;rotate_left
       ·rintro w' ⟨s0,s1,s2,s3,s4,s5⟩;go_simp;with_reducible rfl
       rotate_left
       ·simp only [Act.put,List.setIfInBounds_toArray,List.set_cons_zero,List.set_cons_succ,Xb,Yb]
        rfl
       refine Qv (i:=5) (N:=some 34) #[true,true,true,true,true,true,false] rfl rfl (by kernel_rfl) (by decide) (fun K hK=>?_);refine Ko Try.func42 (by kernel_rfl) rfl #[.agg #[.slice wh ((Aa Da Ra).f0).length uh,.int .i64 ((Aa Da Ra).f1),.int .i64 ((Aa Da Ra).f2),.int .i64 ((Aa Da Ra).f3),.int .i64 ((Aa Da Ra).f4)],.slice aH (Md t103 Ra).length CR] (by rfl) rfl rfl (by (try simp only [List.map_toArray,List.map_cons,List.map_nil]);first|done|rfl|(simp only [List.length_drop,List.length_take];rfl)) ?_;with_reducible refine (jf.calls _ _ ((Aa Da Ra).f0) ((Aa Da Ra).f1) ((Aa Da Ra).f2) ((Aa Da Ra).f3) ((Aa Da Ra).f4) _ _ (Md t103 Ra) t109 _ ?yc ?uc ?ud ?td nW.out).mono ?_
       (case yc=>repeat (first|exact (Kd.Ob VG.out HB.out)|(with_reducible refine Kd.Pb ?_ _)|(with_reducible refine Kd.Nb ?_ _)|(with_reducible refine Kd.Zb ?_)))
       (case uc=>exact jW.out)
       (case ud=>repeat (first|exact (by repeat (first|(with_reducible exact oh.out)|(with_reducible refine Kd.Pb ?_ _)|(with_reducible refine Kd.Nb ?_ _)|(with_reducible refine Kd.Zb ?_)|exact oh.out))|(with_reducible refine Kd.Pb ?_ _)|(with_reducible refine Kd.Nb ?_ _)|(with_reducible refine Kd.Zb ?_)))
       (case td=>exact iW.out)
       rintro e vD ⟨Bai,rfl,Am,hb⟩;have E0:=(hb.cell (World.block_lt_of_cell? _ _ (hHeld.2.2.2.2.2))).trans (hHeld.2.2.2.2.2);refine ⟨_,rfl,?_⟩;have Fb:=ja.mk (Kd.Ro (by (with_reducible repeat (first|apply Kd.Zc|apply Kd.Yc|apply Kd.Jd));exact Sg.out) (Kd.Vo Am) hb);have Ib:=ja.mk (Kd.Uo (by (with_reducible repeat (first|apply Kd.Ab|apply Kd.zb|apply Kd.Rb));exact Vy.out) (Kd.Vo Am) hb);have Sb:=ja.mk (Kd.Rd (Kd.Yv Am (Kd.oI (by (with_reducible repeat (first|apply Kd.Ab|apply Kd.zb|apply Kd.Rb));exact Vy.out))) (Fa (by repeat (first|(with_reducible first|exact HB.out|apply qa|apply ia|apply ta|refine ua ?_ Sa.out|refine ua ?_ bq.out)|exact HB.out))));have Ec:=ja.mk (Ua (g:=ya) (o:=.cells #[.slice Ya Pa.length Za,.int .i64 Ka,.int .i64 Ga,.int .i64 Ia,.slice (some Ny) Da.length Jb] 30 (0,0)) (by (with_reducible repeat (first|refine Ba ?_ _|refine Ea ?_|refine Ca ?_ _));exact oa.out) hb);have Re:=ja.mk (Ua (g:=Td) (o:=.cells #[.slice wh ((Aa Da Ra).f0).length uh,.int .i64 ((Aa Da Ra).f1),.int .i64 ((Aa Da Ra).f2),.int .i64 ((Aa Da Ra).f3),.int .i64 ((Aa Da Ra).f4)] 59 (0,0)) (by (with_reducible repeat (first|refine Ba ?_ _|refine Ea ?_|refine Ca ?_ _));exact Uc.out) hb);have Gf:=ja.mk (Kd.Ob (by repeat (first|(with_reducible exact oh.out)|(with_reducible refine Kd.Pb ?_ _)|(with_reducible refine Kd.Nb ?_ _)|(with_reducible refine Kd.Zb ?_)|exact oh.out)) hb);have Yf:=ja.mk (Qa (by repeat (first|(with_reducible first|exact HB.out|apply qa|apply ia|apply ta|refine ua ?_ Sa.out|refine ua ?_ bq.out)|exact HB.out)) hb);clear Sg Vy oa Uc oh HB;have Sg:=Fb;have Vy:=Ib;have zg:=Sb;have oa:=Ec;have Uc:=Re;have oh:=Gf;have HB:=Yf;clear Fb Ib Sb Ec Re Gf Yf;(try clear hb);(try clear Hi);(try clear hk);(try clear hi);(try clear Am);refine hK.out _ _ ⟨(ga Uc.out 0).trans rfl,(ga Uc.out 1).trans rfl,(ga Uc.out 2).trans rfl,(ga Uc.out 3).trans rfl,(ga Uc.out 4).trans rfl,E0⟩ (fun hHeld=>?_);clear hK K;refine Eo (a':=?_) ?_ ?_;rotate_left
       ·show Act.put _ (some 34) _=_
        simp only [Act.put,List.setIfInBounds_toArray,List.set_cons_zero,List.set_cons_succ,Xb,Yb]
        rfl
       refine Wc (i:=6) (N:=some 7) (v:=?_) (a':=?_) #[true,true,true,true,true,true,true] rfl rfl (by kernel_rfl) (fun _ _ _ h=>h) (Or.inl ⟨by rfl,?_⟩) ?_ ?_;rotate_left
       ·intro w';go_simp;with_reducible rfl
       rotate_left
       ·simp only [Act.put,List.setIfInBounds_toArray,List.set_cons_zero,List.set_cons_succ,Xb,Yb]
        rfl
       refine Tp (by kernel_rfl) ?_;obtain ⟨Et,bt,zak⟩:=Kd.De zg.out;subst zak
       go_upto_region 11 with (first|((with_reducible refine jb (f:=43) rfl ?_);refine Fc (some 36) rfl rfl Try.func43 (by kernel_rfl) rfl #[.slice Et t109.length bt] rfl (by (try simp only [List.map_toArray,List.map_cons,List.map_nil]);first|done|rfl|(simp only [List.length_drop,List.length_take];rfl)) ?_;(with_reducible refine (Rc.calls k1 _ _ t109 t112 _ ?yc ?uc I1.out).mono ?_);(case yc=>repeat (first|exact (Kd.Lc zg.out).2.2|(with_reducible refine Kd.Pb ?_ _)|(with_reducible refine Kd.Nb ?_ _)|(with_reducible refine Kd.Zb ?_)));(case uc=>exact (Kd.Lc zg.out).2.1);rintro e w' ⟨rfl,⟨nd,rfl⟩⟩;refine ⟨_,rfl,?_⟩))
       (try simp only [Act.put,List.setIfInBounds_toArray,List.set_cons_zero,List.set_cons_succ])
       go_cut [45] (fun v45 wc=>∃ (kq:Nat) (zE:Bool),v45 = .bool zE∧ja (qb.j1 kq ld t103 Ra t109 t112 zE Pa Ka Ga Ia Da ((Aa Da Ra).f0) ((Aa Da Ra).f1) ((Aa Da Ra).f2) ((Aa Da Ra).f3) ((Aa Da Ra).f4)=some r)∧ja (kq ≤ k1)∧ja (Kd.S (Kd.slice 4 Kd.bool) 60 wc w.heap.size (fun k_=>some k_ ≠ ((.slice Et t109.length bt):Value).ownBlock) (.slice (some WN) t103.length iP) t103)∧ja (Kd.R Kd.bool 4 wc w.heap.size (fun _=>True) (.slice Et t109.length bt) t109)∧ja (wc.heap[ya]? = some (.cells #[(.slice Ya Pa.length Za),.int .i64 Ka,.int .i64 Ga,.int .i64 Ia,(.slice (some Ny) Da.length Jb)] 30 (0,0)))∧ja (wc.heap[Td]? = some (.cells #[(.slice wh ((Aa Da Ra).f0).length uh),.int .i64 ((Aa Da Ra).f1),.int .i64 ((Aa Da Ra).f2),.int .i64 ((Aa Da Ra).f3),.int .i64 ((Aa Da Ra).f4)] 59 (0,0)))∧ja (Kd.C Kd.bool wc aH (Md t103 Ra).length (Md t103 Ra))∧ja (Below w.heap.size w wc))
       case first =>
        have H:=S0.out;clear S0
        by_cases aD:t112 > ld
        ·rw [if_pos aD] at H;have Jt:decide (ld < t112)=true:=decide_eq_true aD;clear aD;(first|rw [Jt]|(simp only [Xb,Yb];rw [Jt])|skip);have H':=ja.mk H;clear H;have KW:=Jq.out;have EW:=Gi.out;have Lm:vD.cell? ⟨Td,0,none⟩=some (.slice wh ((Aa Da Ra).f0).length uh):=(ga Uc.out 0).trans rfl;have Km:vD.cell? ⟨Td,1,none⟩=some (.int .i64 ((Aa Da Ra).f1)):=(ga Uc.out 1).trans rfl;have Jm:vD.cell? ⟨Td,2,none⟩=some (.int .i64 ((Aa Da Ra).f2)):=(ga Uc.out 2).trans rfl;have Im:vD.cell? ⟨Td,3,none⟩=some (.int .i64 ((Aa Da Ra).f3)):=(ga Uc.out 3).trans rfl;have Gm:vD.cell? ⟨Td,4,none⟩=some (.int .i64 ((Aa Da Ra).f4)):=(ga Uc.out 4).trans rfl;have Fm:=aa Uc.out 0;have Em:=aa Uc.out 1;have Dm:=aa Uc.out 2;have Cm:=aa Uc.out 3;have Bm:=aa Uc.out 4;go_wp2
         go_meet
         case rel=>exact ⟨_,(decide ((((Aa Da Ra).f0).length:Int) > 0)),(by first|rfl|(simp;done)|(simp [*];done)),H',⟨by have:=lg.out;first|omega|exact Nat.le_refl _⟩,⟨by (with_reducible repeat (first|apply Kd.Zc|apply Kd.Yc|apply Kd.Jd));exact Kd.sg Sg.out (fun _ hk=>hk.2)⟩,⟨by (with_reducible repeat (first|apply Kd.Ab|apply Kd.zb|apply Kd.Rb));exact Kd.fe zg.out (fun _ hk=>trivial)⟩,⟨by (with_reducible repeat (first|refine Ba ?_ _|refine Ea ?_|refine Ca ?_ _));exact oa.out⟩,⟨by (with_reducible repeat (first|refine Ba ?_ _|refine Ea ?_|refine Ca ?_ _));exact Uc.out⟩,⟨by repeat (first|(with_reducible exact oh.out)|(with_reducible refine Kd.Pb ?_ _)|(with_reducible refine Kd.Nb ?_ _)|(with_reducible refine Kd.Zb ?_)|exact oh.out)⟩,⟨by repeat (first|(with_reducible first|exact HB.out|apply qa|apply ia|apply ta|refine ua ?_ Sa.out|refine ua ?_ bq.out)|exact HB.out)⟩⟩
        ·rw [if_neg aD] at H;have Jt:decide (ld < t112)=false:=decide_eq_false aD;clear aD;(first|rw [Jt]|(simp only [Xb,Yb];rw [Jt])|skip);have H':=ja.mk H;clear H;go_wp2
         go_meet
         case rel=>exact ⟨_,(false),(by first|rfl|(simp;done)|(simp [*];done)),H',⟨by have:=lg.out;first|omega|exact Nat.le_refl _⟩,⟨by (with_reducible repeat (first|apply Kd.Zc|apply Kd.Yc|apply Kd.Jd));exact Kd.sg Sg.out (fun _ hk=>hk.2)⟩,⟨by (with_reducible repeat (first|apply Kd.Ab|apply Kd.zb|apply Kd.Rb));exact Kd.fe zg.out (fun _ hk=>trivial)⟩,⟨by (with_reducible repeat (first|refine Ba ?_ _|refine Ea ?_|refine Ca ?_ _));exact oa.out⟩,⟨by (with_reducible repeat (first|refine Ba ?_ _|refine Ea ?_|refine Ca ?_ _));exact Uc.out⟩,⟨by repeat (first|(with_reducible exact oh.out)|(with_reducible refine Kd.Pb ?_ _)|(with_reducible refine Kd.Nb ?_ _)|(with_reducible refine Kd.Zb ?_)|exact oh.out)⟩,⟨by repeat (first|(with_reducible first|exact HB.out|apply qa|apply ia|apply ta|refine ua ?_ Sa.out|refine ua ?_ bq.out)|exact HB.out)⟩⟩
       case rest =>
        clear S0
        try clear c1
        try clear p1
        try clear q1
        try clear hx1
        try clear c2
        try clear p2
        try clear c3
        try clear c4
        try clear Wp
        try clear Oo
        try clear wI
        try clear vI
        try clear zQ
        try clear Hz
        try clear cD
        try clear nu
        try clear bD
        try clear xq
        try clear aD
        try clear Jt
        try clear gK
        try clear ji
        try clear ei
        try clear di
        try clear ai
        try clear Zh
        try clear xy
        try clear uy
        try clear sy
        try clear ry
        try clear qy
        try clear Lm
        try clear Km
        try clear Jm
        try clear Im
        try clear Gm
        try clear Sj
        try clear Rj
        try clear Qj
        try clear Pj
        try clear Oj
        try clear vq
        try clear uq
        try clear tq
        try clear sq
        try clear rq
        try clear Yh
        try clear Xh
        try clear Wh
        try clear Vh
        try clear Uh
        try clear Qx
        try clear Px
        try clear Ox
        try clear Nx
        try clear Mx
        try clear Fm
        try clear Em
        try clear Dm
        try clear Cm
        try clear Bm
        try clear Nj
        try clear Mj
        try clear Lj
        try clear Kj
        try clear Jj
        try clear qq
        try clear pq
        try clear oq
        try clear mq
        try clear lq
        try clear xp
        try clear vp
        try clear qp
        try clear lp
        try clear gp
        try clear Gu
        try clear GD
        try clear YI
        try clear p2
        try clear FD
        try clear RI
        obtain ⟨kq,zE,rfl,HA,WD,Sg,Cf,oa,Uc,oh,HB⟩:=hcut;cases kq with
        | zero=>exact absurd HA.out (by simp [qb.j1])
        | succ WX =>
         have H:=HA.out;clear HA;simp only [qb.j1] at H;have CK:=ja.mk H;clear H
         go_upto_if 45 with (fail)
         go_cut [3] (fun v3 wc=>∃ (kq:Nat) (GK:Int),v3 = .int .i64 GK∧ja (qb.j2 kq GK t103 Ra t109 Pa Ka Ga Ia Da ((Aa Da Ra).f0) ((Aa Da Ra).f1) ((Aa Da Ra).f2) ((Aa Da Ra).f3) ((Aa Da Ra).f4)=some r)∧ja (kq ≤ WX)∧ja (Kd.S (Kd.slice 4 Kd.bool) 60 wc w.heap.size (fun k_=>some k_ ≠ ((.slice Et t109.length bt):Value).ownBlock) (.slice (some WN) t103.length iP) t103)∧ja (Kd.R Kd.bool 4 wc w.heap.size (fun _=>True) (.slice Et t109.length bt) t109)∧ja (wc.heap[ya]? = some (.cells #[(.slice Ya Pa.length Za),.int .i64 Ka,.int .i64 Ga,.int .i64 Ia,(.slice (some Ny) Da.length Jb)] 30 (0,0)))∧ja (wc.heap[Td]? = some (.cells #[(.slice wh ((Aa Da Ra).f0).length uh),.int .i64 ((Aa Da Ra).f1),.int .i64 ((Aa Da Ra).f2),.int .i64 ((Aa Da Ra).f3),.int .i64 ((Aa Da Ra).f4)] 59 (0,0)))∧ja (Kd.C Kd.bool wc aH (Md t103 Ra).length (Md t103 Ra))∧ja (Below w.heap.size w wc))
         case first =>
          have H:=CK.out;clear CK
          by_cases oE:zE=true
          ·subst oE;have H1:(qb.j2 WX t112 t103 Ra t109 Pa Ka Ga Ia Da ((Aa Da Ra).f0) ((Aa Da Ra).f1) ((Aa Da Ra).f2) ((Aa Da Ra).f3) ((Aa Da Ra).f4))=some r:=by rw [if_pos rfl] at H;exact H
           clear H;have H:=H1;clear H1;have H':=ja.mk H;clear H;go_wp2
           go_meet
           case rel=>exact ⟨_,(t112),(by first|rfl|(simp;done)|(simp [*];done)),H',⟨by have:=lg.out;have:=WD.out;first|omega|exact Nat.le_refl _⟩,⟨by (with_reducible repeat (first|apply Kd.Zc|apply Kd.Yc|apply Kd.Jd));exact Sg.out⟩,⟨by (with_reducible repeat (first|apply Kd.Ab|apply Kd.zb|apply Kd.Rb));exact Cf.out⟩,⟨by (with_reducible repeat (first|refine Ba ?_ _|refine Ea ?_|refine Ca ?_ _));exact oa.out⟩,⟨by (with_reducible repeat (first|refine Ba ?_ _|refine Ea ?_|refine Ca ?_ _));exact Uc.out⟩,⟨by repeat (first|(with_reducible exact oh.out)|(with_reducible refine Kd.Pb ?_ _)|(with_reducible refine Kd.Nb ?_ _)|(with_reducible refine Kd.Zb ?_)|exact oh.out)⟩,⟨by repeat (first|(with_reducible first|exact HB.out|apply qa|apply ia|apply ta|refine ua ?_ Sa.out|refine ua ?_ bq.out)|exact HB.out)⟩⟩
          ·replace oE:=Bool.eq_false_iff.mpr oE;subst oE;have H1:(qb.j2 WX ld t103 Ra t109 Pa Ka Ga Ia Da ((Aa Da Ra).f0) ((Aa Da Ra).f1) ((Aa Da Ra).f2) ((Aa Da Ra).f3) ((Aa Da Ra).f4))=some r:=by rw [if_neg (show ¬ (false=true) by decide)] at H;exact H
           clear H;have H:=H1;clear H1;have H':=ja.mk H;clear H;go_wp2
           go_meet
           case rel=>exact ⟨_,(ld),(by first|rfl|(simp;done)|(simp [*];done)),H',⟨by have:=lg.out;have:=WD.out;first|omega|exact Nat.le_refl _⟩,⟨by (with_reducible repeat (first|apply Kd.Zc|apply Kd.Yc|apply Kd.Jd));exact Sg.out⟩,⟨by (with_reducible repeat (first|apply Kd.Ab|apply Kd.zb|apply Kd.Rb));exact Cf.out⟩,⟨by (with_reducible repeat (first|refine Ba ?_ _|refine Ea ?_|refine Ca ?_ _));exact oa.out⟩,⟨by (with_reducible repeat (first|refine Ba ?_ _|refine Ea ?_|refine Ca ?_ _));exact Uc.out⟩,⟨by repeat (first|(with_reducible exact oh.out)|(with_reducible refine Kd.Pb ?_ _)|(with_reducible refine Kd.Nb ?_ _)|(with_reducible refine Kd.Zb ?_)|exact oh.out)⟩,⟨by repeat (first|(with_reducible first|exact HB.out|apply qa|apply ia|apply ta|refine ua ?_ Sa.out|refine ua ?_ bq.out)|exact HB.out)⟩⟩
         case rest =>
          clear CK
          try clear c1
          try clear p1
          try clear q1
          try clear hx1
          try clear c2
          try clear p2
          try clear c3
          try clear c4
          try clear Wp
          try clear Oo
          try clear wI
          try clear vI
          try clear zQ
          try clear Hz
          try clear cD
          try clear nu
          try clear bD
          try clear xq
          try clear aD
          try clear Jt
          try clear gK
          try clear oE
          try clear ji
          try clear ei
          try clear di
          try clear ai
          try clear Zh
          try clear xy
          try clear uy
          try clear sy
          try clear ry
          try clear qy
          try clear Lm
          try clear Km
          try clear Jm
          try clear Im
          try clear Gm
          try clear Sj
          try clear Rj
          try clear Qj
          try clear Pj
          try clear Oj
          try clear vq
          try clear uq
          try clear tq
          try clear sq
          try clear rq
          try clear Yh
          try clear Xh
          try clear Wh
          try clear Vh
          try clear Uh
          try clear Qx
          try clear Px
          try clear Ox
          try clear Nx
          try clear Mx
          try clear Fm
          try clear Em
          try clear Dm
          try clear Cm
          try clear Bm
          try clear Nj
          try clear Mj
          try clear Lj
          try clear Kj
          try clear Jj
          try clear qq
          try clear pq
          try clear oq
          try clear mq
          try clear lq
          try clear xp
          try clear vp
          try clear qp
          try clear lp
          try clear gp
          try clear Gu
          try clear p1
          try clear wI
          try clear GD
          try clear YI
          try clear p2
          try clear q1
          try clear vI
          try clear FD
          try clear RI
          obtain ⟨kq,GK,rfl,HA,XG,Sg,Cf,oa,Uc,oh,HB⟩:=hcut;cases kq with
          | zero=>exact absurd HA.out (by simp [qb.j2])
          | succ SE =>
           have H:=HA.out;clear HA;simp only [qb.j2] at H;have H':=ja.mk H;clear H;have C4:=Jq.out;have U3:=Gi.out;have Fs:wc.cell? ⟨Td,0,none⟩=some (.slice wh ((Aa Da Ra).f0).length uh):=(ga Uc.out 0).trans rfl;have Es:wc.cell? ⟨Td,1,none⟩=some (.int .i64 ((Aa Da Ra).f1)):=(ga Uc.out 1).trans rfl;have Ds:wc.cell? ⟨Td,2,none⟩=some (.int .i64 ((Aa Da Ra).f2)):=(ga Uc.out 2).trans rfl;have Cs:wc.cell? ⟨Td,3,none⟩=some (.int .i64 ((Aa Da Ra).f3)):=(ga Uc.out 3).trans rfl;have Bs:wc.cell? ⟨Td,4,none⟩=some (.int .i64 ((Aa Da Ra).f4)):=(ga Uc.out 4).trans rfl;have Br:=aa Uc.out 0;have Ar:=aa Uc.out 1;have vr:=aa Uc.out 2;have ur:=aa Uc.out 3;have tr:=aa Uc.out 4;go_wp2
           go_loopg [3,9] SE (fun kq v3 v9 w'=>∃ (Yj:Int) (cq:List Bool) (yg:Int),v3 = .int .i64 Yj∧v9 = .int .i64 yg∧ja (qb.l1 kq Yj t103 Ra cq yg Pa Ka Ga Ia Da ((Aa Da Ra).f0) ((Aa Da Ra).f1) ((Aa Da Ra).f2) ((Aa Da Ra).f3) ((Aa Da Ra).f4)=some r)∧ja (kq ≤ SE)∧ja (Kd.S (Kd.slice 4 Kd.bool) 60 w' w.heap.size (fun k_=>some k_ ≠ ((.slice Et t109.length bt):Value).ownBlock) (.slice (some WN) t103.length iP) t103)∧ja (Kd.R Kd.bool 4 w' w.heap.size (fun _=>True) (.slice Et t109.length bt) cq)∧ja (w'.heap[ya]? = some (.cells #[(.slice Ya Pa.length Za),.int .i64 Ka,.int .i64 Ga,.int .i64 Ia,(.slice (some Ny) Da.length Jb)] 30 (0,0)))∧ja (w'.heap[Td]? = some (.cells #[(.slice wh ((Aa Da Ra).f0).length uh),.int .i64 ((Aa Da Ra).f1),.int .i64 ((Aa Da Ra).f2),.int .i64 ((Aa Da Ra).f3),.int .i64 ((Aa Da Ra).f4)] 59 (0,0)))∧ja (Below w.heap.size w w'))
           case atStart=>exact ⟨(GK),(t109),(wrap64 ((((Aa Da Ra).f0).length:Int) - 1)),(by first|rfl|(simp;done)|(simp [*];done)),(by first|rfl|(simp;done)|(simp [*];done)),H',⟨Nat.le_refl _⟩,⟨by (with_reducible repeat (first|apply Kd.Zc|apply Kd.Yc|apply Kd.Jd));exact Sg.out⟩,⟨by (with_reducible repeat (first|apply Kd.Ab|apply Kd.zb|apply Kd.Rb));exact Cf.out⟩,⟨by (with_reducible repeat (first|refine Ba ?_ _|refine Ea ?_|refine Ca ?_ _));exact oa.out⟩,⟨by (with_reducible repeat (first|refine Ba ?_ _|refine Ea ?_|refine Ca ?_ _));exact Uc.out⟩,⟨by repeat (first|(with_reducible first|exact HB.out|apply qa|apply ia|apply ta|refine ua ?_ Sa.out|refine ua ?_ bq.out)|exact HB.out)⟩⟩
           case round =>
            clear H'
            try clear c1
            try clear p1
            try clear q1
            try clear hx1
            try clear c2
            try clear p2
            try clear c3
            try clear c4
            try clear p6
            try clear Wp
            try clear Oo
            try clear wI
            try clear vI
            try clear zQ
            try clear Hz
            try clear cD
            try clear nu
            try clear bD
            try clear xq
            try clear aD
            try clear Jt
            try clear gK
            try clear oE
            try clear gI
            try clear ji
            try clear ei
            try clear di
            try clear ai
            try clear Zh
            try clear xy
            try clear uy
            try clear sy
            try clear ry
            try clear qy
            try clear Lm
            try clear Km
            try clear Jm
            try clear Im
            try clear Gm
            try clear Fs
            try clear Es
            try clear Ds
            try clear Cs
            try clear Bs
            try clear Sj
            try clear Rj
            try clear Qj
            try clear Pj
            try clear Oj
            try clear vq
            try clear uq
            try clear tq
            try clear sq
            try clear rq
            try clear Yh
            try clear Xh
            try clear Wh
            try clear Vh
            try clear Uh
            try clear Qx
            try clear Px
            try clear Ox
            try clear Nx
            try clear Mx
            try clear Fm
            try clear Em
            try clear Dm
            try clear Cm
            try clear Bm
            try clear Br
            try clear Ar
            try clear vr
            try clear ur
            try clear tr
            try clear Nj
            try clear Mj
            try clear Lj
            try clear Kj
            try clear Jj
            try clear qq
            try clear pq
            try clear oq
            try clear mq
            try clear lq
            try clear xp
            try clear vp
            try clear qp
            try clear lp
            try clear gp
            try clear Gu
            try clear p1
            try clear wI
            try clear GD
            try clear YI
            try clear p2
            try clear q1
            try clear vI
            try clear FD
            try clear RI
            (try clear HA);(try clear VD);(try clear Sg);(try clear Cf);(try clear oa);(try clear Uc);(try clear HB);obtain ⟨Yj,cq,yg,rfl,rfl,HA,VD,Sg,Cf,oa,Uc,HB⟩:=hrel;have ak:=(Kd.Lc Cf.out).1;rw [ak] at Cf;(try simp only [ak]);(try simp only [ak] at oa);(try simp only [ak] at Uc);(try simp only [ak] at Sg);cases gk with
            | zero=>exact absurd HA.out (by simp [qb.l1])
            | succ k4 =>
             have H:=HA.out;clear HA;simp only [qb.l1] at H
             by_cases uR:yg ≥ 0
             ·rw [if_pos uR] at H;have Z9:decide (0 ≤ yg)=true:=decide_eq_true uR;clear uR
              by_cases fI:0 ≤ yg
              ·rw [if_pos fI] at H;have YW:decide (0 ≤ yg)=true:=decide_eq_true fI;clear fI
               by_cases wD:yg < (((Aa Da Ra).f0).length:Int)
               ·rw [if_pos wD] at H;have tR:decide (yg < (((Aa Da Ra).f0).length:Int))=true:=decide_eq_true wD;clear wD;replace H:=Option.bind_eq_some_iff.mp H;obtain ⟨t115,Naa,H⟩:=H;replace H:((Rc.f k4 t115).bind fun t116=>(if t116 > Yj then (qb.l1 k4 t116 t103 Ra t115 (wrap64 (yg - 1)) Pa Ka Ga Ia Da ((Aa Da Ra).f0) ((Aa Da Ra).f1) ((Aa Da Ra).f2) ((Aa Da Ra).f3) ((Aa Da Ra).f4)) else (qb.l1 k4 Yj t103 Ra t115 (wrap64 (yg - 1)) Pa Ka Ga Ia Da ((Aa Da Ra).f0) ((Aa Da Ra).f1) ((Aa Da Ra).f2) ((Aa Da Ra).f3) ((Aa Da Ra).f4))))=some r:=H;have A35:=ja.mk Naa;clear Naa;replace H:=Option.bind_eq_some_iff.mp H;obtain ⟨t116,Maa,H⟩:=H;replace H:(if t116 > Yj then (qb.l1 k4 t116 t103 Ra t115 (wrap64 (yg - 1)) Pa Ka Ga Ia Da ((Aa Da Ra).f0) ((Aa Da Ra).f1) ((Aa Da Ra).f2) ((Aa Da Ra).f3) ((Aa Da Ra).f4)) else (qb.l1 k4 Yj t103 Ra t115 (wrap64 (yg - 1)) Pa Ka Ga Ia Da ((Aa Da Ra).f0) ((Aa Da Ra).f1) ((Aa Da Ra).f2) ((Aa Da Ra).f3) ((Aa Da Ra).f4)))=some r:=H;have A36:=ja.mk Maa;clear Maa
                by_cases CP:t116 > Yj
                ·rw [if_pos CP] at H;have X9:decide (Yj < t116)=true:=decide_eq_true CP;clear CP;have H':=ja.mk H;clear H;have p4:=Jq.out;have R3:=Gi.out;have vB:wr.cell? ⟨Td,0,none⟩=some (.slice wh ((Aa Da Ra).f0).length uh):=(ga Uc.out 0).trans rfl;have uB:wr.cell? ⟨Td,1,none⟩=some (.int .i64 ((Aa Da Ra).f1)):=(ga Uc.out 1).trans rfl;have tB:wr.cell? ⟨Td,2,none⟩=some (.int .i64 ((Aa Da Ra).f2)):=(ga Uc.out 2).trans rfl;have sB:wr.cell? ⟨Td,3,none⟩=some (.int .i64 ((Aa Da Ra).f3)):=(ga Uc.out 3).trans rfl;have rB:wr.cell? ⟨Td,4,none⟩=some (.int .i64 ((Aa Da Ra).f4)):=(ga Uc.out 4).trans rfl;have MA:=aa Uc.out 0;have LA:=aa Uc.out 1;have KA:=aa Uc.out 2;have JA:=aa Uc.out 3;have IA:=aa Uc.out 4;have WI:0 ≤ (yg:Int):=Wa;have PI:yg < (((Aa Da Ra).f0).length:Int):=Wa;obtain ⟨z_,iZ,Hw,Gw,Fw,Ew,Dw,Cw,Bw⟩:=um VG.out yg WI PI;cases iZ
                 try replace Hw:=Na HB.out Hw
                 try replace Gw:=Na HB.out Gw
                 try replace Fw:=Na HB.out Fw
                 try replace Ew:=Na HB.out Ew
                 try replace Dw:=Na HB.out Dw
                 try replace Cw:=Na HB.out Cw
                 try replace Bw:=Na HB.out Bw
                 replace WI:=eq_true WI;replace PI:=eq_true PI;go_wp2_with (first|((with_reducible refine jb (f:=44) rfl ?_);refine Fc (some 61) rfl rfl Try.func44 (by kernel_rfl) rfl #[.agg #[.int .i64 ((Ta ((Aa Da Ra).f0) yg).f0),.int .i64 ((Ta ((Aa Da Ra).f0) yg).f1),.int .i64 ((Ta ((Aa Da Ra).f0) yg).f2),.int .i64 ((Ta ((Aa Da Ra).f0) yg).f3),.int .i64 ((Ta ((Aa Da Ra).f0) yg).f4),.int .i64 ((Ta ((Aa Da Ra).f0) yg).f5),.string ((Ta ((Aa Da Ra).f0) yg).f6)],.slice Et cq.length bt] rfl (by (try simp only [List.map_toArray,List.map_cons,List.map_nil]);first|done|rfl|(simp only [List.length_drop,List.length_take];rfl)) ?_;(with_reducible refine (tc.calls k4 ((Ta ((Aa Da Ra).f0) yg).f0) ((Ta ((Aa Da Ra).f0) yg).f1) ((Ta ((Aa Da Ra).f0) yg).f2) ((Ta ((Aa Da Ra).f0) yg).f3) ((Ta ((Aa Da Ra).f0) yg).f4) ((Ta ((Aa Da Ra).f0) yg).f5) ((Ta ((Aa Da Ra).f0) yg).f6) (fun k_=>some k_=(.slice Et cq.length bt:Value).ownBlock) (.slice Et cq.length bt) cq t115 w _ ?yc ?uc A35.out).mono ?_);(case yc=>repeat (first|(with_reducible first|exact HB.out|apply qa|apply ia|apply ta|refine ua ?_ Sa.out|refine ua ?_ bq.out)|exact HB.out));(case uc=>exact Kd.Yp rfl Cf.out);rintro e w40 ⟨rfl,hy0,hb,hkp⟩;refine ⟨_,rfl,?_⟩;have Fb:=ja.mk (Kd.sg (Cv:=fun k_=>some k_ ≠ (.slice Et cq.length bt:Value).ownBlock) (Kd.YN (Sg.out) hkp (fun k_ OQ hs_=>(OQ) hs_)) (fun k_ OQ=>OQ.1));have Ib:=ja.mk (Kd.QG rfl hy0 (fun k_ e_=>Cf.out.1 k_ e_));have Sb:=ja.mk (Kh (by (with_reducible repeat (first|refine Ba ?_ _|refine Ea ?_|refine Ca ?_ _));exact oa.out) hkp (fun hs_=>(fun e_=>(Kd.Vj Cf.out oa.out (by decide)) e_) hs_));have Ec:=ja.mk (Kh (by (with_reducible repeat (first|refine Ba ?_ _|refine Ea ?_|refine Ca ?_ _));exact Uc.out) hkp (fun hs_=>(fun e_=>(Kd.Vj Cf.out Uc.out (by decide)) e_) hs_));have Re:=ja.mk (hb);clear Sg Cf oa Uc HB;have Sg:=Fb;have Cf:=Ib;have oa:=Sb;have Uc:=Ec;have HB:=Re;clear Fb Ib Sb Ec Re;(try clear hb);(try clear hkp);(try clear hy0))|((with_reducible refine jb (f:=43) rfl ?_);refine Fc (some 63) rfl rfl Try.func43 (by kernel_rfl) rfl #[.slice Et t115.length bt] rfl (by (try simp only [List.map_toArray,List.map_cons,List.map_nil]);first|done|(rw [show t115.length=cq.length from (Kd.Lc Cf.out).1.symm] <;> rfl)|rfl|(simp only [List.length_drop,List.length_take];rfl)) ?_;(with_reducible refine (Rc.calls k4 _ _ t115 t116 _ ?yc ?uc A36.out).mono ?_);(case yc=>repeat (first|exact (Kd.Lc Cf.out).2.2|(with_reducible refine Kd.Pb ?_ _)|(with_reducible refine Kd.Nb ?_ _)|(with_reducible refine Kd.Zb ?_)));(case uc=>rw [show t115.length=cq.length from (Kd.Lc Cf.out).1.symm];exact (Kd.Lc Cf.out).2.1);rintro e w' ⟨rfl,⟨nd,rfl⟩⟩;refine ⟨_,rfl,?_⟩));(try simp only [← ak])
                 go_roundg k4
                 case measure=>have:=lg.out;have:=WD.out;have:=XG.out;have:=VD.out;omega
                 case rel=>exact ⟨(t116),(t115),(wrap64 (yg - 1)),(by first|rfl|(simp;done)|(simp [*];done)),(by first|rfl|(simp;done)|(simp [*];done)),H',⟨by have:=lg.out;have:=WD.out;have:=XG.out;have:=VD.out;omega⟩,⟨by (try simp only [ak]);(with_reducible repeat (first|apply Kd.Zc|apply Kd.Yc|apply Kd.Jd));exact Sg.out⟩,⟨by (try simp only [ak]);(with_reducible repeat (first|apply Kd.Ab|apply Kd.zb|apply Kd.Rb));exact Cf.out⟩,⟨by (try simp only [ak]);(with_reducible repeat (first|refine Ba ?_ _|refine Ea ?_|refine Ca ?_ _));exact oa.out⟩,⟨by (try simp only [ak]);(with_reducible repeat (first|refine Ba ?_ _|refine Ea ?_|refine Ca ?_ _));exact Uc.out⟩,⟨by repeat (first|(with_reducible first|exact HB.out|apply qa|apply ia|apply ta|refine ua ?_ Sa.out|refine ua ?_ bq.out)|exact HB.out)⟩⟩
                ·rw [if_neg CP] at H;have X9:decide (Yj < t116)=false:=decide_eq_false CP;clear CP;have H':=ja.mk H;clear H;have IW:=Jq.out;have CW:=Gi.out;have qB:wr.cell? ⟨Td,0,none⟩=some (.slice wh ((Aa Da Ra).f0).length uh):=(ga Uc.out 0).trans rfl;have oB:wr.cell? ⟨Td,1,none⟩=some (.int .i64 ((Aa Da Ra).f1)):=(ga Uc.out 1).trans rfl;have nB:wr.cell? ⟨Td,2,none⟩=some (.int .i64 ((Aa Da Ra).f2)):=(ga Uc.out 2).trans rfl;have mB:wr.cell? ⟨Td,3,none⟩=some (.int .i64 ((Aa Da Ra).f3)):=(ga Uc.out 3).trans rfl;have lB:wr.cell? ⟨Td,4,none⟩=some (.int .i64 ((Aa Da Ra).f4)):=(ga Uc.out 4).trans rfl;have GA:=aa Uc.out 0;have FA:=aa Uc.out 1;have EA:=aa Uc.out 2;have DA:=aa Uc.out 3;have CA:=aa Uc.out 4;have WI:0 ≤ (yg:Int):=Wa;have PI:yg < (((Aa Da Ra).f0).length:Int):=Wa;obtain ⟨z_,iZ,Hw,Gw,Fw,Ew,Dw,Cw,Bw⟩:=um VG.out yg WI PI;cases iZ
                 try replace Hw:=Na HB.out Hw
                 try replace Gw:=Na HB.out Gw
                 try replace Fw:=Na HB.out Fw
                 try replace Ew:=Na HB.out Ew
                 try replace Dw:=Na HB.out Dw
                 try replace Cw:=Na HB.out Cw
                 try replace Bw:=Na HB.out Bw
                 replace WI:=eq_true WI;replace PI:=eq_true PI;go_wp2_with (first|((with_reducible refine jb (f:=44) rfl ?_);refine Fc (some 61) rfl rfl Try.func44 (by kernel_rfl) rfl #[.agg #[.int .i64 ((Ta ((Aa Da Ra).f0) yg).f0),.int .i64 ((Ta ((Aa Da Ra).f0) yg).f1),.int .i64 ((Ta ((Aa Da Ra).f0) yg).f2),.int .i64 ((Ta ((Aa Da Ra).f0) yg).f3),.int .i64 ((Ta ((Aa Da Ra).f0) yg).f4),.int .i64 ((Ta ((Aa Da Ra).f0) yg).f5),.string ((Ta ((Aa Da Ra).f0) yg).f6)],.slice Et cq.length bt] rfl (by (try simp only [List.map_toArray,List.map_cons,List.map_nil]);first|done|rfl|(simp only [List.length_drop,List.length_take];rfl)) ?_;(with_reducible refine (tc.calls k4 ((Ta ((Aa Da Ra).f0) yg).f0) ((Ta ((Aa Da Ra).f0) yg).f1) ((Ta ((Aa Da Ra).f0) yg).f2) ((Ta ((Aa Da Ra).f0) yg).f3) ((Ta ((Aa Da Ra).f0) yg).f4) ((Ta ((Aa Da Ra).f0) yg).f5) ((Ta ((Aa Da Ra).f0) yg).f6) (fun k_=>some k_=(.slice Et cq.length bt:Value).ownBlock) (.slice Et cq.length bt) cq t115 w _ ?yc ?uc A35.out).mono ?_);(case yc=>repeat (first|(with_reducible first|exact HB.out|apply qa|apply ia|apply ta|refine ua ?_ Sa.out|refine ua ?_ bq.out)|exact HB.out));(case uc=>exact Kd.Yp rfl Cf.out);rintro e w43 ⟨rfl,hy0,hb,hkp⟩;refine ⟨_,rfl,?_⟩;have Fb:=ja.mk (Kd.sg (Cv:=fun k_=>some k_ ≠ (.slice Et cq.length bt:Value).ownBlock) (Kd.YN (Sg.out) hkp (fun k_ OQ hs_=>(OQ) hs_)) (fun k_ OQ=>OQ.1));have Ib:=ja.mk (Kd.QG rfl hy0 (fun k_ e_=>Cf.out.1 k_ e_));have Sb:=ja.mk (Kh (by (with_reducible repeat (first|refine Ba ?_ _|refine Ea ?_|refine Ca ?_ _));exact oa.out) hkp (fun hs_=>(fun e_=>(Kd.Vj Cf.out oa.out (by decide)) e_) hs_));have Ec:=ja.mk (Kh (by (with_reducible repeat (first|refine Ba ?_ _|refine Ea ?_|refine Ca ?_ _));exact Uc.out) hkp (fun hs_=>(fun e_=>(Kd.Vj Cf.out Uc.out (by decide)) e_) hs_));have Re:=ja.mk (hb);clear Sg Cf oa Uc HB;have Sg:=Fb;have Cf:=Ib;have oa:=Sb;have Uc:=Ec;have HB:=Re;clear Fb Ib Sb Ec Re;(try clear hb);(try clear hkp);(try clear hy0))|((with_reducible refine jb (f:=43) rfl ?_);refine Fc (some 63) rfl rfl Try.func43 (by kernel_rfl) rfl #[.slice Et t115.length bt] rfl (by (try simp only [List.map_toArray,List.map_cons,List.map_nil]);first|done|(rw [show t115.length=cq.length from (Kd.Lc Cf.out).1.symm] <;> rfl)|rfl|(simp only [List.length_drop,List.length_take];rfl)) ?_;(with_reducible refine (Rc.calls k4 _ _ t115 t116 _ ?yc ?uc A36.out).mono ?_);(case yc=>repeat (first|exact (Kd.Lc Cf.out).2.2|(with_reducible refine Kd.Pb ?_ _)|(with_reducible refine Kd.Nb ?_ _)|(with_reducible refine Kd.Zb ?_)));(case uc=>rw [show t115.length=cq.length from (Kd.Lc Cf.out).1.symm];exact (Kd.Lc Cf.out).2.1);rintro e w' ⟨rfl,⟨nd,rfl⟩⟩;refine ⟨_,rfl,?_⟩));(try simp only [← ak])
                 go_roundg k4
                 case measure=>have:=lg.out;have:=WD.out;have:=XG.out;have:=VD.out;omega
                 case rel=>exact ⟨(Yj),(t115),(wrap64 (yg - 1)),(by first|rfl|(simp;done)|(simp [*];done)),(by first|rfl|(simp;done)|(simp [*];done)),H',⟨by have:=lg.out;have:=WD.out;have:=XG.out;have:=VD.out;omega⟩,⟨by (try simp only [ak]);(with_reducible repeat (first|apply Kd.Zc|apply Kd.Yc|apply Kd.Jd));exact Sg.out⟩,⟨by (try simp only [ak]);(with_reducible repeat (first|apply Kd.Ab|apply Kd.zb|apply Kd.Rb));exact Cf.out⟩,⟨by (try simp only [ak]);(with_reducible repeat (first|refine Ba ?_ _|refine Ea ?_|refine Ca ?_ _));exact oa.out⟩,⟨by (try simp only [ak]);(with_reducible repeat (first|refine Ba ?_ _|refine Ea ?_|refine Ca ?_ _));exact Uc.out⟩,⟨by repeat (first|(with_reducible first|exact HB.out|apply qa|apply ia|apply ta|refine ua ?_ Sa.out|refine ua ?_ bq.out)|exact HB.out)⟩⟩
               ·rw [if_neg wD] at H;exact absurd H (by simp)
              ·rw [if_neg fI] at H;exact absurd H (by simp)
             ·rw [if_neg uR] at H;have Z9:decide (0 ≤ yg)=false:=decide_eq_false uR;clear uR;replace H:=Option.bind_eq_some_iff.mp H;obtain ⟨t113,Laa,H⟩:=H;replace H:(if t113 > Yj then (qb.l0 k4 t113 t103 (wrap64 (Ra + 1)) Pa Ka Ga Ia Da) else (qb.l0 k4 Yj t103 (wrap64 (Ra + 1)) Pa Ka Ga Ia Da))=some r:=H;have A44:=ja.mk Laa;clear Laa
              by_cases yI:t113 > Yj
              ·rw [if_pos yI] at H;have V9:decide (Yj < t113)=true:=decide_eq_true yI;clear yI;have H':=ja.mk H;clear H;go_wp2_with (first|((with_reducible refine jb (f:=43) rfl ?_);refine Fc (some 69) rfl rfl Try.func43 (by kernel_rfl) rfl #[.slice Et cq.length bt] rfl (by (try simp only [List.map_toArray,List.map_cons,List.map_nil]);first|done|rfl|(simp only [List.length_drop,List.length_take];rfl)) ?_;(with_reducible refine (Rc.calls k4 _ _ cq t113 _ ?yc ?uc A44.out).mono ?_);(case yc=>repeat (first|exact (Kd.Lc Cf.out).2.2|(with_reducible refine Kd.Pb ?_ _)|(with_reducible refine Kd.Nb ?_ _)|(with_reducible refine Kd.Zb ?_)));(case uc=>exact (Kd.Lc Cf.out).2.1);rintro e w' ⟨rfl,⟨nd,rfl⟩⟩;refine ⟨_,rfl,?_⟩));(try simp only [← ak])
               go_roundg k4
               case measure=>have:=lg.out;have:=WD.out;have:=XG.out;have:=VD.out;omega
               case rel=>exact ⟨(t113),(wrap64 (Ra + 1)),(by first|rfl|(simp;done)|(simp [*];done)),(by first|rfl|(simp;done)|(simp [*];done)),H',⟨by have:=lg.out;have:=WD.out;have:=XG.out;have:=VD.out;omega⟩,⟨by (try simp only [ak]);(with_reducible repeat (first|apply Kd.Zc|apply Kd.Yc|apply Kd.Jd));exact Kd.sg Sg.out (fun _ hk=>trivial)⟩,⟨by (try simp only [ak]);(with_reducible repeat (first|refine Ba ?_ _|refine Ea ?_|refine Ca ?_ _));exact oa.out⟩,⟨by repeat (first|(with_reducible first|exact HB.out|apply qa|apply ia|apply ta|refine ua ?_ Sa.out|refine ua ?_ bq.out)|exact HB.out)⟩⟩
              ·rw [if_neg yI] at H;have V9:decide (Yj < t113)=false:=decide_eq_false yI;clear yI;have H':=ja.mk H;clear H;go_wp2_with (first|((with_reducible refine jb (f:=43) rfl ?_);refine Fc (some 69) rfl rfl Try.func43 (by kernel_rfl) rfl #[.slice Et cq.length bt] rfl (by (try simp only [List.map_toArray,List.map_cons,List.map_nil]);first|done|rfl|(simp only [List.length_drop,List.length_take];rfl)) ?_;(with_reducible refine (Rc.calls k4 _ _ cq t113 _ ?yc ?uc A44.out).mono ?_);(case yc=>repeat (first|exact (Kd.Lc Cf.out).2.2|(with_reducible refine Kd.Pb ?_ _)|(with_reducible refine Kd.Nb ?_ _)|(with_reducible refine Kd.Zb ?_)));(case uc=>exact (Kd.Lc Cf.out).2.1);rintro e w' ⟨rfl,⟨nd,rfl⟩⟩;refine ⟨_,rfl,?_⟩));(try simp only [← ak])
               go_roundg k4
               case measure=>have:=lg.out;have:=WD.out;have:=XG.out;have:=VD.out;omega
               case rel=>exact ⟨(Yj),(wrap64 (Ra + 1)),(by first|rfl|(simp;done)|(simp [*];done)),(by first|rfl|(simp;done)|(simp [*];done)),H',⟨by have:=lg.out;have:=WD.out;have:=XG.out;have:=VD.out;omega⟩,⟨by (try simp only [ak]);(with_reducible repeat (first|apply Kd.Zc|apply Kd.Yc|apply Kd.Jd));exact Kd.sg Sg.out (fun _ hk=>trivial)⟩,⟨by (try simp only [ak]);(with_reducible repeat (first|refine Ba ?_ _|refine Ea ?_|refine Ca ?_ _));exact oa.out⟩,⟨by repeat (first|(with_reducible first|exact HB.out|apply qa|apply ia|apply ta|refine ua ?_ Sa.out|refine ua ?_ bq.out)|exact HB.out)⟩⟩
      ·rw [if_neg nu] at H;exact absurd H (by simp)
     ·rw [if_neg Hz] at H;exact absurd H (by simp)
    ·rw [if_neg Wp] at H;have Oo:decide (Ra < (Da.length:Int))=false:=decide_eq_false Wp;clear Wp;obtain rfl:=Option.some.inj H;have IM:wr.cell? ⟨ya,0,none⟩=some (.slice Ya Pa.length Za):=(ga oa.out 0).trans rfl;have GM:wr.cell? ⟨ya,1,none⟩=some (.int .i64 Ka):=(ga oa.out 1).trans rfl;have FM:wr.cell? ⟨ya,2,none⟩=some (.int .i64 Ga):=(ga oa.out 2).trans rfl;have EM:wr.cell? ⟨ya,3,none⟩=some (.int .i64 Ia):=(ga oa.out 3).trans rfl;have DM:wr.cell? ⟨ya,4,none⟩=some (.slice Vb Da.length Jb):=(ga oa.out 4).trans rfl;have BL:=aa oa.out 0;have AL:=aa oa.out 1;have zL:=aa oa.out 2;have yL:=aa oa.out 3;have xL:=aa oa.out 4;go_wp2;go_ret;exact ⟨by first|rfl|(simp [Ma,La] <;> rfl)|(simp [*,Ma,La] <;> rfl),by repeat (first|(with_reducible first|exact HB.out|apply qa|apply ia|apply ta|refine ua ?_ Sa.out)|exact HB.out)⟩
 ·replace c3:=Bool.eq_false_iff.mpr c3;subst c3;have H1:(some (-1))=some r:=by rw [if_neg (show ¬ (false=true) by decide)] at H;exact H
  clear H;have H:=H1;clear H1;obtain rfl:=Option.some.inj H;go_enter Try.func11,Try.ntmps11;go_wp2_with (first|((with_reducible refine yb (N:=1) rfl ?_);(try (refine xg (by rfl) ?_;dsimp only));refine Gb ?hg (N:=1) ?hd (cs:=#[.slice Ya Pa.length Za,.int .i64 Ka,.int .i64 Ga,.int .i64 Ia,.slice Vb Da.length Jb]) (t:=30) ?hr ?_;(case hd=>rfl);(case hg=>rfl);(case hr=>first|(go_simp;done)|(go_simp;rfl));intro ya hg U2 Qb hb;have Fb:=ja.mk (Qa (by repeat (first|(with_reducible first|exact HB.out|apply qa|apply ia|apply ta)|exact HB.out)) hb);have Ib:=ja.mk (Qb);have Sb:=ja.mk ((by rw [hg];exact (Fa (by repeat (first|(with_reducible first|exact HB.out|apply qa|apply ia|apply ta)|exact HB.out))):w.heap.size ≤ ya));have Ec:=ja.mk ((by rw [hg];exact (Fa (by repeat (first|(with_reducible first|exact HB.out|apply qa|apply ia|apply ta)|exact HB.out))):w.heap.size ≤ ya));clear HB;have HB:=Fb;have oa:=Ib;have yd:=Sb;have Sa:=Ec;clear Fb Ib Sb Ec hb Qb hg;have kB:U2.cell? ⟨ya,0,none⟩=some (.slice Ya Pa.length Za):=(ga oa.out 0).trans rfl;have jB:U2.cell? ⟨ya,1,none⟩=some (.int .i64 Ka):=(ga oa.out 1).trans rfl;have iB:U2.cell? ⟨ya,2,none⟩=some (.int .i64 Ga):=(ga oa.out 2).trans rfl;have gB:U2.cell? ⟨ya,3,none⟩=some (.int .i64 Ia):=(ga oa.out 3).trans rfl;have fB:U2.cell? ⟨ya,4,none⟩=some (.slice Vb Da.length Jb):=(ga oa.out 4).trans rfl;have BA:=aa oa.out 0;have AA:=aa oa.out 1;have zA:=aa oa.out 2;have yA:=aa oa.out 3;have xA:=aa oa.out 4)|((with_reducible refine jb (f:=40) rfl ?_);refine Fc (some 13) rfl rfl Try.func40 (by kernel_rfl) rfl #[.agg #[.slice Ya Pa.length Za,.int .i64 Ka,.int .i64 Ga,.int .i64 Ia,.slice Vb Da.length Jb]] rfl (by (try simp only [List.map_toArray,List.map_cons,List.map_nil]);first|done|rfl|(simp only [List.length_drop,List.length_take];rfl)) ?_;(with_reducible refine (Va.calls k _ _ Pa Ka Ga Ia _ _ Da false _ ?yc ?uc ?ud ?td A2.out).mono ?_);(case yc=>repeat (first|exact (Kd.Ob qe.out HB.out)|(with_reducible refine Kd.Pb ?_ _)|(with_reducible refine Kd.Nb ?_ _)|(with_reducible refine Kd.Zb ?_)));(case uc=>exact Be.out);(case ud=>repeat (first|exact (Kd.Ob Hf.out HB.out)|(with_reducible refine Kd.Pb ?_ _)|(with_reducible refine Kd.Nb ?_ _)|(with_reducible refine Kd.Zb ?_)));(case td=>exact Tg.out);rintro e O1 ⟨rfl,hb⟩;refine ⟨_,rfl,?_⟩;have Fb:=ja.mk (Ua (g:=ya) (o:=.cells #[.slice Ya Pa.length Za,.int .i64 Ka,.int .i64 Ga,.int .i64 Ia,.slice Vb Da.length Jb] 30 (0,0)) (by (with_reducible repeat (first|refine Ba ?_ _|refine Ea ?_|refine Ca ?_ _));exact oa.out) hb);have Ib:=ja.mk (Qa (by repeat (first|(with_reducible first|exact HB.out|apply qa|apply ia|apply ta|refine ua ?_ Sa.out)|exact HB.out)) hb);clear oa HB;have oa:=Fb;have HB:=Ib;clear Fb Ib;(try clear hb);(try clear Hi);(try clear hk);(try clear hi)));go_ret;exact ⟨by first|rfl|(simp [Ma,La] <;> rfl)|(simp [*,Ma,La] <;> rfl),by repeat (first|(with_reducible first|exact HB.out|apply qa|apply ia|apply ta|refine ua ?_ Sa.out)|exact HB.out)⟩
def ee.l0:Nat→List Int→List Int→Int→Option (List Int)
 | 0,_,_,_=>none
 | k + 1,x0,x3,x4=>if x4 < (x0.length:Int) then (if 0 ≤ x4 then (if x4 < (x3.length:Int) then (ee.l0 k x0 (x3.set (x4:Int).toNat (rd x0 x4)) (wrap64 (x4 + 1))) else (none)) else (none)) else (some x3)
def ee.f (k:Nat) (l0:List Int):Option (List Int):=if 0 ≤ (l0.length:Int) then (if ((l0.length:Int):Int).toNat ≤ 35184372088832 then (ee.l0 k l0 (List.replicate ((l0.length:Int):Int).toNat 0) 0) else (none)) else (none)
theorem ee.calls (k:Nat) (A0:Option Addr) (c0:Nat) (l0:List Int) (r:List Int) (w:World) (Rk:Kd.C (Kd.int .i64) w A0 l0.length l0) (hc0:l0.length ≤ c0) (h:ee.f k l0=some r) :
  Calls Try.prog 22 #[.slice A0 l0.length c0] w fun e w'=>∃ kn:Value,e = .returned (kn)∧Kd.R (Kd.int .i64) 3 w' w.heap.size (fun _=>True) kn r∧Below w.heap.size w w':=by
 have sn:=ja.mk Rk;have rI:=ja.mk hc0;clear Rk hc0;have HB:=ja.mk (Below.refl w.heap.size w);have H:(if 0 ≤ (l0.length:Int) then (if ((l0.length:Int):Int).toNat ≤ 35184372088832 then (ee.l0 k l0 (List.replicate ((l0.length:Int):Int).toNat 0) 0) else (none)) else (none))=some r:=h;clear h
 by_cases c2:0 ≤ (l0.length:Int)
 ·rw [if_pos c2] at H;have Vv:=eq_true c2;have Gz:decide (0 ≤ (l0.length:Int))=true:=decide_eq_true c2;clear c2
  by_cases c3:((l0.length:Int):Int).toNat ≤ 35184372088832
  ·rw [if_pos c3] at H;have Nh:=eq_true c3;have ct:decide (((l0.length:Int):Int).toNat ≤ 35184372088832)=true:=decide_eq_true c3;clear c3;obtain ⟨Om,gh⟩:∃ y_:List Int,y_=(List.replicate ((l0.length:Int):Int).toNat 0):=⟨_,rfl⟩;replace H:(ee.l0 k l0 Om 0)=some r:=by first|(rw [gh];with_reducible exact H)|(have ue:=(Option.bind_some _ _).symm.trans H;rw [gh];with_reducible exact ue)|(have ue:=(Option.bind_some _ _).symm.trans H;with_reducible exact ue)|with_reducible exact H|(rw [gh];exact H)|exact H
   have Zp:=ja.mk gh;clear gh;have H':=ja.mk H;clear H;go_enter Try.func22,Try.ntmps22;go_wp2_with (first|((with_reducible refine yb (N:=7) rfl ?_);refine Kd.Mz (Kd.int .i64) _ 3 rfl (N:=7) rfl 22 _ _ rfl (l0.length:Int) rfl rfl Try.underlying22 (.int .i64 0) 8 info3 rfl (by decide) (by omega) 0 (ok:=fun _=>True) (ri:=fun _=>True) rfl (fun _ hk=>hk) trivial (Wa) (Nat.le_trans (Nat.mul_le_mul_right _ (Wa:(l0.length:Int).toNat ≤ 35184372088832)) (by omega)) (Below.refl _ _) (Nat.le_refl _) ?_;intro GI w4 IC hb en Ve;clear en Ve;(first|rw [← Zp.out] at IC|(simp only [Int.reduceToNat] at IC;rw [← Zp.out] at IC));have Fb:=ja.mk (Kd.Rd IC (Fa (by repeat (first|(with_reducible first|exact HB.out|apply qa|apply ia|apply ta)|exact HB.out))));have Ib:=ja.mk (Qa (by repeat (first|(with_reducible first|exact HB.out|apply qa|apply ia|apply ta)|exact HB.out)) hb);clear HB;have su:=Fb;have HB:=Ib;clear Fb Ib hb IC))
   go_loopg [4] k (fun kq v4 w'=>∃ (ld:List Int) (Ic:Int),v4 = .int .i64 Ic∧ja (ee.l0 kq l0 ld Ic=some r)∧ja (kq ≤ k)∧ja (Kd.R (Kd.int .i64) 3 w' w.heap.size (fun _=>True) GI ld)∧ja (Below w.heap.size w w'))
   case atStart=>exact ⟨(Om),(0),(by first|rfl|(simp;done)|(simp [*];done)),H',⟨Nat.le_refl _⟩,⟨by (with_reducible repeat (first|apply Kd.Ab|apply Kd.zb|apply Kd.Rb));exact su.out⟩,⟨by repeat (first|(with_reducible first|exact HB.out|apply qa|apply ia|apply ta)|exact HB.out)⟩⟩
   case round =>
    clear H'
    try clear c2
    try clear Vv
    try clear Gz
    try clear p2
    try clear c3
    try clear Nh
    try clear ct
    (try clear HA);(try clear lg);(try clear Vc);(try clear HB);obtain ⟨ld,Ic,rfl,HA,lg,Vc,HB⟩:=hrel;cases gk with
    | zero=>exact absurd HA.out (by simp [ee.l0])
    | succ k1 =>
     have H:=HA.out;clear HA;simp only [ee.l0] at H
     by_cases c6:Ic < (l0.length:Int)
     ·rw [if_pos c6] at H;have Vm:decide (Ic < (l0.length:Int))=true:=decide_eq_true c6;clear c6
      by_cases c7:0 ≤ Ic
      ·rw [if_pos c7] at H;have Tj:decide (0 ≤ Ic)=true:=decide_eq_true c7;clear c7
       by_cases c8:Ic < (ld.length:Int)
       ·rw [if_pos c8] at H;have Gq:decide (Ic < (ld.length:Int))=true:=decide_eq_true c8;clear c8;obtain ⟨Ag,tf⟩:∃ y_:List Int,y_=(ld.set (Ic:Int).toNat (rd l0 Ic)):=⟨_,rfl⟩;replace H:(ee.l0 k1 l0 Ag (wrap64 (Ic + 1)))=some r:=by first|(rw [tf];with_reducible exact H)|(have ue:=(Option.bind_some _ _).symm.trans H;rw [tf];with_reducible exact ue)|(have ue:=(Option.bind_some _ _).symm.trans H;with_reducible exact ue)|with_reducible exact H|(rw [tf];exact H)|exact H
        have Uk:=ja.mk tf;clear tf;have H':=ja.mk H;clear H;have Yq:0 ≤ (Ic:Int):=Wa;have Wq:Ic < (l0.length:Int):=Wa;obtain ⟨XN,IG,Ah⟩:=Kd.rm sn.out Ic Yq Wq;cases IG;replace Ah:=Na HB.out Ah;replace Yq:=eq_true Yq;replace Wq:=eq_true Wq;have p9:0 ≤ (Ic:Int):=Wa;have q9:(Ic:Int) < ((ld.length:Int):Int):=Wa;obtain ⟨go9,co9,eo9,gb9,gl9,cl9,HG9⟩:=Kd.gn Vc.out (by omega);(first|cases eo9|(injection eo9 with Um RD SD;(first|subst Um|(injection Um with Um;subst Um));subst SD;clear RD));have GB9:=ja.mk gb9;have GG9:=ja.mk HG9;clear gb9 gl9 HG9;obtain ⟨dam,Jan⟩:=Kd.Gk 0 Vc.out (Ic:Int) p9 q9;replace p9:=eq_true p9;replace q9:=eq_true q9;have M0:=Kd.yq Vc.out (Ic:Int) (rd l0 Ic);go_wp2_with (first|((with_reducible refine Pg (t:=3) (p:=20) rfl ?_);refine pg (t:=3) (p:=20) (v:=?vai) (w1:=(wr.setCell ⟨go9,(Ic:Int).toNat,none⟩ (.int .i64 (rd l0 Ic)))) ?hg ?ho ?hn ?hr ?_;(case ho=>rfl);(case hg=>rfl);(case hn=>rfl);(case hr=>first|(go_simp;done)|(go_simp;rfl));intro Xj hw;have hg:wr.grownBy Xj (some go9):=(by rw [hw];exact M0.2);have qx:Kd.R (Kd.int .i64) 3 Xj w.heap.size (fun _=>True) (.slice (some ⟨go9,0,none⟩) ld.length co9) Ag:=(by rw [hw,Uk.out];exact M0.1);clear M0;have Fb:=ja.mk (qx);have Ib:=ja.mk ((by rw [hw];exact ua (HB.out) GB9.out:Below w.heap.size w Xj));clear Vc HB;have Vc:=Fb;have HB:=Ib;clear Fb Ib hg hw qx))
        go_roundg k1
        case measure=>have:=lg.out;omega
        case rel=>exact ⟨(Ag),(wrap64 (Ic + 1)),(by first|rfl|(simp;done)|(simp [*];done)),H',⟨by have:=lg.out;omega⟩,⟨by (with_reducible repeat (first|apply Kd.Ab|apply Kd.zb|apply Kd.Rb));exact Vc.out⟩,⟨by repeat (first|(with_reducible first|exact HB.out|apply qa|apply ia|apply ta)|exact HB.out)⟩⟩
       ·rw [if_neg c8] at H;exact absurd H (by simp)
      ·rw [if_neg c7] at H;exact absurd H (by simp)
     ·rw [if_neg c6] at H;have Vm:decide (Ic < (l0.length:Int))=false:=decide_eq_false c6;clear c6;obtain rfl:=Option.some.inj H;go_wp2;go_ret;exact ⟨_,by first|rfl|(simp [Ma,La] <;> rfl)|(simp [*,Ma,La] <;> rfl),by (with_reducible repeat (first|apply Kd.Ab|apply Kd.zb|apply Kd.Rb));exact Vc.out,by repeat (first|(with_reducible first|exact HB.out|apply qa|apply ia|apply ta)|exact HB.out)⟩
  ·rw [if_neg c3] at H;exact absurd H (by simp)
 ·rw [if_neg c2] at H;exact absurd H (by simp)
def gl.f (Eb:Int) (Ka:Int) (Ga:Int) (Ia:Int) (xb:Int) (oc:Int) (ic:ByteArray):Option (Int × Int × Int × Int × Int × Int × ByteArray):=some (Eb,Ka,Ga,Ia,xb,oc,ic)
theorem gl.calls (Eb:Int) (Ka:Int) (Ga:Int) (Ia:Int) (xb:Int) (oc:Int) (ic:ByteArray) (r1:Int) (r2:Int) (r3:Int) (r4:Int) (r5:Int) (r6:Int) (r7:ByteArray) (w:World) (h:gl.f Eb Ka Ga Ia xb oc ic=some (r1,r2,r3,r4,r5,r6,r7)) :
  Calls Try.prog 114 #[.agg #[.int .i64 Eb,.int .i64 Ka,.int .i64 Ga,.int .i64 Ia,.int .i64 xb,.int .i64 oc,.string ic]] w fun e w'=>e = .returned (.agg #[.int .i64 r1,.int .i64 r2,.int .i64 r3,.int .i64 r4,.int .i64 r5,.int .i64 r6,.string r7])∧Below w.heap.size w w':=by
 have AQ:=Try.underlying124;have ox:=Try.underlying65;have HB:=ja.mk (Below.refl w.heap.size w);have H:(some (Eb,Ka,Ga,Ia,xb,oc,ic))=some (r1,r2,r3,r4,r5,r6,r7):=h;clear h;simp only [Option.some.injEq,Prod.mk.injEq] at H;obtain ⟨rfl,rfl,rfl,rfl,rfl,rfl,rfl⟩:=H;go_enter Try.func114,Try.ntmps114;go_wp2_with (first|((with_reducible refine yb (N:=1) rfl ?_);refine Gb ?hg (N:=1) ?hd (cs:=#[.int .i64 Eb,.int .i64 Ka,.int .i64 Ga,.int .i64 Ia,.int .i64 xb,.int .i64 oc,.string ic]) (t:=124) ?hr ?_;(case hd=>rfl);(case hg=>rfl);(case hr=>first|(go_simp;done)|(go_simp;rfl));intro ya hg w2 Qb hb;have Fb:=ja.mk (Qa (by repeat (first|(with_reducible first|exact HB.out|apply qa|apply ia|apply ta)|exact HB.out)) hb);have Ib:=ja.mk (Qb);have Sb:=ja.mk ((by rw [hg];exact (Fa (by repeat (first|(with_reducible first|exact HB.out|apply qa|apply ia|apply ta)|exact HB.out))):w.heap.size ≤ ya));have Ec:=ja.mk ((by rw [hg];exact (Fa (by repeat (first|(with_reducible first|exact HB.out|apply qa|apply ia|apply ta)|exact HB.out))):w.heap.size ≤ ya));clear HB;have HB:=Fb;have oa:=Ib;have yd:=Sb;have Sa:=Ec;clear Fb Ib Sb Ec hb Qb hg)|((with_reducible refine yb (N:=2) rfl ?_);refine Gb ?hg (N:=2) ?hd (cs:=#[.int .i64 0,.int .i64 0,.int .i64 0,.int .i64 0,.int .i64 0,.int .i64 0,.string (⟨#[]⟩:ByteArray)]) (t:=65) ?hr ?_;(case hd=>rfl);(case hg=>rfl);(case hr=>first|(go_simp;done)|(go_simp;rfl));intro Ja hg w3 Qb hb;have Fb:=ja.mk (Ua (g:=ya) (o:=.cells #[.int .i64 Eb,.int .i64 Ka,.int .i64 Ga,.int .i64 Ia,.int .i64 xb,.int .i64 oc,.string ic] 124 (0,0)) (by (with_reducible repeat (first|refine Ba ?_ _|refine Ea ?_|refine Ca ?_ _));exact oa.out) hb);have Ib:=ja.mk (Qa (by repeat (first|(with_reducible first|exact HB.out|apply qa|apply ia|apply ta|refine ua ?_ Sa.out)|exact HB.out)) hb);have Sb:=ja.mk (Qb);have Ec:=ja.mk ((by rw [hg];exact (Fa (by repeat (first|(with_reducible first|exact HB.out|apply qa|apply ia|apply ta|refine ua ?_ Sa.out)|exact HB.out))):w.heap.size ≤ Ja));have Re:=ja.mk ((by rw [hg];exact (Fa (by repeat (first|(with_reducible first|exact HB.out|apply qa|apply ia|apply ta|refine ua ?_ Sa.out)|exact HB.out))):w.heap.size ≤ Ja));have Gf:=ja.mk ((by rw [hg];exact Nat.ne_of_lt (Jc (g:=ya) (o:=.cells #[.int .i64 Eb,.int .i64 Ka,.int .i64 Ga,.int .i64 Ia,.int .i64 xb,.int .i64 oc,.string ic] 124 (0,0)) (by (with_reducible repeat (first|refine Ba ?_ _|refine Ea ?_|refine Ca ?_ _));exact oa.out)):ya ≠ Ja));have Yf:=ja.mk ((by rw [hg];exact Nat.ne_of_gt (Jc (g:=ya) (o:=.cells #[.int .i64 Eb,.int .i64 Ka,.int .i64 Ga,.int .i64 Ia,.int .i64 xb,.int .i64 oc,.string ic] 124 (0,0)) (by (with_reducible repeat (first|refine Ba ?_ _|refine Ea ?_|refine Ca ?_ _));exact oa.out)):Ja ≠ ya));clear oa HB;have oa:=Fb;have HB:=Ib;have za:=Sb;have rj:=Ec;have Bc:=Re;have Db:=Gf;have Cb:=Yf;clear Fb Ib Sb Ec Re Gf Yf hb Qb hg)|((with_reducible refine yb (N:=3) rfl ?_);refine Gb ?hg (N:=3) ?hd (cs:=#[.int .i64 0,.int .i64 0,.int .i64 0,.int .i64 0,.int .i64 0,.int .i64 0,.string (⟨#[]⟩:ByteArray)]) (t:=65) ?hr ?_;(case hd=>rfl);(case hg=>rfl);(case hr=>first|(go_simp;done)|(go_simp;rfl));intro Ae hg w4 Qb hb;have Fb:=ja.mk (Ua (g:=ya) (o:=.cells #[.int .i64 Eb,.int .i64 Ka,.int .i64 Ga,.int .i64 Ia,.int .i64 xb,.int .i64 oc,.string ic] 124 (0,0)) (by (with_reducible repeat (first|refine Ba ?_ _|refine Ea ?_|refine Ca ?_ _));exact oa.out) hb);have Ib:=ja.mk (Ua (g:=Ja) (o:=.cells #[.int .i64 0,.int .i64 0,.int .i64 0,.int .i64 0,.int .i64 0,.int .i64 0,.string (⟨#[]⟩:ByteArray)] 65 (0,0)) (by (with_reducible repeat (first|refine Ba ?_ _|refine Ea ?_|refine Ca ?_ _));exact za.out) hb);have Sb:=ja.mk (Qa (by repeat (first|(with_reducible first|exact HB.out|apply qa|apply ia|apply ta|refine ua ?_ Sa.out|refine ua ?_ Bc.out)|exact HB.out)) hb);have Ec:=ja.mk (Qb);have Re:=ja.mk ((by rw [hg];exact (Fa (by repeat (first|(with_reducible first|exact HB.out|apply qa|apply ia|apply ta|refine ua ?_ Sa.out|refine ua ?_ Bc.out)|exact HB.out))):w.heap.size ≤ Ae));have Gf:=ja.mk ((by rw [hg];exact (Fa (by repeat (first|(with_reducible first|exact HB.out|apply qa|apply ia|apply ta|refine ua ?_ Sa.out|refine ua ?_ Bc.out)|exact HB.out))):w.heap.size ≤ Ae));have Yf:=ja.mk ((by rw [hg];exact Nat.ne_of_lt (Jc (g:=ya) (o:=.cells #[.int .i64 Eb,.int .i64 Ka,.int .i64 Ga,.int .i64 Ia,.int .i64 xb,.int .i64 oc,.string ic] 124 (0,0)) (by (with_reducible repeat (first|refine Ba ?_ _|refine Ea ?_|refine Ca ?_ _));exact oa.out)):ya ≠ Ae));have tw:=ja.mk ((by rw [hg];exact Nat.ne_of_gt (Jc (g:=ya) (o:=.cells #[.int .i64 Eb,.int .i64 Ka,.int .i64 Ga,.int .i64 Ia,.int .i64 xb,.int .i64 oc,.string ic] 124 (0,0)) (by (with_reducible repeat (first|refine Ba ?_ _|refine Ea ?_|refine Ca ?_ _));exact oa.out)):Ae ≠ ya));have vH:=ja.mk ((by rw [hg];exact Nat.ne_of_lt (Jc (g:=Ja) (o:=.cells #[.int .i64 0,.int .i64 0,.int .i64 0,.int .i64 0,.int .i64 0,.int .i64 0,.string (⟨#[]⟩:ByteArray)] 65 (0,0)) (by (with_reducible repeat (first|refine Ba ?_ _|refine Ea ?_|refine Ca ?_ _));exact za.out)):Ja ≠ Ae));have lQ:=ja.mk ((by rw [hg];exact Nat.ne_of_gt (Jc (g:=Ja) (o:=.cells #[.int .i64 0,.int .i64 0,.int .i64 0,.int .i64 0,.int .i64 0,.int .i64 0,.string (⟨#[]⟩:ByteArray)] 65 (0,0)) (by (with_reducible repeat (first|refine Ba ?_ _|refine Ea ?_|refine Ca ?_ _));exact za.out)):Ae ≠ Ja));clear oa za HB;have oa:=Fb;have za:=Ib;have HB:=Sb;have we:=Ec;have xX:=Re;have Kt:=Gf;have Gj:=Yf;have Mq:=tw;have Je:=vH;have Kq:=lQ;clear Fb Ib Sb Ec Re Gf Yf tw vH lQ hb Qb hg;have Rap:=Db.out;have Pap:=Cb.out;have yaj:=Gj.out;have kaj:=Mq.out;have Yr:w4.cell? ⟨ya,0,none⟩=some (.int .i64 Eb):=(ga oa.out 0).trans rfl;have Xr:w4.cell? ⟨ya,1,none⟩=some (.int .i64 Ka):=(ga oa.out 1).trans rfl;have Wr:w4.cell? ⟨ya,2,none⟩=some (.int .i64 Ga):=(ga oa.out 2).trans rfl;have Vr:w4.cell? ⟨ya,3,none⟩=some (.int .i64 Ia):=(ga oa.out 3).trans rfl;have Ur:w4.cell? ⟨ya,4,none⟩=some (.int .i64 xb):=(ga oa.out 4).trans rfl;have PF:w4.cell? ⟨ya,5,none⟩=some (.int .i64 oc):=(ga oa.out 5).trans rfl;have NF:w4.cell? ⟨ya,6,none⟩=some (.string ic):=(ga oa.out 6).trans rfl;have kr:=aa oa.out 0;have jr:=aa oa.out 1;have ir:=aa oa.out 2;have gr:=aa oa.out 3;have er:=aa oa.out 4;have ZE:=aa oa.out 5;have YE:=aa oa.out 6;have waj:=Kq.out;have iaj:=Je.out;have Vl:w4.cell? ⟨Ae,0,none⟩=some (.int .i64 0):=(ga we.out 0).trans rfl;have Ul:w4.cell? ⟨Ae,1,none⟩=some (.int .i64 0):=(ga we.out 1).trans rfl;have Tl:w4.cell? ⟨Ae,2,none⟩=some (.int .i64 0):=(ga we.out 2).trans rfl;have Sl:w4.cell? ⟨Ae,3,none⟩=some (.int .i64 0):=(ga we.out 3).trans rfl;have Rl:w4.cell? ⟨Ae,4,none⟩=some (.int .i64 0):=(ga we.out 4).trans rfl;have JY:w4.cell? ⟨Ae,5,none⟩=some (.int .i64 0):=(ga we.out 5).trans rfl;have IY:w4.cell? ⟨Ae,6,none⟩=some (.string (⟨#[]⟩:ByteArray)):=(ga we.out 6).trans rfl;have Ql:=aa we.out 0;have Ol:=aa we.out 1;have Nl:=aa we.out 2;have Ml:=aa we.out 3;have Ll:=aa we.out 4;have uY:=aa we.out 5;have tY:=aa we.out 6;have Fk:w4.cell? ⟨Ja,0,none⟩=some (.int .i64 0):=(ga za.out 0).trans rfl;have Ek:w4.cell? ⟨Ja,1,none⟩=some (.int .i64 0):=(ga za.out 1).trans rfl;have Dk:w4.cell? ⟨Ja,2,none⟩=some (.int .i64 0):=(ga za.out 2).trans rfl;have Ck:w4.cell? ⟨Ja,3,none⟩=some (.int .i64 0):=(ga za.out 3).trans rfl;have Bk:w4.cell? ⟨Ja,4,none⟩=some (.int .i64 0):=(ga za.out 4).trans rfl;have Gy:w4.cell? ⟨Ja,5,none⟩=some (.int .i64 0):=(ga za.out 5).trans rfl;have Fy:w4.cell? ⟨Ja,6,none⟩=some (.string (⟨#[]⟩:ByteArray)):=(ga za.out 6).trans rfl;have Ak:=aa za.out 0;have zk:=aa za.out 1;have xk:=aa za.out 2;have vk:=aa za.out 3;have uk:=aa za.out 4;have Xx:=aa za.out 5;have Wx:=aa za.out 6));refine bodyPost_ret (results_cell_row rfl _ _ Ja 65 #[.int .i64 Eb,.int .i64 Ka,.int .i64 Ga,.int .i64 Ia,.int .i64 xb,.int .i64 oc,.string ic] (0,0) _ rfl (by (with_reducible repeat (first|refine Ba ?_ _|refine Ea ?_|refine Ca ?_ _));refine Ad (cs:=#[.int .i64 Eb,.int .i64 Ka,.int .i64 Ga,.int .i64 Ia,.int .i64 xb,.int .i64 oc,.string (⟨#[]⟩:ByteArray)]) ?_ 6 _ rfl;(with_reducible repeat (first|refine Ba ?_ _|refine Ea ?_|refine Ca ?_ _));refine Ad (cs:=#[.int .i64 Eb,.int .i64 Ka,.int .i64 Ga,.int .i64 Ia,.int .i64 xb,.int .i64 0,.string (⟨#[]⟩:ByteArray)]) ?_ 5 _ rfl;(with_reducible repeat (first|refine Ba ?_ _|refine Ea ?_|refine Ca ?_ _));refine Ad (cs:=#[.int .i64 Eb,.int .i64 Ka,.int .i64 Ga,.int .i64 Ia,.int .i64 0,.int .i64 0,.string (⟨#[]⟩:ByteArray)]) ?_ 4 _ rfl;(with_reducible repeat (first|refine Ba ?_ _|refine Ea ?_|refine Ca ?_ _));refine Ad (cs:=#[.int .i64 Eb,.int .i64 Ka,.int .i64 Ga,.int .i64 0,.int .i64 0,.int .i64 0,.string (⟨#[]⟩:ByteArray)]) ?_ 3 _ rfl;(with_reducible repeat (first|refine Ba ?_ _|refine Ea ?_|refine Ca ?_ _));refine Ad (cs:=#[.int .i64 Eb,.int .i64 Ka,.int .i64 0,.int .i64 0,.int .i64 0,.int .i64 0,.string (⟨#[]⟩:ByteArray)]) ?_ 2 _ rfl;(with_reducible repeat (first|refine Ba ?_ _|refine Ea ?_|refine Ca ?_ _));refine Ad (cs:=#[.int .i64 Eb,.int .i64 0,.int .i64 0,.int .i64 0,.int .i64 0,.int .i64 0,.string (⟨#[]⟩:ByteArray)]) ?_ 1 _ rfl;(with_reducible repeat (first|refine Ba ?_ _|refine Ea ?_|refine Ca ?_ _));refine Ad (cs:=#[.int .i64 0,.int .i64 0,.int .i64 0,.int .i64 0,.int .i64 0,.int .i64 0,.string (⟨#[]⟩:ByteArray)]) ?_ 0 _ rfl;(with_reducible repeat (first|refine Ba ?_ _|refine Ea ?_|refine Ca ?_ _));refine Bd ?_ Je.out _;(with_reducible repeat (first|refine Ba ?_ _|refine Ea ?_|refine Ca ?_ _));refine Bd ?_ Je.out _;(with_reducible repeat (first|refine Ba ?_ _|refine Ea ?_|refine Ca ?_ _));refine Bd ?_ Je.out _;(with_reducible repeat (first|refine Ba ?_ _|refine Ea ?_|refine Ca ?_ _));refine Bd ?_ Je.out _;(with_reducible repeat (first|refine Ba ?_ _|refine Ea ?_|refine Ca ?_ _));refine Bd ?_ Je.out _;(with_reducible repeat (first|refine Ba ?_ _|refine Ea ?_|refine Ca ?_ _));refine Bd ?_ Je.out _;(with_reducible repeat (first|refine Ba ?_ _|refine Ea ?_|refine Ca ?_ _));refine Bd ?_ Je.out _;(with_reducible repeat (first|refine Ba ?_ _|refine Ea ?_|refine Ca ?_ _));exact za.out) Try.underlying65 rfl (by kernel_rfl)) rfl ?_;exact ⟨by first|rfl|(simp [Ma,La] <;> rfl)|(simp [*,Ma,La] <;> rfl),by repeat (first|(with_reducible first|exact HB.out|apply qa|apply ia|apply ta|refine ua ?_ Sa.out|refine ua ?_ Bc.out|refine ua ?_ Kt.out)|exact HB.out)⟩
def od.l0:Nat→List (Xm)→List (Rf)→Int→Option ((List (Rf)))
 | 0,_,_,_=>none
 | k + 1,x0,x3,x4=>if x4 < (x0.length:Int) then (if 0 ≤ x4 then ((gl.f ((Mc x0 x4).f0) ((Mc x0 x4).f1) ((Mc x0 x4).f2) ((Mc x0 x4).f3) ((Mc x0 x4).f4) ((Mc x0 x4).f5) ((Mc x0 x4).f6)).bind fun Iq=>(if x4 < (x3.length:Int) then (od.l0 k x0 (x3.set (x4:Int).toNat (⟨Iq.1,Iq.2.1,Iq.2.2.1,Iq.2.2.2.1,Iq.2.2.2.2.1,Iq.2.2.2.2.2.1,Iq.2.2.2.2.2.2⟩:Rf)) (wrap64 (x4 + 1))) else (none))) else (none)) else (some x3)
def od.f (k:Nat) (l0:List (Xm)):Option ((List (Rf))):=if 0 ≤ (l0.length:Int) then (if ((l0.length:Int):Int).toNat ≤ 4398046511104 then (od.l0 k l0 (List.replicate ((l0.length:Int):Int).toNat XD) 0) else (none)) else (none)
theorem od.calls (k:Nat) (A0:Option Addr) (c0:Nat) (l0:List (Xm)) (r:List (Rf)) (w:World) (Rk:Kd.C EC w A0 l0.length l0) (hc0:l0.length ≤ c0) (h:od.f k l0=some r) :
  Calls Try.prog 98 #[.slice A0 l0.length c0] w fun e w'=>∃ kn:Value,e = .returned (kn)∧Kd.R jq 65 w' w.heap.size (fun _=>True) kn r∧Below w.heap.size w w':=by
 have AQ:=Try.underlying124;have ox:=Try.underlying65;have sn:=ja.mk Rk;have rI:=ja.mk hc0;clear Rk hc0;have HB:=ja.mk (Below.refl w.heap.size w);have H:(if 0 ≤ (l0.length:Int) then (if ((l0.length:Int):Int).toNat ≤ 4398046511104 then (od.l0 k l0 (List.replicate ((l0.length:Int):Int).toNat XD) 0) else (none)) else (none))=some r:=h;clear h
 by_cases c2:0 ≤ (l0.length:Int)
 ·rw [if_pos c2] at H;have Vv:=eq_true c2;have Gz:decide (0 ≤ (l0.length:Int))=true:=decide_eq_true c2;clear c2
  by_cases c3:((l0.length:Int):Int).toNat ≤ 4398046511104
  ·rw [if_pos c3] at H;have Nh:=eq_true c3;have ct:decide (((l0.length:Int):Int).toNat ≤ 4398046511104)=true:=decide_eq_true c3;clear c3;obtain ⟨Om,gh⟩:∃ y_:List (Rf),y_=(List.replicate ((l0.length:Int):Int).toNat XD):=⟨_,rfl⟩;replace H:(od.l0 k l0 Om 0)=some r:=by first|(rw [gh];with_reducible exact H)|(have ue:=(Option.bind_some _ _).symm.trans H;rw [gh];with_reducible exact ue)|(have ue:=(Option.bind_some _ _).symm.trans H;with_reducible exact ue)|with_reducible exact H|(rw [gh];exact H)|exact H
   have Zp:=ja.mk gh;clear gh;have H':=ja.mk H;clear H;go_enter Try.func98,Try.ntmps98;go_wp2_with (first|((with_reducible refine yb (N:=7) rfl ?_);refine Kd.Mz jq _ 65 rfl (N:=7) rfl 57 _ _ rfl (l0.length:Int) rfl rfl Try.underlying57 (.agg #[(.int .i64 0),(.int .i64 0),(.int .i64 0),(.int .i64 0),(.int .i64 0),(.int .i64 0),(.string ⟨#[]⟩)]) 64 YX rfl (by decide) (by omega) XD (ok:=fun _=>True) (ri:=fun _=>True) (SK _ _ _ XD ) (fun _ hk=>hk) trivial (Wa) (Nat.le_trans (Nat.mul_le_mul_right _ (Wa:(l0.length:Int).toNat ≤ 4398046511104)) (by omega)) (Below.refl _ _) (Nat.le_refl _) ?_;intro GI w4 IC hb en Ve;clear en Ve;(first|rw [← Zp.out] at IC|(simp only [Int.reduceToNat] at IC;rw [← Zp.out] at IC));have Fb:=ja.mk (Kd.Rd IC (Fa (by repeat (first|(with_reducible first|exact HB.out|apply qa|apply ia|apply ta)|exact HB.out))));have Ib:=ja.mk (Qa (by repeat (first|(with_reducible first|exact HB.out|apply qa|apply ia|apply ta)|exact HB.out)) hb);clear HB;have su:=Fb;have HB:=Ib;clear Fb Ib hb IC))
   go_loopg [4] k (fun kq v4 w'=>∃ (ld:List (Rf)) (Ic:Int),v4 = .int .i64 Ic∧ja (od.l0 kq l0 ld Ic=some r)∧ja (kq ≤ k)∧ja (Kd.R jq 65 w' w.heap.size (fun _=>True) GI ld)∧ja (Below w.heap.size w w'))
   case atStart=>exact ⟨(Om),(0),(by first|rfl|(simp;done)|(simp [*];done)),H',⟨Nat.le_refl _⟩,⟨by (with_reducible repeat (first|apply Kd.Ab|apply Kd.zb|apply Kd.Rb));exact su.out⟩,⟨by repeat (first|(with_reducible first|exact HB.out|apply qa|apply ia|apply ta)|exact HB.out)⟩⟩
   case round =>
    clear H'
    try clear c2
    try clear Vv
    try clear Gz
    try clear p2
    try clear c3
    try clear Nh
    try clear ct
    (try clear HA);(try clear lg);(try clear Vc);(try clear HB);obtain ⟨ld,Ic,rfl,HA,lg,Vc,HB⟩:=hrel;cases gk with
    | zero=>exact absurd HA.out (by simp [od.l0])
    | succ k1 =>
     have H:=HA.out;clear HA;simp only [od.l0] at H
     by_cases c6:Ic < (l0.length:Int)
     ·rw [if_pos c6] at H;have Vm:decide (Ic < (l0.length:Int))=true:=decide_eq_true c6;clear c6
      by_cases c7:0 ≤ Ic
      ·rw [if_pos c7] at H;have Tj:decide (0 ≤ Ic)=true:=decide_eq_true c7;clear c7;replace H:=Option.bind_eq_some_iff.mp H;obtain ⟨⟨t105,t106,t107,t108,t109,t110,t111⟩,oO,H⟩:=H;replace H:(if Ic < (ld.length:Int) then (od.l0 k1 l0 (ld.set (Ic:Int).toNat (⟨t105,t106,t107,t108,t109,t110,t111⟩:Rf)) (wrap64 (Ic + 1))) else (none))=some r:=H;have A8:=ja.mk oO;clear oO
       by_cases c9:Ic < (ld.length:Int)
       ·rw [if_pos c9] at H;have mA:decide (Ic < (ld.length:Int))=true:=decide_eq_true c9;clear c9;obtain ⟨DI,iu⟩:∃ y_:List (Rf),y_=(ld.set (Ic:Int).toNat (⟨t105,t106,t107,t108,t109,t110,t111⟩:Rf)):=⟨_,rfl⟩;replace H:(od.l0 k1 l0 DI (wrap64 (Ic + 1)))=some r:=by first|(rw [iu];with_reducible exact H)|(have ue:=(Option.bind_some _ _).symm.trans H;rw [iu];with_reducible exact ue)|(have ue:=(Option.bind_some _ _).symm.trans H;with_reducible exact ue)|with_reducible exact H|(rw [iu];exact H)|exact H
        have ZR:=ja.mk iu;clear iu;have H':=ja.mk H;clear H;have Yq:0 ≤ (Ic:Int):=Wa;have Wq:Ic < (l0.length:Int):=Wa;obtain ⟨XN,IG,Ah,Lw,Kw,Jw,Iw,ZK,YK⟩:=NG sn.out Ic Yq Wq;cases IG;replace Ah:=Na HB.out Ah;replace Lw:=Na HB.out Lw;replace Kw:=Na HB.out Kw;replace Jw:=Na HB.out Jw;replace Iw:=Na HB.out Iw;replace ZK:=Na HB.out ZK;replace YK:=Na HB.out YK;replace Yq:=eq_true Yq;replace Wq:=eq_true Wq;go_wp2_with (first|((with_reducible refine jb (f:=114) rfl ?_);refine Fc (some 20) rfl rfl Try.func114 (by kernel_rfl) rfl #[.agg #[.int .i64 ((Mc l0 Ic).f0),.int .i64 ((Mc l0 Ic).f1),.int .i64 ((Mc l0 Ic).f2),.int .i64 ((Mc l0 Ic).f3),.int .i64 ((Mc l0 Ic).f4),.int .i64 ((Mc l0 Ic).f5),.string ((Mc l0 Ic).f6)]] rfl (by (try simp only [List.map_toArray,List.map_cons,List.map_nil]);first|done|rfl|(simp only [List.length_drop,List.length_take];rfl)) ?_;(with_reducible refine (gl.calls ((Mc l0 Ic).f0) ((Mc l0 Ic).f1) ((Mc l0 Ic).f2) ((Mc l0 Ic).f3) ((Mc l0 Ic).f4) ((Mc l0 Ic).f5) ((Mc l0 Ic).f6) t105 t106 t107 t108 t109 t110 t111 _ A8.out).mono ?_);rintro e Xj ⟨rfl,hb⟩;refine ⟨_,rfl,?_⟩;have Fb:=ja.mk (Kd.dg (by (with_reducible repeat (first|apply Kd.Ab|apply Kd.zb|apply Kd.Rb));exact Vc.out) hb);have Ib:=ja.mk (Qa (by repeat (first|(with_reducible first|exact HB.out|apply qa|apply ia|apply ta)|exact HB.out)) hb);clear Vc HB;have Vc:=Fb;have HB:=Ib;clear Fb Ib;(try clear hb);(try clear Hi);(try clear hk);(try clear hi);have wI:0 ≤ (Ic:Int):=Wa;have vI:(Ic:Int) < ((ld.length:Int):Int):=Wa;obtain ⟨Yg,Ez,ZJ,cR,VY,Vak,jS⟩:=Kd.gn Vc.out (by omega);(first|cases ZJ|(injection ZJ with Um RD SD;(first|subst Um|(injection Um with Um;subst Um));subst SD;clear RD));have Qz:=ja.mk cR;have Cal:=ja.mk jS;clear cR VY jS;obtain ⟨Xak,RQ,YQ,Jo,Io⟩:=Kd.TG Vc.out XD (Ic:Int) wI vI;obtain rfl:=iE YQ;have kY:Xj.cell? ⟨Yg,(Ic:Int).toNat * 7,none⟩=some (.int .i64 ((Ta ld Ic).f0)):=Jo 0 _ rfl;have jY:Xj.cell? ⟨Yg,(Ic:Int).toNat * 7 + 1,none⟩=some (.int .i64 ((Ta ld Ic).f1)):=Jo 1 _ rfl;have iY:Xj.cell? ⟨Yg,(Ic:Int).toNat * 7 + 2,none⟩=some (.int .i64 ((Ta ld Ic).f2)):=Jo 2 _ rfl;have fY:Xj.cell? ⟨Yg,(Ic:Int).toNat * 7 + 3,none⟩=some (.int .i64 ((Ta ld Ic).f3)):=Jo 3 _ rfl;have eY:Xj.cell? ⟨Yg,(Ic:Int).toNat * 7 + 4,none⟩=some (.int .i64 ((Ta ld Ic).f4)):=Jo 4 _ rfl;have Xai:Xj.cell? ⟨Yg,(Ic:Int).toNat * 7 + 5,none⟩=some (.int .i64 ((Ta ld Ic).f5)):=Jo 5 _ rfl;have Wai:Xj.cell? ⟨Yg,(Ic:Int).toNat * 7 + 6,none⟩=some (.string ((Ta ld Ic).f6)):=Jo 6 _ rfl;have HY:Xj.frozen? ⟨Yg,(Ic:Int).toNat * 7,none⟩=false:=Io 0;have GY:Xj.frozen? ⟨Yg,(Ic:Int).toNat * 7 + 1,none⟩=false:=Io 1;have FY:Xj.frozen? ⟨Yg,(Ic:Int).toNat * 7 + 2,none⟩=false:=Io 2;have EY:Xj.frozen? ⟨Yg,(Ic:Int).toNat * 7 + 3,none⟩=false:=Io 3;have DY:Xj.frozen? ⟨Yg,(Ic:Int).toNat * 7 + 4,none⟩=false:=Io 4;have aak:Xj.frozen? ⟨Yg,(Ic:Int).toNat * 7 + 5,none⟩=false:=Io 5;have Zaj:Xj.frozen? ⟨Yg,(Ic:Int).toNat * 7 + 6,none⟩=false:=Io 6;clear RQ Jo Io YQ;replace wI:=eq_true wI;replace vI:=eq_true vI;have TV:=ja.mk (show Kd.R jq 65 Xj w.heap.size (fun _=>True) (.slice (some ⟨Yg,0,none⟩) ld.length Ez) ld from (by (with_reducible repeat (first|apply Kd.Ab|apply Kd.zb|apply Kd.Rb));exact Vc.out));obtain ⟨Wak,LN,XQ,pn,Ho⟩:=Kd.TG TV.out XD (Ic:Int) (Wa) (by have h_:(Ic:Int) < ((ld.length:Int):Int):=Wa;first|exact h_|(have e_:=(Kd.Lc Vc.out).1;omega)|simpa using h_);obtain rfl:=iE XQ;have lD:=Kd.mX TV.out (Ic:Int) (Wa) (by have h_:(Ic:Int) < ((ld.length:Int):Int):=Wa;first|exact h_|(have e_:=(Kd.Lc Vc.out).1;omega)|simpa using h_) (seg:=[.int .i64 t105,.int .i64 t106,.int .i64 t107,.int .i64 t108,.int .i64 t109,.int .i64 t110,.string t111]) (j:=0) LN pn (show 7 ≤ 7 from by decide) (x':=(⟨t105,t106,t107,t108,t109,t110,t111⟩:Rf)) (SK _ _ _ (⟨t105,t106,t107,t108,t109,t110,t111⟩:Rf) ) (fun _ hk=>hk);have UE:=pn 0 _ rfl;(try simp only [show (jq).sz=7 from rfl,Nat.mul_one,Nat.add_zero] at UE);have MF:=Ho 0;(try simp only [show (jq).sz=7 from rfl,Nat.mul_one,Nat.add_zero] at MF);have lJ:=pn 1 _ rfl;(try simp only [show (jq).sz=7 from rfl,Nat.mul_one,Nat.add_zero] at lJ);have yJ:=Ho 1;(try simp only [show (jq).sz=7 from rfl,Nat.mul_one,Nat.add_zero] at yJ);have kJ:=pn 2 _ rfl;(try simp only [show (jq).sz=7 from rfl,Nat.mul_one,Nat.add_zero] at kJ);have xJ:=Ho 2;(try simp only [show (jq).sz=7 from rfl,Nat.mul_one,Nat.add_zero] at xJ);have jJ:=pn 3 _ rfl;(try simp only [show (jq).sz=7 from rfl,Nat.mul_one,Nat.add_zero] at jJ);have wJ:=Ho 3;(try simp only [show (jq).sz=7 from rfl,Nat.mul_one,Nat.add_zero] at wJ);have iJ:=pn 4 _ rfl;(try simp only [show (jq).sz=7 from rfl,Nat.mul_one,Nat.add_zero] at iJ);have vJ:=Ho 4;(try simp only [show (jq).sz=7 from rfl,Nat.mul_one,Nat.add_zero] at vJ);have dY:=pn 5 _ rfl;(try simp only [show (jq).sz=7 from rfl,Nat.mul_one,Nat.add_zero] at dY);have zY:=Ho 5;(try simp only [show (jq).sz=7 from rfl,Nat.mul_one,Nat.add_zero] at zY);have bY:=pn 6 _ rfl;(try simp only [show (jq).sz=7 from rfl,Nat.mul_one,Nat.add_zero] at bY);have yY:=Ho 6;(try simp only [show (jq).sz=7 from rfl,Nat.mul_one,Nat.add_zero] at yY);clear LN pn Ho XQ)|((with_reducible refine Pg (t:=65) (p:=21) rfl ?_);refine pg (t:=65) (p:=21) (v:=?LP) (w1:=(((((((Xj.setCell ⟨Yg,(Ic:Int).toNat * 7,none⟩ (.int .i64 t105)).setCell ⟨Yg,(Ic:Int).toNat * 7 + 1,none⟩ (.int .i64 t106)).setCell ⟨Yg,(Ic:Int).toNat * 7 + 2,none⟩ (.int .i64 t107)).setCell ⟨Yg,(Ic:Int).toNat * 7 + 3,none⟩ (.int .i64 t108)).setCell ⟨Yg,(Ic:Int).toNat * 7 + 4,none⟩ (.int .i64 t109)).setCell ⟨Yg,(Ic:Int).toNat * 7 + 5,none⟩ (.int .i64 t110)).setCell ⟨Yg,(Ic:Int).toNat * 7 + 6,none⟩ (.string t111))) ?hg ?ho ?hn ?hr ?_;(case ho=>rfl);(case hg=>rfl);(case hn=>rfl);(case hr=>first|(go_simp;done)|(go_simp;rfl));intro qv hw;have hg:Xj.grownBy qv (some Yg):=(by rw [hw];exact lD.2);have qx:Kd.R jq 65 qv w.heap.size (fun _=>True) (.slice (some ⟨Yg,0,none⟩) ld.length Ez) DI:=(by rw [hw,ZR.out];exact lD.1);clear lD;have Fb:=ja.mk (qx);have Ib:=ja.mk ((by rw [hw];exact ua (ua (ua (ua (ua (ua (ua (HB.out) Qz.out) Qz.out) Qz.out) Qz.out) Qz.out) Qz.out) Qz.out:Below w.heap.size w qv));clear Vc HB;have Vc:=Fb;have HB:=Ib;clear Fb Ib hg hw qx))
        go_roundg k1
        case measure=>have:=lg.out;omega
        case rel=>exact ⟨(DI),(wrap64 (Ic + 1)),(by first|rfl|(simp;done)|(simp [*];done)),H',⟨by have:=lg.out;omega⟩,⟨by (with_reducible repeat (first|apply Kd.Ab|apply Kd.zb|apply Kd.Rb));exact Vc.out⟩,⟨by repeat (first|(with_reducible first|exact HB.out|apply qa|apply ia|apply ta)|exact HB.out)⟩⟩
       ·rw [if_neg c9] at H;exact absurd H (by simp)
      ·rw [if_neg c7] at H;exact absurd H (by simp)
     ·rw [if_neg c6] at H;have Vm:decide (Ic < (l0.length:Int))=false:=decide_eq_false c6;clear c6;obtain rfl:=Option.some.inj H;go_wp2;go_ret;exact ⟨_,by first|rfl|(simp [Ma,La] <;> rfl)|(simp [*,Ma,La] <;> rfl),by (with_reducible repeat (first|apply Kd.Ab|apply Kd.zb|apply Kd.Rb));exact Vc.out,by repeat (first|(with_reducible first|exact HB.out|apply qa|apply ia|apply ta)|exact HB.out)⟩
  ·rw [if_neg c3] at H;exact absurd H (by simp)
 ·rw [if_neg c2] at H;exact absurd H (by simp)
def jl.f (k:Nat) (Pa:List (Xm)) (Ka:Int) (Ga:Int) (Ia:Int) (xb:Int):Option ((List (Rf)) × Int × Int × Int × Int):=(od.f k Pa).bind fun t104=>(some (t104,Ka,Ga,Ia,xb))
theorem jl.calls (k:Nat) (Ya:Option Addr) (Za:Nat) (Pa:List (Xm)) (Ka:Int) (Ga:Int) (Ia:Int) (xb:Int) (r1:List (Rf)) (r2:Int) (r3:Int) (r4:Int) (r5:Int) (w:World) (Wd:Kd.C EC w Ya Pa.length Pa) (Sd:Pa.length ≤ Za) (h:jl.f k Pa Ka Ga Ia xb=some (r1,r2,r3,r4,r5)) :
  Calls Try.prog 75 #[.agg #[.slice Ya Pa.length Za,.int .i64 Ka,.int .i64 Ga,.int .i64 Ia,.int .i64 xb]] w fun e w'=>∃ kn:Value,e = .returned (.agg #[kn,.int .i64 r2,.int .i64 r3,.int .i64 r4,.int .i64 r5])∧Kd.R jq 65 w' w.heap.size (fun _=>True) kn r1∧Below w.heap.size w w':=by
 have lY:=Try.underlying86;have mz:=Try.underlying59;have qe:=ja.mk Wd;have Be:=ja.mk Sd;clear Wd Sd;have HB:=ja.mk (Below.refl w.heap.size w);have H:((od.f k Pa).bind fun t104=>(some (t104,Ka,Ga,Ia,xb)))=some (r1,r2,r3,r4,r5):=h;clear h;replace H:=Option.bind_eq_some_iff.mp H;obtain ⟨t104,iH,H⟩:=H;replace H:(some (t104,Ka,Ga,Ia,xb))=some (r1,r2,r3,r4,r5):=H;have A2:=ja.mk iH;clear iH;simp only [Option.some.injEq,Prod.mk.injEq] at H;obtain ⟨rfl,rfl,rfl,rfl,rfl⟩:=H;go_enter Try.func75,Try.ntmps75;go_wp2_with (first|((with_reducible refine yb (N:=1) rfl ?_);refine Gb ?hg (N:=1) ?hd (cs:=#[.slice Ya Pa.length Za,.int .i64 Ka,.int .i64 Ga,.int .i64 Ia,.int .i64 xb]) (t:=86) ?hr ?_;(case hd=>rfl);(case hg=>rfl);(case hr=>first|(go_simp;done)|(go_simp;rfl));intro ya hg w3 Qb hb;have Fb:=ja.mk (Qa (by repeat (first|(with_reducible first|exact HB.out|apply qa|apply ia|apply ta)|exact HB.out)) hb);have Ib:=ja.mk (Qb);have Sb:=ja.mk ((by rw [hg];exact (Fa (by repeat (first|(with_reducible first|exact HB.out|apply qa|apply ia|apply ta)|exact HB.out))):w.heap.size ≤ ya));have Ec:=ja.mk ((by rw [hg];exact (Fa (by repeat (first|(with_reducible first|exact HB.out|apply qa|apply ia|apply ta)|exact HB.out))):w.heap.size ≤ ya));clear HB;have HB:=Fb;have oa:=Ib;have yd:=Sb;have Sa:=Ec;clear Fb Ib Sb Ec hb Qb hg)|((with_reducible refine yb (N:=2) rfl ?_);refine Gb ?hg (N:=2) ?hd (cs:=#[.slice none 0 0,.int .i64 0,.int .i64 0,.int .i64 0,.int .i64 0]) (t:=59) ?hr ?_;(case hd=>rfl);(case hg=>rfl);(case hr=>first|(go_simp;done)|(go_simp;rfl));intro Ja hg w4 Qb hb;have Fb:=ja.mk (Ua (g:=ya) (o:=.cells #[.slice Ya Pa.length Za,.int .i64 Ka,.int .i64 Ga,.int .i64 Ia,.int .i64 xb] 86 (0,0)) (by (with_reducible repeat (first|refine Ba ?_ _|refine Ea ?_|refine Ca ?_ _));exact oa.out) hb);have Ib:=ja.mk (Qa (by repeat (first|(with_reducible first|exact HB.out|apply qa|apply ia|apply ta|refine ua ?_ Sa.out)|exact HB.out)) hb);have Sb:=ja.mk (Qb);have Ec:=ja.mk ((by rw [hg];exact (Fa (by repeat (first|(with_reducible first|exact HB.out|apply qa|apply ia|apply ta|refine ua ?_ Sa.out)|exact HB.out))):w.heap.size ≤ Ja));have Re:=ja.mk ((by rw [hg];exact (Fa (by repeat (first|(with_reducible first|exact HB.out|apply qa|apply ia|apply ta|refine ua ?_ Sa.out)|exact HB.out))):w.heap.size ≤ Ja));have Gf:=ja.mk ((by rw [hg];exact Nat.ne_of_lt (Jc (g:=ya) (o:=.cells #[.slice Ya Pa.length Za,.int .i64 Ka,.int .i64 Ga,.int .i64 Ia,.int .i64 xb] 86 (0,0)) (by (with_reducible repeat (first|refine Ba ?_ _|refine Ea ?_|refine Ca ?_ _));exact oa.out)):ya ≠ Ja));have Yf:=ja.mk ((by rw [hg];exact Nat.ne_of_gt (Jc (g:=ya) (o:=.cells #[.slice Ya Pa.length Za,.int .i64 Ka,.int .i64 Ga,.int .i64 Ia,.int .i64 xb] 86 (0,0)) (by (with_reducible repeat (first|refine Ba ?_ _|refine Ea ?_|refine Ca ?_ _));exact oa.out)):Ja ≠ ya));clear oa HB;have oa:=Fb;have HB:=Ib;have za:=Sb;have rj:=Ec;have Bc:=Re;have Db:=Gf;have Cb:=Yf;clear Fb Ib Sb Ec Re Gf Yf hb Qb hg)|((with_reducible refine yb (N:=3) rfl ?_);refine Gb ?hg (N:=3) ?hd (cs:=#[.slice none 0 0,.int .i64 0,.int .i64 0,.int .i64 0,.int .i64 0]) (t:=59) ?hr ?_;(case hd=>rfl);(case hg=>rfl);(case hr=>first|(go_simp;done)|(go_simp;rfl));intro Ae hg w5 Qb hb;have Fb:=ja.mk (Ua (g:=ya) (o:=.cells #[.slice Ya Pa.length Za,.int .i64 Ka,.int .i64 Ga,.int .i64 Ia,.int .i64 xb] 86 (0,0)) (by (with_reducible repeat (first|refine Ba ?_ _|refine Ea ?_|refine Ca ?_ _));exact oa.out) hb);have Ib:=ja.mk (Ua (g:=Ja) (o:=.cells #[.slice none 0 0,.int .i64 0,.int .i64 0,.int .i64 0,.int .i64 0] 59 (0,0)) (by (with_reducible repeat (first|refine Ba ?_ _|refine Ea ?_|refine Ca ?_ _));exact za.out) hb);have Sb:=ja.mk (Qa (by repeat (first|(with_reducible first|exact HB.out|apply qa|apply ia|apply ta|refine ua ?_ Sa.out|refine ua ?_ Bc.out)|exact HB.out)) hb);have Ec:=ja.mk (Qb);have Re:=ja.mk ((by rw [hg];exact (Fa (by repeat (first|(with_reducible first|exact HB.out|apply qa|apply ia|apply ta|refine ua ?_ Sa.out|refine ua ?_ Bc.out)|exact HB.out))):w.heap.size ≤ Ae));have Gf:=ja.mk ((by rw [hg];exact (Fa (by repeat (first|(with_reducible first|exact HB.out|apply qa|apply ia|apply ta|refine ua ?_ Sa.out|refine ua ?_ Bc.out)|exact HB.out))):w.heap.size ≤ Ae));have Yf:=ja.mk ((by rw [hg];exact Nat.ne_of_lt (Jc (g:=ya) (o:=.cells #[.slice Ya Pa.length Za,.int .i64 Ka,.int .i64 Ga,.int .i64 Ia,.int .i64 xb] 86 (0,0)) (by (with_reducible repeat (first|refine Ba ?_ _|refine Ea ?_|refine Ca ?_ _));exact oa.out)):ya ≠ Ae));have tw:=ja.mk ((by rw [hg];exact Nat.ne_of_gt (Jc (g:=ya) (o:=.cells #[.slice Ya Pa.length Za,.int .i64 Ka,.int .i64 Ga,.int .i64 Ia,.int .i64 xb] 86 (0,0)) (by (with_reducible repeat (first|refine Ba ?_ _|refine Ea ?_|refine Ca ?_ _));exact oa.out)):Ae ≠ ya));have vH:=ja.mk ((by rw [hg];exact Nat.ne_of_lt (Jc (g:=Ja) (o:=.cells #[.slice none 0 0,.int .i64 0,.int .i64 0,.int .i64 0,.int .i64 0] 59 (0,0)) (by (with_reducible repeat (first|refine Ba ?_ _|refine Ea ?_|refine Ca ?_ _));exact za.out)):Ja ≠ Ae));have lQ:=ja.mk ((by rw [hg];exact Nat.ne_of_gt (Jc (g:=Ja) (o:=.cells #[.slice none 0 0,.int .i64 0,.int .i64 0,.int .i64 0,.int .i64 0] 59 (0,0)) (by (with_reducible repeat (first|refine Ba ?_ _|refine Ea ?_|refine Ca ?_ _));exact za.out)):Ae ≠ Ja));clear oa za HB;have oa:=Fb;have za:=Ib;have HB:=Sb;have we:=Ec;have xX:=Re;have Kt:=Gf;have Gj:=Yf;have Mq:=tw;have Je:=vH;have Kq:=lQ;clear Fb Ib Sb Ec Re Gf Yf tw vH lQ hb Qb hg;have yaj:=Db.out;have kaj:=Cb.out;have xaj:=Gj.out;have jaj:=Mq.out;have vq:w5.cell? ⟨ya,0,none⟩=some (.slice Ya Pa.length Za):=(ga oa.out 0).trans rfl;have uq:w5.cell? ⟨ya,1,none⟩=some (.int .i64 Ka):=(ga oa.out 1).trans rfl;have tq:w5.cell? ⟨ya,2,none⟩=some (.int .i64 Ga):=(ga oa.out 2).trans rfl;have sq:w5.cell? ⟨ya,3,none⟩=some (.int .i64 Ia):=(ga oa.out 3).trans rfl;have rq:w5.cell? ⟨ya,4,none⟩=some (.int .i64 xb):=(ga oa.out 4).trans rfl;have qq:=aa oa.out 0;have pq:=aa oa.out 1;have oq:=aa oa.out 2;have mq:=aa oa.out 3;have lq:=aa oa.out 4)|((with_reducible refine jb (f:=98) rfl ?_);refine Fc (some 6) rfl rfl Try.func98 (by kernel_rfl) rfl #[.slice Ya Pa.length Za] rfl (by (try simp only [List.map_toArray,List.map_cons,List.map_nil]);first|done|rfl|(simp only [List.length_drop,List.length_take];rfl)) ?_;(with_reducible refine (od.calls k _ _ Pa t104 _ ?yc ?uc A2.out).mono ?_);(case yc=>repeat (first|exact (Kd.Ob qe.out HB.out)|(with_reducible refine Kd.Pb ?_ _)|(with_reducible refine Kd.Nb ?_ _)|(with_reducible refine Kd.Zb ?_)));(case uc=>exact Be.out);rintro e w9 ⟨PS,rfl,Am,hb⟩;refine ⟨_,rfl,?_⟩;have Fb:=ja.mk (Kd.Rd Am (Fa (by repeat (first|(with_reducible first|exact HB.out|apply qa|apply ia|apply ta|refine ua ?_ Sa.out|refine ua ?_ Bc.out|refine ua ?_ Kt.out)|exact HB.out))));have Ib:=ja.mk (Ua (g:=ya) (o:=.cells #[.slice Ya Pa.length Za,.int .i64 Ka,.int .i64 Ga,.int .i64 Ia,.int .i64 xb] 86 (0,0)) (by (with_reducible repeat (first|refine Ba ?_ _|refine Ea ?_|refine Ca ?_ _));exact oa.out) hb);have Sb:=ja.mk (Ua (g:=Ja) (o:=.cells #[.slice none 0 0,.int .i64 0,.int .i64 0,.int .i64 0,.int .i64 0] 59 (0,0)) (by (with_reducible repeat (first|refine Ba ?_ _|refine Ea ?_|refine Ca ?_ _));exact za.out) hb);have Ec:=ja.mk (Ua (g:=Ae) (o:=.cells #[.slice none 0 0,.int .i64 0,.int .i64 0,.int .i64 0,.int .i64 0] 59 (0,0)) (by (with_reducible repeat (first|refine Ba ?_ _|refine Ea ?_|refine Ca ?_ _));exact we.out) hb);have Re:=ja.mk (Qa (by repeat (first|(with_reducible first|exact HB.out|apply qa|apply ia|apply ta|refine ua ?_ Sa.out|refine ua ?_ Bc.out|refine ua ?_ Kt.out)|exact HB.out)) hb);clear oa za we HB;have Oq:=Fb;have oa:=Ib;have za:=Sb;have we:=Ec;have HB:=Re;clear Fb Ib Sb Ec Re;(try clear hb);(try clear Hi);(try clear hk);(try clear hi);(try clear Am);obtain ⟨DK,Ez,ZJ⟩:=Kd.De Oq.out;subst ZJ;have J4:=Kq.out;have e4:=Je.out;have Sp:w9.cell? ⟨Ae,0,none⟩=some (.slice none 0 0):=(ga we.out 0).trans rfl;have Rp:w9.cell? ⟨Ae,1,none⟩=some (.int .i64 0):=(ga we.out 1).trans rfl;have Qp:w9.cell? ⟨Ae,2,none⟩=some (.int .i64 0):=(ga we.out 2).trans rfl;have Pp:w9.cell? ⟨Ae,3,none⟩=some (.int .i64 0):=(ga we.out 3).trans rfl;have Np:w9.cell? ⟨Ae,4,none⟩=some (.int .i64 0):=(ga we.out 4).trans rfl;have Hp:=aa we.out 0;have Gp:=aa we.out 1;have Fp:=aa we.out 2;have Ep:=aa we.out 3;have Dp:=aa we.out 4;have Mp:w9.cell? ⟨ya,0,none⟩=some (.slice Ya Pa.length Za):=(ga oa.out 0).trans rfl;have Lp:w9.cell? ⟨ya,1,none⟩=some (.int .i64 Ka):=(ga oa.out 1).trans rfl;have Kp:w9.cell? ⟨ya,2,none⟩=some (.int .i64 Ga):=(ga oa.out 2).trans rfl;have Jp:w9.cell? ⟨ya,3,none⟩=some (.int .i64 Ia):=(ga oa.out 3).trans rfl;have Ip:w9.cell? ⟨ya,4,none⟩=some (.int .i64 xb):=(ga oa.out 4).trans rfl;have Cp:=aa oa.out 0;have Bp:=aa oa.out 1;have Ap:=aa oa.out 2;have zp:=aa oa.out 3;have yp:=aa oa.out 4;have ij:w9.cell? ⟨Ja,0,none⟩=some (.slice none 0 0):=(ga za.out 0).trans rfl;have gj:w9.cell? ⟨Ja,1,none⟩=some (.int .i64 0):=(ga za.out 1).trans rfl;have fj:w9.cell? ⟨Ja,2,none⟩=some (.int .i64 0):=(ga za.out 2).trans rfl;have ej:w9.cell? ⟨Ja,3,none⟩=some (.int .i64 0):=(ga za.out 3).trans rfl;have cj:w9.cell? ⟨Ja,4,none⟩=some (.int .i64 0):=(ga za.out 4).trans rfl;have aj:=aa za.out 0;have Zi:=aa za.out 1;have Yi:=aa za.out 2;have Xi:=aa za.out 3;have Wi:=aa za.out 4));refine bodyPost_ret (results_cell_row rfl _ _ Ja 59 #[.slice DK t104.length Ez,.int .i64 Ka,.int .i64 Ga,.int .i64 Ia,.int .i64 xb] (0,0) _ rfl (by (with_reducible repeat (first|refine Ba ?_ _|refine Ea ?_|refine Ca ?_ _));refine Ad (cs:=#[.slice DK t104.length Ez,.int .i64 Ka,.int .i64 Ga,.int .i64 Ia,.int .i64 0]) ?_ 4 _ rfl;(with_reducible repeat (first|refine Ba ?_ _|refine Ea ?_|refine Ca ?_ _));refine Ad (cs:=#[.slice DK t104.length Ez,.int .i64 Ka,.int .i64 Ga,.int .i64 0,.int .i64 0]) ?_ 3 _ rfl;(with_reducible repeat (first|refine Ba ?_ _|refine Ea ?_|refine Ca ?_ _));refine Ad (cs:=#[.slice DK t104.length Ez,.int .i64 Ka,.int .i64 0,.int .i64 0,.int .i64 0]) ?_ 2 _ rfl;(with_reducible repeat (first|refine Ba ?_ _|refine Ea ?_|refine Ca ?_ _));refine Ad (cs:=#[.slice DK t104.length Ez,.int .i64 0,.int .i64 0,.int .i64 0,.int .i64 0]) ?_ 1 _ rfl;(with_reducible repeat (first|refine Ba ?_ _|refine Ea ?_|refine Ca ?_ _));refine Ad (cs:=#[.slice none 0 0,.int .i64 0,.int .i64 0,.int .i64 0,.int .i64 0]) ?_ 0 _ rfl;(with_reducible repeat (first|refine Ba ?_ _|refine Ea ?_|refine Ca ?_ _));refine Bd ?_ Je.out _;(with_reducible repeat (first|refine Ba ?_ _|refine Ea ?_|refine Ca ?_ _));refine Bd ?_ Je.out _;(with_reducible repeat (first|refine Ba ?_ _|refine Ea ?_|refine Ca ?_ _));refine Bd ?_ Je.out _;(with_reducible repeat (first|refine Ba ?_ _|refine Ea ?_|refine Ca ?_ _));refine Bd ?_ Je.out _;(with_reducible repeat (first|refine Ba ?_ _|refine Ea ?_|refine Ca ?_ _));refine Bd ?_ Je.out _;(with_reducible repeat (first|refine Ba ?_ _|refine Ea ?_|refine Ca ?_ _));exact za.out) Try.underlying59 rfl (by kernel_rfl)) rfl ?_;exact ⟨_,by first|rfl|(simp [Ma,La] <;> rfl)|(simp [*,Ma,La] <;> rfl),by (with_reducible repeat (first|apply Kd.Ab|apply Kd.zb|apply Kd.Rb));exact Kd.fe (Kd.Bf (p:=⟨Ja,4,none⟩) (Kd.Bf (p:=⟨Ja,3,none⟩) (Kd.Bf (p:=⟨Ja,2,none⟩) (Kd.Bf (p:=⟨Ja,1,none⟩) (Kd.Bf (p:=⟨Ja,0,none⟩) (Kd.Bf (p:=⟨Ae,4,none⟩) (Kd.Bf (p:=⟨Ae,3,none⟩) (Kd.Bf (p:=⟨Ae,2,none⟩) (Kd.Bf (p:=⟨Ae,1,none⟩) (Kd.Bf (p:=⟨Ae,0,none⟩) (Kd.Zl (Kd.Zl Oq.out we.out (by decide)) za.out (by decide)) (fun _ hk=>hk.1.2) (.slice DK t104.length Ez)) (fun _ hk=>hk.1.2) (.int .i64 Ka)) (fun _ hk=>hk.1.2) (.int .i64 Ga)) (fun _ hk=>hk.1.2) (.int .i64 Ia)) (fun _ hk=>hk.1.2) (.int .i64 xb)) (fun _ hk=>hk.2) (.slice DK t104.length Ez)) (fun _ hk=>hk.2) (.int .i64 Ka)) (fun _ hk=>hk.2) (.int .i64 Ga)) (fun _ hk=>hk.2) (.int .i64 Ia)) (fun _ hk=>hk.2) (.int .i64 xb)) (fun _ hk=>trivial),by repeat (first|(with_reducible first|exact HB.out|apply qa|apply ia|apply ta|refine ua ?_ Sa.out|refine ua ?_ Bc.out|refine ua ?_ Kt.out)|exact HB.out)⟩
def jd.l0:Nat→List (Xv)→List (Ce)→Int→Option ((List (Ce)))
 | 0,_,_,_=>none
 | k + 1,x0,x3,x4=>if x4 < (x0.length:Int) then (if 0 ≤ x4 then ((jl.f k ((Xd x0 x4).f0) ((Xd x0 x4).f1) ((Xd x0 x4).f2) ((Xd x0 x4).f3) ((Xd x0 x4).f4)).bind fun Iq=>(if x4 < (x3.length:Int) then (jd.l0 k x0 (x3.set (x4:Int).toNat (⟨Iq.1,Iq.2.1,Iq.2.2.1,Iq.2.2.2.1,Iq.2.2.2.2⟩:Ce)) (wrap64 (x4 + 1))) else (none))) else (none)) else (some x3)
def jd.f (k:Nat) (l0:List (Xv)):Option ((List (Ce))):=if 0 ≤ (l0.length:Int) then (if ((l0.length:Int):Int).toNat ≤ 5026338869833 then (jd.l0 k l0 (List.replicate ((l0.length:Int):Int).toNat uI) 0) else (none)) else (none)
theorem jd.calls (k:Nat) (A0:Option Addr) (c0:Nat) (l0:List (Xv)) (r:List (Ce)) (w:World) (Rk:Kd.C qQ w A0 l0.length l0) (hc0:l0.length ≤ c0) (h:jd.f k l0=some r) :
  Calls Try.prog 45 #[.slice A0 l0.length c0] w fun e w'=>∃ kn:Value,e = .returned (kn)∧Kd.S Mt 59 w' w.heap.size (fun _=>True) kn r∧Below w.heap.size w w':=by
 have lY:=Try.underlying86;have mz:=Try.underlying59;have sn:=ja.mk Rk;have rI:=ja.mk hc0;clear Rk hc0;have HB:=ja.mk (Below.refl w.heap.size w);have H:(if 0 ≤ (l0.length:Int) then (if ((l0.length:Int):Int).toNat ≤ 5026338869833 then (jd.l0 k l0 (List.replicate ((l0.length:Int):Int).toNat uI) 0) else (none)) else (none))=some r:=h;clear h
 by_cases c2:0 ≤ (l0.length:Int)
 ·rw [if_pos c2] at H;have Vv:=eq_true c2;have Gz:decide (0 ≤ (l0.length:Int))=true:=decide_eq_true c2;clear c2
  by_cases c3:((l0.length:Int):Int).toNat ≤ 5026338869833
  ·rw [if_pos c3] at H;have Nh:=eq_true c3;have ct:decide (((l0.length:Int):Int).toNat ≤ 5026338869833)=true:=decide_eq_true c3;clear c3;obtain ⟨Om,gh⟩:∃ y_:List (Ce),y_=(List.replicate ((l0.length:Int):Int).toNat uI):=⟨_,rfl⟩;replace H:(jd.l0 k l0 Om 0)=some r:=by first|(rw [gh];with_reducible exact H)|(have ue:=(Option.bind_some _ _).symm.trans H;rw [gh];with_reducible exact ue)|(have ue:=(Option.bind_some _ _).symm.trans H;with_reducible exact ue)|with_reducible exact H|(rw [gh];exact H)|exact H
   have Zp:=ja.mk gh;clear gh;have H':=ja.mk H;clear H;go_enter Try.func45,Try.ntmps45;go_wp2_with (first|((with_reducible refine yb (N:=7) rfl ?_);refine Kd.QZ Mt _ 59 rfl (N:=7) rfl 28 _ _ rfl (l0.length:Int) rfl rfl Try.underlying28 (.agg #[(.slice none 0 0),(.int .i64 0),(.int .i64 0),(.int .i64 0),(.int .i64 0)]) 56 ZX rfl (by decide) (by omega) uI (ok:=fun _=>True) (ri:=fun _=>True) (TK _ _ _ uI (Kd.nI _ _ _ _ _)) (fun _ hk=>hk) trivial (Wa) (Nat.le_trans (Nat.mul_le_mul_right _ (Wa:(l0.length:Int).toNat ≤ 5026338869833)) (by omega)) (Below.refl _ _) (Nat.le_refl _) ?_;intro GI w4 IC hb en Ve;clear en Ve;(first|rw [← Zp.out] at IC|(simp only [Int.reduceToNat] at IC;rw [← Zp.out] at IC));have Fb:=ja.mk (Kd.Bt IC (Fa (by repeat (first|(with_reducible first|exact HB.out|apply qa|apply ia|apply ta)|exact HB.out))));have Ib:=ja.mk (Qa (by repeat (first|(with_reducible first|exact HB.out|apply qa|apply ia|apply ta)|exact HB.out)) hb);clear HB;have su:=Fb;have HB:=Ib;clear Fb Ib hb IC))
   go_loopg [4] k (fun kq v4 w'=>∃ (ld:List (Ce)) (Ic:Int),v4 = .int .i64 Ic∧ja (jd.l0 kq l0 ld Ic=some r)∧ja (kq ≤ k)∧ja (Kd.S Mt 59 w' w.heap.size (fun _=>True) GI ld)∧ja (Below w.heap.size w w'))
   case atStart=>exact ⟨(Om),(0),(by first|rfl|(simp;done)|(simp [*];done)),H',⟨Nat.le_refl _⟩,⟨by (with_reducible repeat (first|apply Kd.Zc|apply Kd.Yc|apply Kd.Jd));exact su.out⟩,⟨by repeat (first|(with_reducible first|exact HB.out|apply qa|apply ia|apply ta)|exact HB.out)⟩⟩
   case round =>
    clear H'
    try clear c2
    try clear Vv
    try clear Gz
    try clear p2
    try clear c3
    try clear Nh
    try clear ct
    try clear c4
    (try clear HA);(try clear lg);(try clear Vc);(try clear HB);obtain ⟨ld,Ic,rfl,HA,lg,Vc,HB⟩:=hrel;cases gk with
    | zero=>exact absurd HA.out (by simp [jd.l0])
    | succ k1 =>
     have H:=HA.out;clear HA;simp only [jd.l0] at H
     by_cases c6:Ic < (l0.length:Int)
     ·rw [if_pos c6] at H;have Vm:decide (Ic < (l0.length:Int))=true:=decide_eq_true c6;clear c6
      by_cases c7:0 ≤ Ic
      ·rw [if_pos c7] at H;have Tj:decide (0 ≤ Ic)=true:=decide_eq_true c7;clear c7;replace H:=Option.bind_eq_some_iff.mp H;obtain ⟨⟨t105,t108,t109,t110,t111⟩,oO,H⟩:=H;replace H:(if Ic < (ld.length:Int) then (jd.l0 k1 l0 (ld.set (Ic:Int).toNat (⟨t105,t108,t109,t110,t111⟩:Ce)) (wrap64 (Ic + 1))) else (none))=some r:=H;have A8:=ja.mk oO;clear oO
       by_cases c9:Ic < (ld.length:Int)
       ·rw [if_pos c9] at H;have mA:decide (Ic < (ld.length:Int))=true:=decide_eq_true c9;clear c9;obtain ⟨DI,iu⟩:∃ y_:List (Ce),y_=(ld.set (Ic:Int).toNat (⟨t105,t108,t109,t110,t111⟩:Ce)):=⟨_,rfl⟩;replace H:(jd.l0 k1 l0 DI (wrap64 (Ic + 1)))=some r:=by first|(rw [iu];with_reducible exact H)|(have ue:=(Option.bind_some _ _).symm.trans H;rw [iu];with_reducible exact ue)|(have ue:=(Option.bind_some _ _).symm.trans H;with_reducible exact ue)|with_reducible exact H|(rw [iu];exact H)|exact H
        have ZR:=ja.mk iu;clear iu;have H':=ja.mk H;clear H;have Yq:0 ≤ (Ic:Int):=Wa;have Wq:Ic < (l0.length:Int):=Wa;obtain ⟨XN,L1,IZ,IG,Ah,Lw,Kw,Jw,Iw,pL,wL⟩:=sK sn.out Ic Yq Wq;cases IG;replace Ah:=Na HB.out Ah;replace Lw:=Na HB.out Lw;replace Kw:=Na HB.out Kw;replace Jw:=Na HB.out Jw;replace Iw:=Na HB.out Iw;have YV:=ja.mk wL;have kW:=ja.mk pL;clear wL pL;replace Yq:=eq_true Yq;replace Wq:=eq_true Wq;go_wp2_with (first|((with_reducible refine jb (f:=75) rfl ?_);refine Fc (some 20) rfl rfl Try.func75 (by kernel_rfl) rfl #[.agg #[.slice L1 ((Xd l0 Ic).f0).length IZ,.int .i64 ((Xd l0 Ic).f1),.int .i64 ((Xd l0 Ic).f2),.int .i64 ((Xd l0 Ic).f3),.int .i64 ((Xd l0 Ic).f4)]] rfl (by (try simp only [List.map_toArray,List.map_cons,List.map_nil]);first|done|rfl|(simp only [List.length_drop,List.length_take];rfl)) ?_;(with_reducible refine (jl.calls k1 _ _ ((Xd l0 Ic).f0) ((Xd l0 Ic).f1) ((Xd l0 Ic).f2) ((Xd l0 Ic).f3) ((Xd l0 Ic).f4) t105 t108 t109 t110 t111 _ ?yc ?uc A8.out).mono ?_);(case yc=>repeat (first|exact (Kd.Ob YV.out HB.out)|(with_reducible refine Kd.Pb ?_ _)|(with_reducible refine Kd.Nb ?_ _)|(with_reducible refine Kd.Zb ?_)));(case uc=>exact kW.out);rintro e Xj ⟨Zy,rfl,Am,hb⟩;refine ⟨_,rfl,?_⟩;have Fb:=ja.mk (Kd.Ro (by (with_reducible repeat (first|apply Kd.Zc|apply Kd.Yc|apply Kd.Jd));exact Vc.out) (Kd.Vo Am) hb);have Ib:=ja.mk (Kd.Rd Am (Fa (by repeat (first|(with_reducible first|exact HB.out|apply qa|apply ia|apply ta)|exact HB.out))));have Sb:=ja.mk (Qa (by repeat (first|(with_reducible first|exact HB.out|apply qa|apply ia|apply ta)|exact HB.out)) hb);clear Vc HB;have Vc:=Fb;have qh:=Ib;have HB:=Sb;clear Fb Ib Sb;(try clear hb);(try clear Hi);(try clear hk);(try clear hi);(try clear Am);have wI:0 ≤ (Ic:Int):=Wa;have vI:(Ic:Int) < ((ld.length:Int):Int):=Wa;obtain ⟨Yg,Ez,ZJ,cR,VY,Vak,jS⟩:=Kd.vK Vc.out (by omega);(first|cases ZJ|(injection ZJ with Um RD SD;(first|subst Um|(injection Um with Um;subst Um));subst SD;clear RD));have Qz:=ja.mk cR;have Cal:=ja.mk jS;clear cR VY jS;obtain ⟨_,Xak,RQ,YQ,Jo,Io,_,_⟩:=Kd.gD Vc.out uI (Ic:Int) wI vI;obtain ⟨IX,rfl,tak⟩:=jE YQ;have kY:Xj.cell? ⟨Yg,(Ic:Int).toNat * 5,none⟩=some (IX):=Jo 0 _ rfl;have jY:Xj.cell? ⟨Yg,(Ic:Int).toNat * 5 + 1,none⟩=some (.int .i64 ((Aa ld Ic).f1)):=Jo 1 _ rfl;have iY:Xj.cell? ⟨Yg,(Ic:Int).toNat * 5 + 2,none⟩=some (.int .i64 ((Aa ld Ic).f2)):=Jo 2 _ rfl;have fY:Xj.cell? ⟨Yg,(Ic:Int).toNat * 5 + 3,none⟩=some (.int .i64 ((Aa ld Ic).f3)):=Jo 3 _ rfl;have eY:Xj.cell? ⟨Yg,(Ic:Int).toNat * 5 + 4,none⟩=some (.int .i64 ((Aa ld Ic).f4)):=Jo 4 _ rfl;have HY:Xj.frozen? ⟨Yg,(Ic:Int).toNat * 5,none⟩=false:=Io 0;have GY:Xj.frozen? ⟨Yg,(Ic:Int).toNat * 5 + 1,none⟩=false:=Io 1;have FY:Xj.frozen? ⟨Yg,(Ic:Int).toNat * 5 + 2,none⟩=false:=Io 2;have EY:Xj.frozen? ⟨Yg,(Ic:Int).toNat * 5 + 3,none⟩=false:=Io 3;have DY:Xj.frozen? ⟨Yg,(Ic:Int).toNat * 5 + 4,none⟩=false:=Io 4;clear RQ Jo Io YQ;replace wI:=eq_true wI;replace vI:=eq_true vI;have n_:=ja.mk (Kd.sg (Cv:=(fun k_=>some k_ ≠ (Zy:Value).ownBlock)) Vc.out (fun k_ hk=>hk.2));clear Vc;have Vc:=n_;clear n_;have TV:=ja.mk (show Kd.S Mt 59 Xj w.heap.size (fun k_=>((fun _=>True)) k_∧¬ ((fun k_=>some k_=(Zy:Value).ownBlock)) k_) (.slice (some ⟨Yg,0,none⟩) ld.length Ez) ld from (by (with_reducible repeat (first|apply Kd.Zc|apply Kd.Yc|apply Kd.Jd));exact Kd.sg Vc.out (fun k_ hk=>⟨trivial,fun e_=>hk e_⟩)));obtain ⟨Wal,Wak,LN,XQ,pn,Ho,oY,X8⟩:=Kd.gD TV.out uI (Ic:Int) (Wa) (by have h_:(Ic:Int) < ((ld.length:Int):Int):=Wa;first|exact h_|(have e_:=(Kd.ef Vc.out).1;omega)|simpa using h_);obtain ⟨xai,rfl,sak⟩:=jE XQ;have lD:=Kd.lX X8 (Wa) (by have h_:(Ic:Int) < ((ld.length:Int):Int):=Wa;first|exact h_|(have e_:=(Kd.ef Vc.out).1;omega)|simpa using h_) (seg:=[Zy,.int .i64 t108,.int .i64 t109,.int .i64 t110,.int .i64 t111]) (j:=0) (show 5 ≤ 5 from by decide) (x':=(⟨t105,t108,t109,t110,t111⟩:Ce)) (TK _ _ _ (⟨t105,t108,t109,t110,t111⟩:Ce) (Kd.fe (Kd.Yp rfl (Kd.fe (Cv:=fun k_=>((fun _=>True)) k_∧k_ ≠ Yg) (Kd.Py (qh.out) (Kd.TB Vc.out) (by decide)) (fun k_ hk=>⟨trivial,fun e_=>(hk.2) (by rw [e_];rfl)⟩))) (fun _ h_=>Or.inr (h_)))) (fun _ hk=>hk) (fun k_ OQ=>((Kd.fe (Cv:=fun k_=>((fun _=>True)) k_∧k_ ≠ Yg) (Kd.Py (qh.out) (Kd.TB Vc.out) (by decide)) (fun k_ hk=>⟨trivial,fun e_=>(hk.2) (by rw [e_];rfl)⟩))).1 k_ OQ.symm);have UE:=pn 0 _ rfl;(try simp only [show (Mt).sz=5 from rfl,Nat.mul_one,Nat.add_zero] at UE);have MF:=Ho 0;(try simp only [show (Mt).sz=5 from rfl,Nat.mul_one,Nat.add_zero] at MF);have lJ:=pn 1 _ rfl;(try simp only [show (Mt).sz=5 from rfl,Nat.mul_one,Nat.add_zero] at lJ);have yJ:=Ho 1;(try simp only [show (Mt).sz=5 from rfl,Nat.mul_one,Nat.add_zero] at yJ);have kJ:=pn 2 _ rfl;(try simp only [show (Mt).sz=5 from rfl,Nat.mul_one,Nat.add_zero] at kJ);have xJ:=Ho 2;(try simp only [show (Mt).sz=5 from rfl,Nat.mul_one,Nat.add_zero] at xJ);have jJ:=pn 3 _ rfl;(try simp only [show (Mt).sz=5 from rfl,Nat.mul_one,Nat.add_zero] at jJ);have wJ:=Ho 3;(try simp only [show (Mt).sz=5 from rfl,Nat.mul_one,Nat.add_zero] at wJ);have iJ:=pn 4 _ rfl;(try simp only [show (Mt).sz=5 from rfl,Nat.mul_one,Nat.add_zero] at iJ);have vJ:=Ho 4;(try simp only [show (Mt).sz=5 from rfl,Nat.mul_one,Nat.add_zero] at vJ);clear LN pn Ho XQ oY X8)|((with_reducible refine Pg (t:=59) (p:=21) rfl ?_);refine pg (t:=59) (p:=21) (v:=?LP) (w1:=(((((Xj.setCell ⟨Yg,(Ic:Int).toNat * 5,none⟩ (Zy)).setCell ⟨Yg,(Ic:Int).toNat * 5 + 1,none⟩ (.int .i64 t108)).setCell ⟨Yg,(Ic:Int).toNat * 5 + 2,none⟩ (.int .i64 t109)).setCell ⟨Yg,(Ic:Int).toNat * 5 + 3,none⟩ (.int .i64 t110)).setCell ⟨Yg,(Ic:Int).toNat * 5 + 4,none⟩ (.int .i64 t111))) ?hg ?ho ?hn ?hr ?_;(case ho=>rfl);(case hg=>rfl);(case hn=>rfl);(case hr=>first|(go_simp;done)|(go_simp;rfl)|(have Iap:=fun (a_:Addr) (W_:World) (m_:Mode)=>run_store Try.prog W_ a_ Zy m_ (by first|exact gQ (by assumption)|exact fQ (by assumption)|exact jQ (by assumption)|exact iQ (by assumption));first|(go_simp;done)|(go_simp;rfl)));intro qv hw;have hg:Xj.grownBy qv (some Yg):=(by rw [hw];exact lD.2);have qx:Kd.S Mt 59 qv w.heap.size (fun _=>True) (.slice (some ⟨Yg,0,none⟩) ld.length Ez) DI:=(by rw [hw,ZR.out];exact lD.1);clear lD;have Fb:=ja.mk (qx);have Ib:=ja.mk ((by rw [hw];exact ua (ua (ua (ua (ua (HB.out) Qz.out) Qz.out) Qz.out) Qz.out) Qz.out:Below w.heap.size w qv));clear Vc HB qh;have Vc:=Fb;have HB:=Ib;clear Fb Ib hg hw qx))
        go_roundg k1
        case measure=>have:=lg.out;omega
        case rel=>exact ⟨(DI),(wrap64 (Ic + 1)),(by first|rfl|(simp;done)|(simp [*];done)),H',⟨by have:=lg.out;omega⟩,⟨by (with_reducible repeat (first|apply Kd.Zc|apply Kd.Yc|apply Kd.Jd));exact Vc.out⟩,⟨by repeat (first|(with_reducible first|exact HB.out|apply qa|apply ia|apply ta)|exact HB.out)⟩⟩
       ·rw [if_neg c9] at H;exact absurd H (by simp)
      ·rw [if_neg c7] at H;exact absurd H (by simp)
     ·rw [if_neg c6] at H;have Vm:decide (Ic < (l0.length:Int))=false:=decide_eq_false c6;clear c6;obtain rfl:=Option.some.inj H;go_wp2;go_ret;exact ⟨_,by first|rfl|(simp [Ma,La] <;> rfl)|(simp [*,Ma,La] <;> rfl),by (with_reducible repeat (first|apply Kd.Zc|apply Kd.Yc|apply Kd.Jd));exact Vc.out,by repeat (first|(with_reducible first|exact HB.out|apply qa|apply ia|apply ta)|exact HB.out)⟩
  ·rw [if_neg c3] at H;exact absurd H (by simp)
 ·rw [if_neg c2] at H;exact absurd H (by simp)
end Go.Proofs.Ytkigbdceceeenaa.P
end
