import Derived.Test.YtkigbdceceeenaaQPressure1
import Derived.Test.YtkigbdceceeenaaQPressure2
set_option maxHeartbeats 8000000
set_option maxRecDepth 100000
section
namespace Go.Proofs.Ytkigbdceceeenaa.P
open Go.RowKit Go.Proofs.Oa.Wb Go.Proofs.Oa.Vd Go.Proofs.Oa.Xe
set_option linter.unusedVariables false
set_option linter.unusedSimpArgs false
attribute [local go_sem] bh Gh Ki Cj Mg Lg Hh Fh
def jc.l0:Nat→Int→List Int→Int→Int→Int→List (Ce)→List (Rf)→Int→Int→Int→Int→Option (Bool)
 | 0,_,_,_,_,_,_,_,_,_,_,_=>none
 | k + 1,x5,fc,Gc,nc,mc,Kb,Ef,Aj,ek,Ji,Ii=>if x5 < (Ef.length:Int) then (if 0 ≤ x5 then ((mb.f k fc Gc nc mc Kb ((Ta Ef x5).f0) ((Ta Ef x5).f1) ((Ta Ef x5).f2) ((Ta Ef x5).f3) ((Ta Ef x5).f4) ((Ta Ef x5).f5) ((Ta Ef x5).f6)).bind fun t104=>(if t104=true then (jc.l0 k (wrap64 (x5 + 1)) fc Gc nc mc Kb Ef Aj ek Ji Ii) else (some false))) else (none)) else ((Xa.f Ji 0 (wrap64 ((Kb.length:Int) - 1))).bind fun t105=>((Xa.f ek 0 (wrap64 (mc - 1))).bind fun t106=>(if Aj=0 then (if t105=true then (if ek=0 then (some (Ii == 0)) else (some false)) else (some false)) else (if Aj=1 then (if t105=true then (if t106=true then ((Xa.f Ii 0 (wrap64 ((Kb.length:Int) - 1))).bind fun t107=>(some t107)) else (some false)) else (some false)) else (if Aj=2 then (if t106=true then (if Ji=0 then (some (Ii == 0)) else (some false)) else (some false)) else (some false))))))
def jc.f (k:Nat) (Pa:List Int) (Ka:Int) (Ga:Int) (Ia:Int) (Da:List (Ce)) (Pc:List (Rf)) (Ub:Int) (Lb:Int) (Mb:Int) (ec:Int):Option (Bool):=jc.l0 k 0 Pa Ka Ga Ia Da Pc Ub Lb Mb ec
def jc.T4:Bool × List (List Nat × List Nat):=(true,[([],[]),([],[]),([1],[1]),([],[]),([2,3],[2,3]),([4],[4]),([0,5],[0,5]),([6],[6])])
def jc.B4:List Nat:=[0,0,2,0,14,30,63,127]
theorem jc.Y2:bn .any (opsOf Try.f71 4)=jc.T4:=by kernel_rfl
theorem jc.jX:vn jc.T4.2 jc.B4=true:=by kernel_rfl
theorem jc.calls (k:Nat) (Ya:Option Addr) (Za:Nat) (Pa:List Int) (Ka:Int) (Ga:Int) (Ia:Int) (Vb:Option Addr) (Jb:Nat) (Da:List (Ce)) (af:Option Addr) (Qe:Nat) (Pc:List (Rf)) (Ub:Int) (Lb:Int) (Mb:Int) (ec:Int) (r:Bool) (w:World) (Wd:Kd.C (Kd.int .i64) w Ya Pa.length Pa) (Sd:Pa.length ≤ Za) (zf:Kd.C Mt w Vb Da.length Da) (uf:Da.length ≤ Jb) (Dv:Kd.C jq w af Pc.length Pc) (Fv:Pc.length ≤ Qe) (h:jc.f k Pa Ka Ga Ia Da Pc Ub Lb Mb ec=some r) :
  Calls Try.prog 71 #[.agg #[.slice Ya Pa.length Za,.int .i64 Ka,.int .i64 Ga,.int .i64 Ia,.slice Vb Da.length Jb],.agg #[.slice af Pc.length Qe,.int .i64 Ub,.int .i64 Lb,.int .i64 Mb,.int .i64 ec]] w fun e w'=>e = .returned (.bool r)∧Below w.heap.size w w':=by
 have LD:=Try.underlying30;have mz:=Try.underlying59;have ox:=Try.underlying65;have qe:=ja.mk Wd;have Be:=ja.mk Sd;clear Wd Sd;have Hf:=ja.mk zf;have Tg:=ja.mk uf;clear zf uf;have qn:=ja.mk Dv;have aq:=ja.mk Fv;clear Dv Fv;have HB:=ja.mk (Below.refl w.heap.size w);have H:(jc.l0 k 0 Pa Ka Ga Ia Da Pc Ub Lb Mb ec)=some r:=h;clear h;have H':=ja.mk H;clear H;go_enter Try.func71,Try.ntmps71;go_wp2_with (first|((with_reducible refine yb (N:=2) rfl ?_);(try (refine xg (by rfl) ?_;dsimp only));refine Gb ?hg (N:=2) ?hd (cs:=#[.slice Ya Pa.length Za,.int .i64 Ka,.int .i64 Ga,.int .i64 Ia,.slice Vb Da.length Jb]) (t:=30) ?hr ?_;(case hd=>rfl);(case hg=>rfl);(case hr=>first|(go_simp;done)|(go_simp;rfl));intro ya hg w3 Qb hb;have Fb:=ja.mk (Qa (by repeat (first|(with_reducible first|exact HB.out|apply qa|apply ia|apply ta)|exact HB.out)) hb);have Ib:=ja.mk (Qb);have Sb:=ja.mk ((by rw [hg];exact (Fa (by repeat (first|(with_reducible first|exact HB.out|apply qa|apply ia|apply ta)|exact HB.out))):w.heap.size ≤ ya));have Ec:=ja.mk ((by rw [hg];exact (Fa (by repeat (first|(with_reducible first|exact HB.out|apply qa|apply ia|apply ta)|exact HB.out))):w.heap.size ≤ ya));clear HB;have HB:=Fb;have oa:=Ib;have yd:=Sb;have Sa:=Ec;clear Fb Ib Sb Ec hb Qb hg)|((with_reducible refine yb (N:=3) rfl ?_);(try (refine xg (by rfl) ?_;dsimp only));refine Gb ?hg (N:=3) ?hd (cs:=#[.slice af Pc.length Qe,.int .i64 Ub,.int .i64 Lb,.int .i64 Mb,.int .i64 ec]) (t:=59) ?hr ?_;(case hd=>rfl);(case hg=>rfl);(case hr=>first|(go_simp;done)|(go_simp;rfl));intro Ja hg w4 Qb hb;have Fb:=ja.mk (Ua (g:=ya) (o:=.cells #[.slice Ya Pa.length Za,.int .i64 Ka,.int .i64 Ga,.int .i64 Ia,.slice Vb Da.length Jb] 30 (0,0)) (by (with_reducible repeat (first|refine Ba ?_ _|refine Ea ?_|refine Ca ?_ _));exact oa.out) hb);have Ib:=ja.mk (Qa (by repeat (first|(with_reducible first|exact HB.out|apply qa|apply ia|apply ta|refine ua ?_ Sa.out)|exact HB.out)) hb);have Sb:=ja.mk (Qb);have Ec:=ja.mk ((by rw [hg];exact (Fa (by repeat (first|(with_reducible first|exact HB.out|apply qa|apply ia|apply ta|refine ua ?_ Sa.out)|exact HB.out))):w.heap.size ≤ Ja));have Re:=ja.mk ((by rw [hg];exact (Fa (by repeat (first|(with_reducible first|exact HB.out|apply qa|apply ia|apply ta|refine ua ?_ Sa.out)|exact HB.out))):w.heap.size ≤ Ja));have Gf:=ja.mk ((by rw [hg];exact Nat.ne_of_lt (Jc (g:=ya) (o:=.cells #[.slice Ya Pa.length Za,.int .i64 Ka,.int .i64 Ga,.int .i64 Ia,.slice Vb Da.length Jb] 30 (0,0)) (by (with_reducible repeat (first|refine Ba ?_ _|refine Ea ?_|refine Ca ?_ _));exact oa.out)):ya ≠ Ja));have Yf:=ja.mk ((by rw [hg];exact Nat.ne_of_gt (Jc (g:=ya) (o:=.cells #[.slice Ya Pa.length Za,.int .i64 Ka,.int .i64 Ga,.int .i64 Ia,.slice Vb Da.length Jb] 30 (0,0)) (by (with_reducible repeat (first|refine Ba ?_ _|refine Ea ?_|refine Ca ?_ _));exact oa.out)):Ja ≠ ya));clear oa HB;have oa:=Fb;have HB:=Ib;have za:=Sb;have rj:=Ec;have Bc:=Re;have Db:=Gf;have Cb:=Yf;clear Fb Ib Sb Ec Re Gf Yf hb Qb hg))
 go_loopg [5] k (fun kq v5 w'=>∃ (Ra:Int),v5 = .int .i64 Ra∧ja (jc.l0 kq Ra Pa Ka Ga Ia Da Pc Ub Lb Mb ec=some r)∧ja (kq ≤ k)∧ja (w'.heap[ya]? = some (.cells #[(.slice Ya Pa.length Za),.int .i64 Ka,.int .i64 Ga,.int .i64 Ia,(.slice Vb Da.length Jb)] 30 (0,0)))∧ja (w'.heap[Ja]? = some (.cells #[(.slice af Pc.length Qe),.int .i64 Ub,.int .i64 Lb,.int .i64 Mb,.int .i64 ec] 59 (0,0)))∧ja (Below w.heap.size w w'))
 case atStart=>exact ⟨(0),(by first|rfl|(simp;done)|(simp [*];done)),H',⟨Nat.le_refl _⟩,⟨by (with_reducible repeat (first|refine Ba ?_ _|refine Ea ?_|refine Ca ?_ _));exact oa.out⟩,⟨by (with_reducible repeat (first|refine Ba ?_ _|refine Ea ?_|refine Ca ?_ _));exact za.out⟩,⟨by repeat (first|(with_reducible first|exact HB.out|apply qa|apply ia|apply ta|refine ua ?_ Sa.out|refine ua ?_ Bc.out)|exact HB.out)⟩⟩
 case round =>
  clear H'
  try clear c1
  try clear p2
  (try clear HA);(try clear lg);(try clear oa);(try clear za);(try clear HB);obtain ⟨Ra,rfl,HA,lg,oa,za,HB⟩:=hrel;cases gk with
  | zero=>exact absurd HA.out (by simp [jc.l0])
  | succ k1 =>
   have H:=HA.out;clear HA;simp only [jc.l0] at H
   by_cases c5:Ra < (Pc.length:Int)
   ·rw [if_pos c5] at H;have sj:decide (Ra < (Pc.length:Int))=true:=decide_eq_true c5;clear c5
    by_cases c6:0 ≤ Ra
    ·rw [if_pos c6] at H;have Vm:decide (0 ≤ Ra)=true:=decide_eq_true c6;clear c6;replace H:=Option.bind_eq_some_iff.mp H;obtain ⟨t104,CI,H⟩:=H;replace H:(if t104=true then (jc.l0 k1 (wrap64 (Ra + 1)) Pa Ka Ga Ia Da Pc Ub Lb Mb ec) else (some false))=some r:=H;have A7:=ja.mk CI;clear CI
     by_cases c8:t104=true
     ·subst c8;have H1:(jc.l0 k1 (wrap64 (Ra + 1)) Pa Ka Ga Ia Da Pc Ub Lb Mb ec)=some r:=by rw [if_pos rfl] at H;exact H
      clear H;have H:=H1;clear H1;have H':=ja.mk H;clear H;have vaj:=Cb.out;have haj:=Db.out;have Fk:wr.cell? ⟨Ja,0,none⟩=some (.slice af Pc.length Qe):=(ga za.out 0).trans rfl;have Ek:wr.cell? ⟨Ja,1,none⟩=some (.int .i64 Ub):=(ga za.out 1).trans rfl;have Dk:wr.cell? ⟨Ja,2,none⟩=some (.int .i64 Lb):=(ga za.out 2).trans rfl;have Ck:wr.cell? ⟨Ja,3,none⟩=some (.int .i64 Mb):=(ga za.out 3).trans rfl;have Bk:wr.cell? ⟨Ja,4,none⟩=some (.int .i64 ec):=(ga za.out 4).trans rfl;have Ak:=aa za.out 0;have zk:=aa za.out 1;have xk:=aa za.out 2;have vk:=aa za.out 3;have uk:=aa za.out 4
      try go_wp2
      have Fb:=ja.mk (Ea oa.out);have Ib:=ja.mk (Ea za.out);have Sb:=ja.mk (ta HB.out);clear oa za HB;have oa:=Fb;have za:=Ib;have HB:=Sb;clear Fb Ib Sb;have aJ:0 ≤ (Ra:Int):=Wa;have TI:Ra < (Pc.length:Int):=Wa;obtain ⟨Qg,mZ,Tn,Sn,Rn,Qn,Pn,Nn,Mn⟩:=um qn.out Ra aJ TI;have Rw:=Mn;have Sw:=Nn;have Tw:=Pn;have Uw:=Qn;have Vw:=Rn;have Ww:=Sn;have Xw:=Tn;cases mZ;replace Tn:=Na HB.out Tn;replace Sn:=Na HB.out Sn;replace Rn:=Na HB.out Rn;replace Qn:=Na HB.out Qn;replace Pn:=Na HB.out Pn;replace Nn:=Na HB.out Nn;replace Mn:=Na HB.out Mn;replace aJ:=eq_true aJ;replace TI:=eq_true TI;refine fl (n:=8) (S:=fun w'=>w'.cell? ⟨ya,0,none⟩=some (.slice Ya Pa.length Za)∧w'.cell? ⟨ya,1,none⟩=some (.int .i64 Ka)∧w'.cell? ⟨ya,2,none⟩=some (.int .i64 Ga)∧w'.cell? ⟨ya,3,none⟩=some (.int .i64 Ia)∧w'.cell? ⟨ya,4,none⟩=some (.slice Vb Da.length Jb)∧w'.cell? ⟨Ja,0,none⟩=some (.slice (some Qg) Pc.length Qe)∧w'.cell? ⟨Ja,1,none⟩=some (.int .i64 Ub)∧w'.cell? ⟨Ja,2,none⟩=some (.int .i64 Lb)∧w'.cell? ⟨Ja,3,none⟩=some (.int .i64 Mb)∧w'.cell? ⟨Ja,4,none⟩=some (.int .i64 ec)∧w'.cell? (Qg.add ((Ra).toNat * 7))=some (.int .i64 ((Ta Pc Ra).f0))∧w'.cell? ⟨(Qg.add ((Ra).toNat * 7)).block,(Qg.add ((Ra).toNat * 7)).off + 1,none⟩=some (.int .i64 ((Ta Pc Ra).f1))∧w'.cell? ⟨(Qg.add ((Ra).toNat * 7)).block,(Qg.add ((Ra).toNat * 7)).off + 2,none⟩=some (.int .i64 ((Ta Pc Ra).f2))∧w'.cell? ⟨(Qg.add ((Ra).toNat * 7)).block,(Qg.add ((Ra).toNat * 7)).off + 3,none⟩=some (.int .i64 ((Ta Pc Ra).f3))∧w'.cell? ⟨(Qg.add ((Ra).toNat * 7)).block,(Qg.add ((Ra).toNat * 7)).off + 4,none⟩=some (.int .i64 ((Ta Pc Ra).f4))∧w'.cell? ⟨(Qg.add ((Ra).toNat * 7)).block,(Qg.add ((Ra).toNat * 7)).off + 5,none⟩=some (.int .i64 ((Ta Pc Ra).f5))∧w'.cell? ⟨(Qg.add ((Ra).toNat * 7)).block,(Qg.add ((Ra).toNat * 7)).off + 6,none⟩=some (.string ((Ta Pc Ra).f6))) (ds:=[]) #[false,false,false,false,false,false,false,false] (by kernel_rfl) rfl rfl ⟨(ga oa.out 0).trans rfl,(ga oa.out 1).trans rfl,(ga oa.out 2).trans rfl,(ga oa.out 3).trans rfl,(ga oa.out 4).trans rfl,(ga za.out 0).trans rfl,(ga za.out 1).trans rfl,(ga za.out 2).trans rfl,(ga za.out 3).trans rfl,(ga za.out 4).trans rfl,(Na HB.out Xw),(Na HB.out Ww),(Na HB.out Vw),(Na HB.out Uw),(Na HB.out Tw),(Na HB.out Sw),(Na HB.out Rw)⟩ (fun hHeld=>?_);refine Ci jc.Y2 jc.jX (fun Pf jv=>?_);generalize wr.drew=Xj at oa za HB Tn Sn Rn Qn Pn Nn Mn hHeld ⊢;refine Wc (i:=1) (N:=some 16) (v:=?_) (a':=?_) #[false,true,false,false,false,false,false,false] rfl rfl (Sc Pf.out (by kernel_rfl)) (fun _ _ _ h=>h) (Or.inl ⟨by rfl,?_⟩) ?_ ?_;rotate_left
      ·intro w';go_simp;with_reducible rfl
      rotate_left
      ·simp only [Act.put,List.setIfInBounds_toArray,List.set_cons_zero,List.set_cons_succ,Xb,Yb]
       rfl
      refine Wc (i:=3) (N:=some 18) (v:=?_) (a':=?_) #[false,true,false,true,false,false,false,false] rfl rfl (Sc Pf.out (by kernel_rfl)) (fun _ _ _ h=>h) (Or.inl ⟨by rfl,?_⟩) ?_ ?_;rotate_left
      ·intro w';go_simp;with_reducible rfl
      rotate_left
      ·simp only [Act.put,List.setIfInBounds_toArray,List.set_cons_zero,List.set_cons_succ,Xb,Yb]
       rfl
      refine ug (i:=0) (N:=some 15) (v:=?_) (a':=?_) #[true,true,false,true,false,false,false,false] rfl rfl (Ue Pf.out jv.out (by kernel_rfl)) (fun _ _ _ h=>h) (Or.inl ⟨by rfl,?_⟩) hHeld ?_ ?_;rotate_left
      ·rintro w' ⟨s0,s1,s2,s3,s4,s5,s6,s7,s8,s9,OK,NK,MK,SS,E3,D3,C3⟩;go_simp;with_reducible rfl
      rotate_left
      ·simp only [Act.put,List.setIfInBounds_toArray,List.set_cons_zero,List.set_cons_succ,Xb,Yb]
       rfl
      refine ug (i:=2) (N:=some 17) (v:=?_) (a':=?_) #[true,true,true,true,false,false,false,false] rfl rfl (Ue Pf.out jv.out (by kernel_rfl)) (fun _ _ _ h=>h) (Or.inl ⟨by rfl,?_⟩) hHeld ?_ ?_;rotate_left
      ·rintro w' ⟨s0,s1,s2,s3,s4,s5,s6,s7,s8,s9,OK,NK,MK,SS,E3,D3,C3⟩;go_simp;with_reducible rfl
      rotate_left
      ·simp only [Act.put,List.setIfInBounds_toArray,List.set_cons_zero,List.set_cons_succ,Xb,Yb]
       rfl
      refine Wc (i:=4) (N:=some 19) (v:=?_) (a':=?_) #[true,true,true,true,true,false,false,false] rfl rfl (Sc Pf.out (by kernel_rfl)) (fun _ _ _ h=>h) (Or.inl ⟨by rfl,?_⟩) ?_ ?_;rotate_left
      ·intro w';go_simp;with_reducible rfl
      rotate_left
      ·simp only [Act.put,List.setIfInBounds_toArray,List.set_cons_zero,List.set_cons_succ,Xb,Yb]
       rfl
      refine ug (i:=5) (N:=some 20) (v:=?_) (a':=?_) #[true,true,true,true,true,true,false,false] rfl rfl (Ue Pf.out jv.out (by kernel_rfl)) (fun _ _ _ h=>h) (Or.inl ⟨by rfl,?_⟩) hHeld ?_ ?_;rotate_left
      ·rintro w' ⟨s0,s1,s2,s3,s4,s5,s6,s7,s8,s9,OK,NK,MK,SS,E3,D3,C3⟩;go_simp;with_reducible rfl
      rotate_left
      ·simp only [Act.put,List.setIfInBounds_toArray,List.set_cons_zero,List.set_cons_succ,Xb,Yb]
       rfl
      refine Qv (i:=6) (N:=some 21) #[true,true,true,true,true,true,true,false] rfl rfl (br Pf.out (by kernel_rfl)) (by decide) (fun K hK=>?_);refine Ko Try.func97 (by kernel_rfl) rfl #[.agg #[.slice Ya Pa.length Za,.int .i64 Ka,.int .i64 Ga,.int .i64 Ia,.slice Vb Da.length Jb],.agg #[.int .i64 ((Ta Pc Ra).f0),.int .i64 ((Ta Pc Ra).f1),.int .i64 ((Ta Pc Ra).f2),.int .i64 ((Ta Pc Ra).f3),.int .i64 ((Ta Pc Ra).f4),.int .i64 ((Ta Pc Ra).f5),.string ((Ta Pc Ra).f6)]] (by rfl) rfl rfl (by (try simp only [List.map_toArray,List.map_cons,List.map_nil]);first|done|rfl|(simp only [List.length_drop,List.length_take];rfl)) ?_;with_reducible refine (mb.calls k1 _ _ Pa Ka Ga Ia _ _ Da ((Ta Pc Ra).f0) ((Ta Pc Ra).f1) ((Ta Pc Ra).f2) ((Ta Pc Ra).f3) ((Ta Pc Ra).f4) ((Ta Pc Ra).f5) ((Ta Pc Ra).f6) true _ ?yc ?uc ?ud ?td A7.out).mono ?_
      (case yc=>repeat (first|exact (Kd.Ob qe.out HB.out)|(with_reducible refine Kd.Pb ?_ _)|(with_reducible refine Kd.Nb ?_ _)|(with_reducible refine Kd.Zb ?_)))
      (case uc=>exact Be.out)
      (case ud=>repeat (first|exact (Kd.Ob Hf.out HB.out)|(with_reducible refine Kd.Pb ?_ _)|(with_reducible refine Kd.Nb ?_ _)|(with_reducible refine Kd.Zb ?_)))
      (case td=>exact Tg.out)
      rintro e Vt ⟨rfl,hb⟩;refine ⟨_,rfl,?_⟩;have Fb:=ja.mk (Ua (g:=ya) (o:=.cells #[.slice Ya Pa.length Za,.int .i64 Ka,.int .i64 Ga,.int .i64 Ia,.slice Vb Da.length Jb] 30 (0,0)) (by (with_reducible repeat (first|refine Ba ?_ _|refine Ea ?_|refine Ca ?_ _));exact oa.out) hb);have Ib:=ja.mk (Ua (g:=Ja) (o:=.cells #[.slice (some Qg) Pc.length Qe,.int .i64 Ub,.int .i64 Lb,.int .i64 Mb,.int .i64 ec] 59 (0,0)) (by (with_reducible repeat (first|refine Ba ?_ _|refine Ea ?_|refine Ca ?_ _));exact za.out) hb);have Sb:=ja.mk (Qa (by repeat (first|(with_reducible first|exact HB.out|apply qa|apply ia|apply ta|refine ua ?_ Sa.out|refine ua ?_ Bc.out)|exact HB.out)) hb);clear oa za HB;have oa:=Fb;have za:=Ib;have HB:=Sb;clear Fb Ib Sb;(try clear hb);(try clear Hi);(try clear hk);(try clear hi);refine hK.out _ _ ⟨(ga oa.out 0).trans rfl,(ga oa.out 1).trans rfl,(ga oa.out 2).trans rfl,(ga oa.out 3).trans rfl,(ga oa.out 4).trans rfl,(ga za.out 0).trans rfl,(ga za.out 1).trans rfl,(ga za.out 2).trans rfl,(ga za.out 3).trans rfl,(ga za.out 4).trans rfl,(Na HB.out Xw),(Na HB.out Ww),(Na HB.out Vw),(Na HB.out Uw),(Na HB.out Tw),(Na HB.out Sw),(Na HB.out Rw)⟩ (fun hHeld=>?_);clear hK K;refine Eo (a':=?_) ?_ ?_;rotate_left
      ·show Act.put _ (some 21) _=_
       simp only [Act.put,List.setIfInBounds_toArray,List.set_cons_zero,List.set_cons_succ,Xb,Yb]
       rfl
      refine Wc (i:=7) (N:=some 22) (v:=?_) (a':=?_) #[true,true,true,true,true,true,true,true] rfl rfl (Sc Pf.out (by kernel_rfl)) (fun _ _ _ h=>h) (Or.inl ⟨by rfl,?_⟩) ?_ ?_;rotate_left
      ·intro w';go_simp;with_reducible rfl
      rotate_left
      ·simp only [Act.put,List.setIfInBounds_toArray,List.set_cons_zero,List.set_cons_succ,Xb,Yb]
       rfl
      refine Tp (Mm Pf.out (by kernel_rfl)) ?_
      try go_wp2
      go_roundg k1
      case measure=>have:=lg.out;omega
      case rel=>exact ⟨(wrap64 (Ra + 1)),(by first|rfl|(simp;done)|(simp [*];done)),H',⟨by have:=lg.out;omega⟩,⟨by (with_reducible repeat (first|refine Ba ?_ _|refine Ea ?_|refine Ca ?_ _));exact oa.out⟩,⟨by (with_reducible repeat (first|refine Ba ?_ _|refine Ea ?_|refine Ca ?_ _));exact za.out⟩,⟨by repeat (first|(with_reducible first|exact HB.out|apply qa|apply ia|apply ta|refine ua ?_ Sa.out|refine ua ?_ Bc.out)|exact HB.out)⟩⟩
     ·replace c8:=Bool.eq_false_iff.mpr c8;subst c8;have H1:(some false)=some r:=by rw [if_neg (show ¬ (false=true) by decide)] at H;exact H
      clear H;have H:=H1;clear H1;obtain rfl:=Option.some.inj H;have xan:=Cb.out;have Qam:=Db.out;have ij:wr.cell? ⟨Ja,0,none⟩=some (.slice af Pc.length Qe):=(ga za.out 0).trans rfl;have gj:wr.cell? ⟨Ja,1,none⟩=some (.int .i64 Ub):=(ga za.out 1).trans rfl;have fj:wr.cell? ⟨Ja,2,none⟩=some (.int .i64 Lb):=(ga za.out 2).trans rfl;have ej:wr.cell? ⟨Ja,3,none⟩=some (.int .i64 Mb):=(ga za.out 3).trans rfl;have cj:wr.cell? ⟨Ja,4,none⟩=some (.int .i64 ec):=(ga za.out 4).trans rfl;have aj:=aa za.out 0;have Zi:=aa za.out 1;have Yi:=aa za.out 2;have Xi:=aa za.out 3;have Wi:=aa za.out 4
      try go_wp2
      have Fb:=ja.mk (Ea oa.out);have Ib:=ja.mk (Ea za.out);have Sb:=ja.mk (ta HB.out);clear oa za HB;have oa:=Fb;have za:=Ib;have HB:=Sb;clear Fb Ib Sb;have aJ:0 ≤ (Ra:Int):=Wa;have TI:Ra < (Pc.length:Int):=Wa;obtain ⟨Qg,mZ,Tn,Sn,Rn,Qn,Pn,Nn,Mn⟩:=um qn.out Ra aJ TI;have Rw:=Mn;have Sw:=Nn;have Tw:=Pn;have Uw:=Qn;have Vw:=Rn;have Ww:=Sn;have Xw:=Tn;cases mZ;replace Tn:=Na HB.out Tn;replace Sn:=Na HB.out Sn;replace Rn:=Na HB.out Rn;replace Qn:=Na HB.out Qn;replace Pn:=Na HB.out Pn;replace Nn:=Na HB.out Nn;replace Mn:=Na HB.out Mn;replace aJ:=eq_true aJ;replace TI:=eq_true TI;refine fl (n:=8) (S:=fun w'=>w'.cell? ⟨ya,0,none⟩=some (.slice Ya Pa.length Za)∧w'.cell? ⟨ya,1,none⟩=some (.int .i64 Ka)∧w'.cell? ⟨ya,2,none⟩=some (.int .i64 Ga)∧w'.cell? ⟨ya,3,none⟩=some (.int .i64 Ia)∧w'.cell? ⟨ya,4,none⟩=some (.slice Vb Da.length Jb)∧w'.cell? ⟨Ja,0,none⟩=some (.slice (some Qg) Pc.length Qe)∧w'.cell? ⟨Ja,1,none⟩=some (.int .i64 Ub)∧w'.cell? ⟨Ja,2,none⟩=some (.int .i64 Lb)∧w'.cell? ⟨Ja,3,none⟩=some (.int .i64 Mb)∧w'.cell? ⟨Ja,4,none⟩=some (.int .i64 ec)∧w'.cell? (Qg.add ((Ra).toNat * 7))=some (.int .i64 ((Ta Pc Ra).f0))∧w'.cell? ⟨(Qg.add ((Ra).toNat * 7)).block,(Qg.add ((Ra).toNat * 7)).off + 1,none⟩=some (.int .i64 ((Ta Pc Ra).f1))∧w'.cell? ⟨(Qg.add ((Ra).toNat * 7)).block,(Qg.add ((Ra).toNat * 7)).off + 2,none⟩=some (.int .i64 ((Ta Pc Ra).f2))∧w'.cell? ⟨(Qg.add ((Ra).toNat * 7)).block,(Qg.add ((Ra).toNat * 7)).off + 3,none⟩=some (.int .i64 ((Ta Pc Ra).f3))∧w'.cell? ⟨(Qg.add ((Ra).toNat * 7)).block,(Qg.add ((Ra).toNat * 7)).off + 4,none⟩=some (.int .i64 ((Ta Pc Ra).f4))∧w'.cell? ⟨(Qg.add ((Ra).toNat * 7)).block,(Qg.add ((Ra).toNat * 7)).off + 5,none⟩=some (.int .i64 ((Ta Pc Ra).f5))∧w'.cell? ⟨(Qg.add ((Ra).toNat * 7)).block,(Qg.add ((Ra).toNat * 7)).off + 6,none⟩=some (.string ((Ta Pc Ra).f6))) (ds:=[]) #[false,false,false,false,false,false,false,false] (by kernel_rfl) rfl rfl ⟨(ga oa.out 0).trans rfl,(ga oa.out 1).trans rfl,(ga oa.out 2).trans rfl,(ga oa.out 3).trans rfl,(ga oa.out 4).trans rfl,(ga za.out 0).trans rfl,(ga za.out 1).trans rfl,(ga za.out 2).trans rfl,(ga za.out 3).trans rfl,(ga za.out 4).trans rfl,(Na HB.out Xw),(Na HB.out Ww),(Na HB.out Vw),(Na HB.out Uw),(Na HB.out Tw),(Na HB.out Sw),(Na HB.out Rw)⟩ (fun hHeld=>?_);refine Ci jc.Y2 jc.jX (fun Pf jv=>?_);generalize wr.drew=gC at oa za HB Tn Sn Rn Qn Pn Nn Mn hHeld ⊢;refine Wc (i:=1) (N:=some 16) (v:=?_) (a':=?_) #[false,true,false,false,false,false,false,false] rfl rfl (Sc Pf.out (by kernel_rfl)) (fun _ _ _ h=>h) (Or.inl ⟨by rfl,?_⟩) ?_ ?_;rotate_left
      ·intro w';go_simp;with_reducible rfl
      rotate_left
      ·simp only [Act.put,List.setIfInBounds_toArray,List.set_cons_zero,List.set_cons_succ,Xb,Yb]
       rfl
      refine Wc (i:=3) (N:=some 18) (v:=?_) (a':=?_) #[false,true,false,true,false,false,false,false] rfl rfl (Sc Pf.out (by kernel_rfl)) (fun _ _ _ h=>h) (Or.inl ⟨by rfl,?_⟩) ?_ ?_;rotate_left
      ·intro w';go_simp;with_reducible rfl
      rotate_left
      ·simp only [Act.put,List.setIfInBounds_toArray,List.set_cons_zero,List.set_cons_succ,Xb,Yb]
       rfl
      refine ug (i:=0) (N:=some 15) (v:=?_) (a':=?_) #[true,true,false,true,false,false,false,false] rfl rfl (Ue Pf.out jv.out (by kernel_rfl)) (fun _ _ _ h=>h) (Or.inl ⟨by rfl,?_⟩) hHeld ?_ ?_;rotate_left
      ·rintro w' ⟨s0,s1,s2,s3,s4,s5,s6,s7,s8,s9,OK,NK,MK,SS,E3,D3,C3⟩;go_simp;with_reducible rfl
      rotate_left
      ·simp only [Act.put,List.setIfInBounds_toArray,List.set_cons_zero,List.set_cons_succ,Xb,Yb]
       rfl
      refine ug (i:=2) (N:=some 17) (v:=?_) (a':=?_) #[true,true,true,true,false,false,false,false] rfl rfl (Ue Pf.out jv.out (by kernel_rfl)) (fun _ _ _ h=>h) (Or.inl ⟨by rfl,?_⟩) hHeld ?_ ?_;rotate_left
      ·rintro w' ⟨s0,s1,s2,s3,s4,s5,s6,s7,s8,s9,OK,NK,MK,SS,E3,D3,C3⟩;go_simp;with_reducible rfl
      rotate_left
      ·simp only [Act.put,List.setIfInBounds_toArray,List.set_cons_zero,List.set_cons_succ,Xb,Yb]
       rfl
      refine Wc (i:=4) (N:=some 19) (v:=?_) (a':=?_) #[true,true,true,true,true,false,false,false] rfl rfl (Sc Pf.out (by kernel_rfl)) (fun _ _ _ h=>h) (Or.inl ⟨by rfl,?_⟩) ?_ ?_;rotate_left
      ·intro w';go_simp;with_reducible rfl
      rotate_left
      ·simp only [Act.put,List.setIfInBounds_toArray,List.set_cons_zero,List.set_cons_succ,Xb,Yb]
       rfl
      refine ug (i:=5) (N:=some 20) (v:=?_) (a':=?_) #[true,true,true,true,true,true,false,false] rfl rfl (Ue Pf.out jv.out (by kernel_rfl)) (fun _ _ _ h=>h) (Or.inl ⟨by rfl,?_⟩) hHeld ?_ ?_;rotate_left
      ·rintro w' ⟨s0,s1,s2,s3,s4,s5,s6,s7,s8,s9,OK,NK,MK,SS,E3,D3,C3⟩;go_simp;with_reducible rfl
      rotate_left
      ·simp only [Act.put,List.setIfInBounds_toArray,List.set_cons_zero,List.set_cons_succ,Xb,Yb]
       rfl
      refine Qv (i:=6) (N:=some 21) #[true,true,true,true,true,true,true,false] rfl rfl (br Pf.out (by kernel_rfl)) (by decide) (fun K hK=>?_);refine Ko Try.func97 (by kernel_rfl) rfl #[.agg #[.slice Ya Pa.length Za,.int .i64 Ka,.int .i64 Ga,.int .i64 Ia,.slice Vb Da.length Jb],.agg #[.int .i64 ((Ta Pc Ra).f0),.int .i64 ((Ta Pc Ra).f1),.int .i64 ((Ta Pc Ra).f2),.int .i64 ((Ta Pc Ra).f3),.int .i64 ((Ta Pc Ra).f4),.int .i64 ((Ta Pc Ra).f5),.string ((Ta Pc Ra).f6)]] (by rfl) rfl rfl (by (try simp only [List.map_toArray,List.map_cons,List.map_nil]);first|done|rfl|(simp only [List.length_drop,List.length_take];rfl)) ?_;with_reducible refine (mb.calls k1 _ _ Pa Ka Ga Ia _ _ Da ((Ta Pc Ra).f0) ((Ta Pc Ra).f1) ((Ta Pc Ra).f2) ((Ta Pc Ra).f3) ((Ta Pc Ra).f4) ((Ta Pc Ra).f5) ((Ta Pc Ra).f6) false _ ?yc ?uc ?ud ?td A7.out).mono ?_
      (case yc=>repeat (first|exact (Kd.Ob qe.out HB.out)|(with_reducible refine Kd.Pb ?_ _)|(with_reducible refine Kd.Nb ?_ _)|(with_reducible refine Kd.Zb ?_)))
      (case uc=>exact Be.out)
      (case ud=>repeat (first|exact (Kd.Ob Hf.out HB.out)|(with_reducible refine Kd.Pb ?_ _)|(with_reducible refine Kd.Nb ?_ _)|(with_reducible refine Kd.Zb ?_)))
      (case td=>exact Tg.out)
      rintro e Yy ⟨rfl,hb⟩;refine ⟨_,rfl,?_⟩;have Fb:=ja.mk (Ua (g:=ya) (o:=.cells #[.slice Ya Pa.length Za,.int .i64 Ka,.int .i64 Ga,.int .i64 Ia,.slice Vb Da.length Jb] 30 (0,0)) (by (with_reducible repeat (first|refine Ba ?_ _|refine Ea ?_|refine Ca ?_ _));exact oa.out) hb);have Ib:=ja.mk (Ua (g:=Ja) (o:=.cells #[.slice (some Qg) Pc.length Qe,.int .i64 Ub,.int .i64 Lb,.int .i64 Mb,.int .i64 ec] 59 (0,0)) (by (with_reducible repeat (first|refine Ba ?_ _|refine Ea ?_|refine Ca ?_ _));exact za.out) hb);have Sb:=ja.mk (Qa (by repeat (first|(with_reducible first|exact HB.out|apply qa|apply ia|apply ta|refine ua ?_ Sa.out|refine ua ?_ Bc.out)|exact HB.out)) hb);clear oa za HB;have oa:=Fb;have za:=Ib;have HB:=Sb;clear Fb Ib Sb;(try clear hb);(try clear Hi);(try clear hk);(try clear hi);refine hK.out _ _ ⟨(ga oa.out 0).trans rfl,(ga oa.out 1).trans rfl,(ga oa.out 2).trans rfl,(ga oa.out 3).trans rfl,(ga oa.out 4).trans rfl,(ga za.out 0).trans rfl,(ga za.out 1).trans rfl,(ga za.out 2).trans rfl,(ga za.out 3).trans rfl,(ga za.out 4).trans rfl,(Na HB.out Xw),(Na HB.out Ww),(Na HB.out Vw),(Na HB.out Uw),(Na HB.out Tw),(Na HB.out Sw),(Na HB.out Rw)⟩ (fun hHeld=>?_);clear hK K;refine Eo (a':=?_) ?_ ?_;rotate_left
      ·show Act.put _ (some 21) _=_
       simp only [Act.put,List.setIfInBounds_toArray,List.set_cons_zero,List.set_cons_succ,Xb,Yb]
       rfl
      refine Wc (i:=7) (N:=some 22) (v:=?_) (a':=?_) #[true,true,true,true,true,true,true,true] rfl rfl (Sc Pf.out (by kernel_rfl)) (fun _ _ _ h=>h) (Or.inl ⟨by rfl,?_⟩) ?_ ?_;rotate_left
      ·intro w';go_simp;with_reducible rfl
      rotate_left
      ·simp only [Act.put,List.setIfInBounds_toArray,List.set_cons_zero,List.set_cons_succ,Xb,Yb]
       rfl
      refine Tp (Mm Pf.out (by kernel_rfl)) ?_
      try go_wp2
      go_ret;exact ⟨by first|rfl|(simp [Ma,La] <;> rfl)|(simp [*,Ma,La] <;> rfl),by repeat (first|(with_reducible first|exact HB.out|apply qa|apply ia|apply ta|refine ua ?_ Sa.out|refine ua ?_ Bc.out)|exact HB.out)⟩
    ·rw [if_neg c6] at H;exact absurd H (by simp)
   ·rw [if_neg c5] at H;have sj:decide (Ra < (Pc.length:Int))=false:=decide_eq_false c5;clear c5;replace H:=Option.bind_eq_some_iff.mp H;obtain ⟨t105,Vaa,H⟩:=H;replace H:((Xa.f Lb 0 (wrap64 (Ia - 1))).bind fun t106=>(if Ub=0 then (if t105=true then (if Lb=0 then (some (ec == 0)) else (some false)) else (some false)) else (if Ub=1 then (if t105=true then (if t106=true then ((Xa.f ec 0 (wrap64 ((Da.length:Int) - 1))).bind fun t107=>(some t107)) else (some false)) else (some false)) else (if Ub=2 then (if t106=true then (if Mb=0 then (some (ec == 0)) else (some false)) else (some false)) else (some false)))))=some r:=H;have LS:=ja.mk Vaa;clear Vaa;replace H:=Option.bind_eq_some_iff.mp H;obtain ⟨t106,Uaa,H⟩:=H;replace H:(if Ub=0 then (if t105=true then (if Lb=0 then (some (ec == 0)) else (some false)) else (some false)) else (if Ub=1 then (if t105=true then (if t106=true then ((Xa.f ec 0 (wrap64 ((Da.length:Int) - 1))).bind fun t107=>(some t107)) else (some false)) else (some false)) else (if Ub=2 then (if t106=true then (if Mb=0 then (some (ec == 0)) else (some false)) else (some false)) else (some false))))=some r:=H;have KS:=ja.mk Uaa;clear Uaa
    by_cases Xo:Ub=0
    ·rw [if_pos Xo] at H;have Hv:(Ub == 0)=true:=beq_iff_eq.mpr Xo;have wR:(Ub != 0)=false:=bne_eq_false_iff_eq.mpr Xo;clear Xo
     by_cases Pq:t105=true
     ·subst Pq;have H1:(if Lb=0 then (some (ec == 0)) else (some false))=some r:=by rw [if_pos rfl] at H;exact H
      clear H;have H:=H1;clear H1
      by_cases Ky:Lb=0
      ·rw [if_pos Ky] at H;have TN:(Lb == 0)=true:=beq_iff_eq.mpr Ky;have p_:(Lb != 0)=false:=bne_eq_false_iff_eq.mpr Ky;clear Ky;obtain rfl:=Option.some.inj H;have F4:=Cb.out;have X3:=Db.out;have uo:wr.cell? ⟨Ja,0,none⟩=some (.slice af Pc.length Qe):=(ga za.out 0).trans rfl;have qo:wr.cell? ⟨Ja,1,none⟩=some (.int .i64 Ub):=(ga za.out 1).trans rfl;have oo:wr.cell? ⟨Ja,2,none⟩=some (.int .i64 Lb):=(ga za.out 2).trans rfl;have mo:wr.cell? ⟨Ja,3,none⟩=some (.int .i64 Mb):=(ga za.out 3).trans rfl;have jo:wr.cell? ⟨Ja,4,none⟩=some (.int .i64 ec):=(ga za.out 4).trans rfl;have fo:=aa za.out 0;have eo:=aa za.out 1;have Zn:=aa za.out 2;have Yn:=aa za.out 3;have Xn:=aa za.out 4;have Ls:wr.cell? ⟨ya,0,none⟩=some (.slice Ya Pa.length Za):=(ga oa.out 0).trans rfl;have Ks:wr.cell? ⟨ya,1,none⟩=some (.int .i64 Ka):=(ga oa.out 1).trans rfl;have Js:wr.cell? ⟨ya,2,none⟩=some (.int .i64 Ga):=(ga oa.out 2).trans rfl;have Hs:wr.cell? ⟨ya,3,none⟩=some (.int .i64 Ia):=(ga oa.out 3).trans rfl;have Gs:wr.cell? ⟨ya,4,none⟩=some (.slice Vb Da.length Jb):=(ga oa.out 4).trans rfl;have Hr:=aa oa.out 0;have Gr:=aa oa.out 1;have Er:=aa oa.out 2;have Dr:=aa oa.out 3;have Cr:=aa oa.out 4;go_wp2_with (first|((with_reducible refine jb (f:=53) rfl ?_);refine Fc (some 29) rfl rfl Try.func53 (by kernel_rfl) rfl #[.int .i64 Mb,.int .i64 0,.int .i64 (wrap64 ((Da.length:Int) - 1))] rfl (by (try simp only [List.map_toArray,List.map_cons,List.map_nil]);first|done|rfl|(simp only [List.length_drop,List.length_take];rfl)) ?_;(with_reducible refine (Xa.calls Mb 0 (wrap64 ((Da.length:Int) - 1)) true _ LS.out).mono ?_);rintro e w' ⟨rfl,⟨nd,rfl⟩⟩;refine ⟨_,rfl,?_⟩)|((with_reducible refine jb (f:=53) rfl ?_);refine Fc (some 35) rfl rfl Try.func53 (by kernel_rfl) rfl #[.int .i64 Lb,.int .i64 0,.int .i64 (wrap64 (Ia - 1))] rfl (by (try simp only [List.map_toArray,List.map_cons,List.map_nil]);first|done|rfl|(simp only [List.length_drop,List.length_take];rfl)) ?_;(with_reducible refine (Xa.calls Lb 0 (wrap64 (Ia - 1)) t106 _ KS.out).mono ?_);rintro e w' ⟨rfl,⟨nd,rfl⟩⟩;refine ⟨_,rfl,?_⟩));go_ret;exact ⟨by first|rfl|(simp [Ma,La] <;> rfl)|(simp [*,Ma,La] <;> rfl),by repeat (first|(with_reducible first|exact HB.out|apply qa|apply ia|apply ta|refine ua ?_ Sa.out|refine ua ?_ Bc.out)|exact HB.out)⟩
      ·rw [if_neg Ky] at H;have TN:(Lb == 0)=false:=beq_eq_false_iff_ne.mpr Ky;have p_:(Lb != 0)=true:=bne_iff_ne.mpr Ky;obtain rfl:=Option.some.inj H;have D4:=Cb.out;have V3:=Db.out;have Vu:wr.cell? ⟨Ja,0,none⟩=some (.slice af Pc.length Qe):=(ga za.out 0).trans rfl;have Uu:wr.cell? ⟨Ja,1,none⟩=some (.int .i64 Ub):=(ga za.out 1).trans rfl;have Tu:wr.cell? ⟨Ja,2,none⟩=some (.int .i64 Lb):=(ga za.out 2).trans rfl;have Su:wr.cell? ⟨Ja,3,none⟩=some (.int .i64 Mb):=(ga za.out 3).trans rfl;have Ru:wr.cell? ⟨Ja,4,none⟩=some (.int .i64 ec):=(ga za.out 4).trans rfl;have Lu:=aa za.out 0;have Ku:=aa za.out 1;have Ju:=aa za.out 2;have Iu:=aa za.out 3;have Hu:=aa za.out 4;have Lm:wr.cell? ⟨ya,0,none⟩=some (.slice Ya Pa.length Za):=(ga oa.out 0).trans rfl;have Km:wr.cell? ⟨ya,1,none⟩=some (.int .i64 Ka):=(ga oa.out 1).trans rfl;have Jm:wr.cell? ⟨ya,2,none⟩=some (.int .i64 Ga):=(ga oa.out 2).trans rfl;have Im:wr.cell? ⟨ya,3,none⟩=some (.int .i64 Ia):=(ga oa.out 3).trans rfl;have Gm:wr.cell? ⟨ya,4,none⟩=some (.slice Vb Da.length Jb):=(ga oa.out 4).trans rfl;have Fm:=aa oa.out 0;have Em:=aa oa.out 1;have Dm:=aa oa.out 2;have Cm:=aa oa.out 3;have Bm:=aa oa.out 4;go_wp2_with (first|((with_reducible refine jb (f:=53) rfl ?_);refine Fc (some 29) rfl rfl Try.func53 (by kernel_rfl) rfl #[.int .i64 Mb,.int .i64 0,.int .i64 (wrap64 ((Da.length:Int) - 1))] rfl (by (try simp only [List.map_toArray,List.map_cons,List.map_nil]);first|done|rfl|(simp only [List.length_drop,List.length_take];rfl)) ?_;(with_reducible refine (Xa.calls Mb 0 (wrap64 ((Da.length:Int) - 1)) true _ LS.out).mono ?_);rintro e w' ⟨rfl,⟨nd,rfl⟩⟩;refine ⟨_,rfl,?_⟩)|((with_reducible refine jb (f:=53) rfl ?_);refine Fc (some 35) rfl rfl Try.func53 (by kernel_rfl) rfl #[.int .i64 Lb,.int .i64 0,.int .i64 (wrap64 (Ia - 1))] rfl (by (try simp only [List.map_toArray,List.map_cons,List.map_nil]);first|done|rfl|(simp only [List.length_drop,List.length_take];rfl)) ?_;(with_reducible refine (Xa.calls Lb 0 (wrap64 (Ia - 1)) t106 _ KS.out).mono ?_);rintro e w' ⟨rfl,⟨nd,rfl⟩⟩;refine ⟨_,rfl,?_⟩));go_ret;exact ⟨by first|rfl|(simp [Ma,La] <;> rfl)|(simp [*,Ma,La] <;> rfl),by repeat (first|(with_reducible first|exact HB.out|apply qa|apply ia|apply ta|refine ua ?_ Sa.out|refine ua ?_ Bc.out)|exact HB.out)⟩
     ·replace Pq:=Bool.eq_false_iff.mpr Pq;subst Pq;have H1:(some false)=some r:=by rw [if_neg (show ¬ (false=true) by decide)] at H;exact H
      clear H;have H:=H1;clear H1;obtain rfl:=Option.some.inj H;have san:=Cb.out;have Mam:=Db.out;have AB:wr.cell? ⟨Ja,0,none⟩=some (.slice af Pc.length Qe):=(ga za.out 0).trans rfl;have zB:wr.cell? ⟨Ja,1,none⟩=some (.int .i64 Ub):=(ga za.out 1).trans rfl;have yB:wr.cell? ⟨Ja,2,none⟩=some (.int .i64 Lb):=(ga za.out 2).trans rfl;have xB:wr.cell? ⟨Ja,3,none⟩=some (.int .i64 Mb):=(ga za.out 3).trans rfl;have wB:wr.cell? ⟨Ja,4,none⟩=some (.int .i64 ec):=(ga za.out 4).trans rfl;have RA:=aa za.out 0;have QA:=aa za.out 1;have PA:=aa za.out 2;have OA:=aa za.out 3;have NA:=aa za.out 4;have cV:wr.cell? ⟨ya,0,none⟩=some (.slice Ya Pa.length Za):=(ga oa.out 0).trans rfl;have bV:wr.cell? ⟨ya,1,none⟩=some (.int .i64 Ka):=(ga oa.out 1).trans rfl;have aV:wr.cell? ⟨ya,2,none⟩=some (.int .i64 Ga):=(ga oa.out 2).trans rfl;have ZU:wr.cell? ⟨ya,3,none⟩=some (.int .i64 Ia):=(ga oa.out 3).trans rfl;have YU:wr.cell? ⟨ya,4,none⟩=some (.slice Vb Da.length Jb):=(ga oa.out 4).trans rfl;have iU:=aa oa.out 0;have hU:=aa oa.out 1;have gU:=aa oa.out 2;have fU:=aa oa.out 3;have eU:=aa oa.out 4;go_wp2_with (first|((with_reducible refine jb (f:=53) rfl ?_);refine Fc (some 29) rfl rfl Try.func53 (by kernel_rfl) rfl #[.int .i64 Mb,.int .i64 0,.int .i64 (wrap64 ((Da.length:Int) - 1))] rfl (by (try simp only [List.map_toArray,List.map_cons,List.map_nil]);first|done|rfl|(simp only [List.length_drop,List.length_take];rfl)) ?_;(with_reducible refine (Xa.calls Mb 0 (wrap64 ((Da.length:Int) - 1)) false _ LS.out).mono ?_);rintro e w' ⟨rfl,⟨nd,rfl⟩⟩;refine ⟨_,rfl,?_⟩)|((with_reducible refine jb (f:=53) rfl ?_);refine Fc (some 35) rfl rfl Try.func53 (by kernel_rfl) rfl #[.int .i64 Lb,.int .i64 0,.int .i64 (wrap64 (Ia - 1))] rfl (by (try simp only [List.map_toArray,List.map_cons,List.map_nil]);first|done|rfl|(simp only [List.length_drop,List.length_take];rfl)) ?_;(with_reducible refine (Xa.calls Lb 0 (wrap64 (Ia - 1)) t106 _ KS.out).mono ?_);rintro e w' ⟨rfl,⟨nd,rfl⟩⟩;refine ⟨_,rfl,?_⟩));go_ret;exact ⟨by first|rfl|(simp [Ma,La] <;> rfl)|(simp [*,Ma,La] <;> rfl),by repeat (first|(with_reducible first|exact HB.out|apply qa|apply ia|apply ta|refine ua ?_ Sa.out|refine ua ?_ Bc.out)|exact HB.out)⟩
    ·rw [if_neg Xo] at H;have Hv:(Ub == 0)=false:=beq_eq_false_iff_ne.mpr Xo;have wR:(Ub != 0)=true:=bne_iff_ne.mpr Xo
     by_cases ZW:Ub=1
     ·rw [if_pos ZW] at H;have f_:(Ub == 1)=true:=beq_iff_eq.mpr ZW;have d_:(Ub != 1)=false:=bne_eq_false_iff_eq.mpr ZW;clear ZW
      by_cases uR:t105=true
      ·subst uR;have H1:(if t106=true then ((Xa.f ec 0 (wrap64 ((Da.length:Int) - 1))).bind fun t107=>(some t107)) else (some false))=some r:=by rw [if_pos rfl] at H;exact H
       clear H;have H:=H1;clear H1
       by_cases fI:t106=true
       ·subst fI;have H1:((Xa.f ec 0 (wrap64 ((Da.length:Int) - 1))).bind fun t107=>(some t107))=some r:=by rw [if_pos rfl] at H;exact H
        clear H;have H:=H1;clear H1;replace H:=Option.bind_eq_some_iff.mp H;obtain ⟨t107,Oaa,H⟩:=H;replace H:(some t107)=some r:=H;have A34:=ja.mk Oaa;clear Oaa;obtain rfl:=Option.some.inj H;have z4:=Cb.out;have T3:=Db.out;have nG:wr.cell? ⟨Ja,0,none⟩=some (.slice af Pc.length Qe):=(ga za.out 0).trans rfl;have mG:wr.cell? ⟨Ja,1,none⟩=some (.int .i64 Ub):=(ga za.out 1).trans rfl;have lG:wr.cell? ⟨Ja,2,none⟩=some (.int .i64 Lb):=(ga za.out 2).trans rfl;have kG:wr.cell? ⟨Ja,3,none⟩=some (.int .i64 Mb):=(ga za.out 3).trans rfl;have jG:wr.cell? ⟨Ja,4,none⟩=some (.int .i64 ec):=(ga za.out 4).trans rfl;have xF:=aa za.out 0;have wF:=aa za.out 1;have vF:=aa za.out 2;have uF:=aa za.out 3;have tF:=aa za.out 4;have fN:wr.cell? ⟨ya,0,none⟩=some (.slice Ya Pa.length Za):=(ga oa.out 0).trans rfl;have eN:wr.cell? ⟨ya,1,none⟩=some (.int .i64 Ka):=(ga oa.out 1).trans rfl;have dN:wr.cell? ⟨ya,2,none⟩=some (.int .i64 Ga):=(ga oa.out 2).trans rfl;have cN:wr.cell? ⟨ya,3,none⟩=some (.int .i64 Ia):=(ga oa.out 3).trans rfl;have bN:wr.cell? ⟨ya,4,none⟩=some (.slice Vb Da.length Jb):=(ga oa.out 4).trans rfl;have ZL:=aa oa.out 0;have YL:=aa oa.out 1;have XL:=aa oa.out 2;have WL:=aa oa.out 3;have VL:=aa oa.out 4;go_wp2_with (first|((with_reducible refine jb (f:=53) rfl ?_);refine Fc (some 29) rfl rfl Try.func53 (by kernel_rfl) rfl #[.int .i64 Mb,.int .i64 0,.int .i64 (wrap64 ((Da.length:Int) - 1))] rfl (by (try simp only [List.map_toArray,List.map_cons,List.map_nil]);first|done|rfl|(simp only [List.length_drop,List.length_take];rfl)) ?_;(with_reducible refine (Xa.calls Mb 0 (wrap64 ((Da.length:Int) - 1)) true _ LS.out).mono ?_);rintro e w' ⟨rfl,⟨nd,rfl⟩⟩;refine ⟨_,rfl,?_⟩)|((with_reducible refine jb (f:=53) rfl ?_);refine Fc (some 35) rfl rfl Try.func53 (by kernel_rfl) rfl #[.int .i64 Lb,.int .i64 0,.int .i64 (wrap64 (Ia - 1))] rfl (by (try simp only [List.map_toArray,List.map_cons,List.map_nil]);first|done|rfl|(simp only [List.length_drop,List.length_take];rfl)) ?_;(with_reducible refine (Xa.calls Lb 0 (wrap64 (Ia - 1)) true _ KS.out).mono ?_);rintro e w' ⟨rfl,⟨nd,rfl⟩⟩;refine ⟨_,rfl,?_⟩)|(go_at_call 53;(with_reducible refine (Xa.calls ec 0 (wrap64 ((Da.length:Int) - 1)) t107 _ A34.out).mono ?_);rintro e w' ⟨rfl,⟨nd,rfl⟩⟩));go_ret;exact ⟨by first|rfl|(simp [Ma,La] <;> rfl)|(simp [*,Ma,La] <;> rfl),by repeat (first|(with_reducible first|exact HB.out|apply qa|apply ia|apply ta|refine ua ?_ Sa.out|refine ua ?_ Bc.out)|exact HB.out)⟩
       ·replace fI:=Bool.eq_false_iff.mpr fI;subst fI;have H1:(some false)=some r:=by rw [if_neg (show ¬ (false=true) by decide)] at H;exact H
        clear H;have H:=H1;clear H1;obtain rfl:=Option.some.inj H;have p4:=Cb.out;have R3:=Db.out;have vB:wr.cell? ⟨Ja,0,none⟩=some (.slice af Pc.length Qe):=(ga za.out 0).trans rfl;have uB:wr.cell? ⟨Ja,1,none⟩=some (.int .i64 Ub):=(ga za.out 1).trans rfl;have tB:wr.cell? ⟨Ja,2,none⟩=some (.int .i64 Lb):=(ga za.out 2).trans rfl;have sB:wr.cell? ⟨Ja,3,none⟩=some (.int .i64 Mb):=(ga za.out 3).trans rfl;have rB:wr.cell? ⟨Ja,4,none⟩=some (.int .i64 ec):=(ga za.out 4).trans rfl;have MA:=aa za.out 0;have LA:=aa za.out 1;have KA:=aa za.out 2;have JA:=aa za.out 3;have IA:=aa za.out 4;have fy:wr.cell? ⟨ya,0,none⟩=some (.slice Ya Pa.length Za):=(ga oa.out 0).trans rfl;have ey:wr.cell? ⟨ya,1,none⟩=some (.int .i64 Ka):=(ga oa.out 1).trans rfl;have dy:wr.cell? ⟨ya,2,none⟩=some (.int .i64 Ga):=(ga oa.out 2).trans rfl;have Zx:wr.cell? ⟨ya,3,none⟩=some (.int .i64 Ia):=(ga oa.out 3).trans rfl;have Yx:wr.cell? ⟨ya,4,none⟩=some (.slice Vb Da.length Jb):=(ga oa.out 4).trans rfl;have Gx:=aa oa.out 0;have Fx:=aa oa.out 1;have Ex:=aa oa.out 2;have Dx:=aa oa.out 3;have Cx:=aa oa.out 4;go_wp2_with (first|((with_reducible refine jb (f:=53) rfl ?_);refine Fc (some 29) rfl rfl Try.func53 (by kernel_rfl) rfl #[.int .i64 Mb,.int .i64 0,.int .i64 (wrap64 ((Da.length:Int) - 1))] rfl (by (try simp only [List.map_toArray,List.map_cons,List.map_nil]);first|done|rfl|(simp only [List.length_drop,List.length_take];rfl)) ?_;(with_reducible refine (Xa.calls Mb 0 (wrap64 ((Da.length:Int) - 1)) true _ LS.out).mono ?_);rintro e w' ⟨rfl,⟨nd,rfl⟩⟩;refine ⟨_,rfl,?_⟩)|((with_reducible refine jb (f:=53) rfl ?_);refine Fc (some 35) rfl rfl Try.func53 (by kernel_rfl) rfl #[.int .i64 Lb,.int .i64 0,.int .i64 (wrap64 (Ia - 1))] rfl (by (try simp only [List.map_toArray,List.map_cons,List.map_nil]);first|done|rfl|(simp only [List.length_drop,List.length_take];rfl)) ?_;(with_reducible refine (Xa.calls Lb 0 (wrap64 (Ia - 1)) false _ KS.out).mono ?_);rintro e w' ⟨rfl,⟨nd,rfl⟩⟩;refine ⟨_,rfl,?_⟩));go_ret;exact ⟨by first|rfl|(simp [Ma,La] <;> rfl)|(simp [*,Ma,La] <;> rfl),by repeat (first|(with_reducible first|exact HB.out|apply qa|apply ia|apply ta|refine ua ?_ Sa.out|refine ua ?_ Bc.out)|exact HB.out)⟩
      ·replace uR:=Bool.eq_false_iff.mpr uR;subst uR;have H1:(some false)=some r:=by rw [if_neg (show ¬ (false=true) by decide)] at H;exact H
       clear H;have H:=H1;clear H1;obtain rfl:=Option.some.inj H;have IW:=Cb.out;have CW:=Db.out;have qB:wr.cell? ⟨Ja,0,none⟩=some (.slice af Pc.length Qe):=(ga za.out 0).trans rfl;have oB:wr.cell? ⟨Ja,1,none⟩=some (.int .i64 Ub):=(ga za.out 1).trans rfl;have nB:wr.cell? ⟨Ja,2,none⟩=some (.int .i64 Lb):=(ga za.out 2).trans rfl;have mB:wr.cell? ⟨Ja,3,none⟩=some (.int .i64 Mb):=(ga za.out 3).trans rfl;have lB:wr.cell? ⟨Ja,4,none⟩=some (.int .i64 ec):=(ga za.out 4).trans rfl;have GA:=aa za.out 0;have FA:=aa za.out 1;have EA:=aa za.out 2;have DA:=aa za.out 3;have CA:=aa za.out 4;have PM:wr.cell? ⟨ya,0,none⟩=some (.slice Ya Pa.length Za):=(ga oa.out 0).trans rfl;have OM:wr.cell? ⟨ya,1,none⟩=some (.int .i64 Ka):=(ga oa.out 1).trans rfl;have NM:wr.cell? ⟨ya,2,none⟩=some (.int .i64 Ga):=(ga oa.out 2).trans rfl;have MM:wr.cell? ⟨ya,3,none⟩=some (.int .i64 Ia):=(ga oa.out 3).trans rfl;have LM:wr.cell? ⟨ya,4,none⟩=some (.slice Vb Da.length Jb):=(ga oa.out 4).trans rfl;have JL:=aa oa.out 0;have IL:=aa oa.out 1;have GL:=aa oa.out 2;have FL:=aa oa.out 3;have EL:=aa oa.out 4;go_wp2_with (first|((with_reducible refine jb (f:=53) rfl ?_);refine Fc (some 29) rfl rfl Try.func53 (by kernel_rfl) rfl #[.int .i64 Mb,.int .i64 0,.int .i64 (wrap64 ((Da.length:Int) - 1))] rfl (by (try simp only [List.map_toArray,List.map_cons,List.map_nil]);first|done|rfl|(simp only [List.length_drop,List.length_take];rfl)) ?_;(with_reducible refine (Xa.calls Mb 0 (wrap64 ((Da.length:Int) - 1)) false _ LS.out).mono ?_);rintro e w' ⟨rfl,⟨nd,rfl⟩⟩;refine ⟨_,rfl,?_⟩)|((with_reducible refine jb (f:=53) rfl ?_);refine Fc (some 35) rfl rfl Try.func53 (by kernel_rfl) rfl #[.int .i64 Lb,.int .i64 0,.int .i64 (wrap64 (Ia - 1))] rfl (by (try simp only [List.map_toArray,List.map_cons,List.map_nil]);first|done|rfl|(simp only [List.length_drop,List.length_take];rfl)) ?_;(with_reducible refine (Xa.calls Lb 0 (wrap64 (Ia - 1)) t106 _ KS.out).mono ?_);rintro e w' ⟨rfl,⟨nd,rfl⟩⟩;refine ⟨_,rfl,?_⟩));go_ret;exact ⟨by first|rfl|(simp [Ma,La] <;> rfl)|(simp [*,Ma,La] <;> rfl),by repeat (first|(with_reducible first|exact HB.out|apply qa|apply ia|apply ta|refine ua ?_ Sa.out|refine ua ?_ Bc.out)|exact HB.out)⟩
     ·rw [if_neg ZW] at H;have f_:(Ub == 1)=false:=beq_eq_false_iff_ne.mpr ZW;have d_:(Ub != 1)=true:=bne_iff_ne.mpr ZW
      by_cases fK:Ub=2
      ·rw [if_pos fK] at H;have rR:(Ub == 2)=true:=beq_iff_eq.mpr fK;have qR:(Ub != 2)=false:=bne_eq_false_iff_eq.mpr fK;clear fK
       by_cases yI:t106=true
       ·subst yI;have H1:(if Mb=0 then (some (ec == 0)) else (some false))=some r:=by rw [if_pos rfl] at H;exact H
        clear H;have H:=H1;clear H1
        by_cases eK:Mb=0
        ·rw [if_pos eK] at H;have pR:(Mb == 0)=true:=beq_iff_eq.mpr eK;have oR:(Mb != 0)=false:=bne_eq_false_iff_eq.mpr eK;clear eK;obtain rfl:=Option.some.inj H;have GW:=Cb.out;have AW:=Db.out;have kB:wr.cell? ⟨Ja,0,none⟩=some (.slice af Pc.length Qe):=(ga za.out 0).trans rfl;have jB:wr.cell? ⟨Ja,1,none⟩=some (.int .i64 Ub):=(ga za.out 1).trans rfl;have iB:wr.cell? ⟨Ja,2,none⟩=some (.int .i64 Lb):=(ga za.out 2).trans rfl;have gB:wr.cell? ⟨Ja,3,none⟩=some (.int .i64 Mb):=(ga za.out 3).trans rfl;have fB:wr.cell? ⟨Ja,4,none⟩=some (.int .i64 ec):=(ga za.out 4).trans rfl;have BA:=aa za.out 0;have AA:=aa za.out 1;have zA:=aa za.out 2;have yA:=aa za.out 3;have xA:=aa za.out 4;have PU:wr.cell? ⟨ya,0,none⟩=some (.slice Ya Pa.length Za):=(ga oa.out 0).trans rfl;have OU:wr.cell? ⟨ya,1,none⟩=some (.int .i64 Ka):=(ga oa.out 1).trans rfl;have NU:wr.cell? ⟨ya,2,none⟩=some (.int .i64 Ga):=(ga oa.out 2).trans rfl;have MU:wr.cell? ⟨ya,3,none⟩=some (.int .i64 Ia):=(ga oa.out 3).trans rfl;have LU:wr.cell? ⟨ya,4,none⟩=some (.slice Vb Da.length Jb):=(ga oa.out 4).trans rfl;have VT:=aa oa.out 0;have UT:=aa oa.out 1;have TT:=aa oa.out 2;have RT:=aa oa.out 3;have QT:=aa oa.out 4;go_wp2_with (first|((with_reducible refine jb (f:=53) rfl ?_);refine Fc (some 29) rfl rfl Try.func53 (by kernel_rfl) rfl #[.int .i64 Mb,.int .i64 0,.int .i64 (wrap64 ((Da.length:Int) - 1))] rfl (by (try simp only [List.map_toArray,List.map_cons,List.map_nil]);first|done|rfl|(simp only [List.length_drop,List.length_take];rfl)) ?_;(with_reducible refine (Xa.calls Mb 0 (wrap64 ((Da.length:Int) - 1)) t105 _ LS.out).mono ?_);rintro e w' ⟨rfl,⟨nd,rfl⟩⟩;refine ⟨_,rfl,?_⟩)|((with_reducible refine jb (f:=53) rfl ?_);refine Fc (some 35) rfl rfl Try.func53 (by kernel_rfl) rfl #[.int .i64 Lb,.int .i64 0,.int .i64 (wrap64 (Ia - 1))] rfl (by (try simp only [List.map_toArray,List.map_cons,List.map_nil]);first|done|rfl|(simp only [List.length_drop,List.length_take];rfl)) ?_;(with_reducible refine (Xa.calls Lb 0 (wrap64 (Ia - 1)) true _ KS.out).mono ?_);rintro e w' ⟨rfl,⟨nd,rfl⟩⟩;refine ⟨_,rfl,?_⟩));go_ret;exact ⟨by first|rfl|(simp [Ma,La] <;> rfl)|(simp [*,Ma,La] <;> rfl),by repeat (first|(with_reducible first|exact HB.out|apply qa|apply ia|apply ta|refine ua ?_ Sa.out|refine ua ?_ Bc.out)|exact HB.out)⟩
        ·rw [if_neg eK] at H;have pR:(Mb == 0)=false:=beq_eq_false_iff_ne.mpr eK;have oR:(Mb != 0)=true:=bne_iff_ne.mpr eK;obtain rfl:=Option.some.inj H;have han:=Cb.out;have Dam:=Db.out;have Sag:wr.cell? ⟨Ja,0,none⟩=some (.slice af Pc.length Qe):=(ga za.out 0).trans rfl;have Rag:wr.cell? ⟨Ja,1,none⟩=some (.int .i64 Ub):=(ga za.out 1).trans rfl;have Qag:wr.cell? ⟨Ja,2,none⟩=some (.int .i64 Lb):=(ga za.out 2).trans rfl;have Pag:wr.cell? ⟨Ja,3,none⟩=some (.int .i64 Mb):=(ga za.out 3).trans rfl;have Oag:wr.cell? ⟨Ja,4,none⟩=some (.int .i64 ec):=(ga za.out 4).trans rfl;have Jad:=aa za.out 0;have Iad:=aa za.out 1;have Had:=aa za.out 2;have Gad:=aa za.out 3;have Fad:=aa za.out 4;have UF:wr.cell? ⟨ya,0,none⟩=some (.slice Ya Pa.length Za):=(ga oa.out 0).trans rfl;have TF:wr.cell? ⟨ya,1,none⟩=some (.int .i64 Ka):=(ga oa.out 1).trans rfl;have SF:wr.cell? ⟨ya,2,none⟩=some (.int .i64 Ga):=(ga oa.out 2).trans rfl;have RF:wr.cell? ⟨ya,3,none⟩=some (.int .i64 Ia):=(ga oa.out 3).trans rfl;have QF:wr.cell? ⟨ya,4,none⟩=some (.slice Vb Da.length Jb):=(ga oa.out 4).trans rfl;have fF:=aa oa.out 0;have eF:=aa oa.out 1;have dF:=aa oa.out 2;have cF:=aa oa.out 3;have bF:=aa oa.out 4;go_wp2_with (first|((with_reducible refine jb (f:=53) rfl ?_);refine Fc (some 29) rfl rfl Try.func53 (by kernel_rfl) rfl #[.int .i64 Mb,.int .i64 0,.int .i64 (wrap64 ((Da.length:Int) - 1))] rfl (by (try simp only [List.map_toArray,List.map_cons,List.map_nil]);first|done|rfl|(simp only [List.length_drop,List.length_take];rfl)) ?_;(with_reducible refine (Xa.calls Mb 0 (wrap64 ((Da.length:Int) - 1)) t105 _ LS.out).mono ?_);rintro e w' ⟨rfl,⟨nd,rfl⟩⟩;refine ⟨_,rfl,?_⟩)|((with_reducible refine jb (f:=53) rfl ?_);refine Fc (some 35) rfl rfl Try.func53 (by kernel_rfl) rfl #[.int .i64 Lb,.int .i64 0,.int .i64 (wrap64 (Ia - 1))] rfl (by (try simp only [List.map_toArray,List.map_cons,List.map_nil]);first|done|rfl|(simp only [List.length_drop,List.length_take];rfl)) ?_;(with_reducible refine (Xa.calls Lb 0 (wrap64 (Ia - 1)) true _ KS.out).mono ?_);rintro e w' ⟨rfl,⟨nd,rfl⟩⟩;refine ⟨_,rfl,?_⟩));go_ret;exact ⟨by first|rfl|(simp [Ma,La] <;> rfl)|(simp [*,Ma,La] <;> rfl),by repeat (first|(with_reducible first|exact HB.out|apply qa|apply ia|apply ta|refine ua ?_ Sa.out|refine ua ?_ Bc.out)|exact HB.out)⟩
       ·replace yI:=Bool.eq_false_iff.mpr yI;subst yI;have H1:(some false)=some r:=by rw [if_neg (show ¬ (false=true) by decide)] at H;exact H
        clear H;have H:=H1;clear H1;obtain rfl:=Option.some.inj H;have gan:=Cb.out;have Cam:=Db.out;have Gag:wr.cell? ⟨Ja,0,none⟩=some (.slice af Pc.length Qe):=(ga za.out 0).trans rfl;have Fag:wr.cell? ⟨Ja,1,none⟩=some (.int .i64 Ub):=(ga za.out 1).trans rfl;have Eag:wr.cell? ⟨Ja,2,none⟩=some (.int .i64 Lb):=(ga za.out 2).trans rfl;have Dag:wr.cell? ⟨Ja,3,none⟩=some (.int .i64 Mb):=(ga za.out 3).trans rfl;have Cag:wr.cell? ⟨Ja,4,none⟩=some (.int .i64 ec):=(ga za.out 4).trans rfl;have xad:=aa za.out 0;have wad:=aa za.out 1;have vad:=aa za.out 2;have uad:=aa za.out 3;have tad:=aa za.out 4;have Bag:wr.cell? ⟨ya,0,none⟩=some (.slice Ya Pa.length Za):=(ga oa.out 0).trans rfl;have Aag:wr.cell? ⟨ya,1,none⟩=some (.int .i64 Ka):=(ga oa.out 1).trans rfl;have zag:wr.cell? ⟨ya,2,none⟩=some (.int .i64 Ga):=(ga oa.out 2).trans rfl;have yag:wr.cell? ⟨ya,3,none⟩=some (.int .i64 Ia):=(ga oa.out 3).trans rfl;have xag:wr.cell? ⟨ya,4,none⟩=some (.slice Vb Da.length Jb):=(ga oa.out 4).trans rfl;have sad:=aa oa.out 0;have rad:=aa oa.out 1;have qad:=aa oa.out 2;have oad:=aa oa.out 3;have nad:=aa oa.out 4;go_wp2_with (first|((with_reducible refine jb (f:=53) rfl ?_);refine Fc (some 29) rfl rfl Try.func53 (by kernel_rfl) rfl #[.int .i64 Mb,.int .i64 0,.int .i64 (wrap64 ((Da.length:Int) - 1))] rfl (by (try simp only [List.map_toArray,List.map_cons,List.map_nil]);first|done|rfl|(simp only [List.length_drop,List.length_take];rfl)) ?_;(with_reducible refine (Xa.calls Mb 0 (wrap64 ((Da.length:Int) - 1)) t105 _ LS.out).mono ?_);rintro e w' ⟨rfl,⟨nd,rfl⟩⟩;refine ⟨_,rfl,?_⟩)|((with_reducible refine jb (f:=53) rfl ?_);refine Fc (some 35) rfl rfl Try.func53 (by kernel_rfl) rfl #[.int .i64 Lb,.int .i64 0,.int .i64 (wrap64 (Ia - 1))] rfl (by (try simp only [List.map_toArray,List.map_cons,List.map_nil]);first|done|rfl|(simp only [List.length_drop,List.length_take];rfl)) ?_;(with_reducible refine (Xa.calls Lb 0 (wrap64 (Ia - 1)) false _ KS.out).mono ?_);rintro e w' ⟨rfl,⟨nd,rfl⟩⟩;refine ⟨_,rfl,?_⟩));go_ret;exact ⟨by first|rfl|(simp [Ma,La] <;> rfl)|(simp [*,Ma,La] <;> rfl),by repeat (first|(with_reducible first|exact HB.out|apply qa|apply ia|apply ta|refine ua ?_ Sa.out|refine ua ?_ Bc.out)|exact HB.out)⟩
      ·rw [if_neg fK] at H;have rR:(Ub == 2)=false:=beq_eq_false_iff_ne.mpr fK;have qR:(Ub != 2)=true:=bne_iff_ne.mpr fK;obtain rfl:=Option.some.inj H;have fan:=Cb.out;have Bam:=Db.out;have wag:wr.cell? ⟨Ja,0,none⟩=some (.slice af Pc.length Qe):=(ga za.out 0).trans rfl;have vag:wr.cell? ⟨Ja,1,none⟩=some (.int .i64 Ub):=(ga za.out 1).trans rfl;have uag:wr.cell? ⟨Ja,2,none⟩=some (.int .i64 Lb):=(ga za.out 2).trans rfl;have sag:wr.cell? ⟨Ja,3,none⟩=some (.int .i64 Mb):=(ga za.out 3).trans rfl;have rag:wr.cell? ⟨Ja,4,none⟩=some (.int .i64 ec):=(ga za.out 4).trans rfl;have mad:=aa za.out 0;have lad:=aa za.out 1;have kad:=aa za.out 2;have jad:=aa za.out 3;have iad:=aa za.out 4;have FU:wr.cell? ⟨ya,0,none⟩=some (.slice Ya Pa.length Za):=(ga oa.out 0).trans rfl;have EU:wr.cell? ⟨ya,1,none⟩=some (.int .i64 Ka):=(ga oa.out 1).trans rfl;have DU:wr.cell? ⟨ya,2,none⟩=some (.int .i64 Ga):=(ga oa.out 2).trans rfl;have CU:wr.cell? ⟨ya,3,none⟩=some (.int .i64 Ia):=(ga oa.out 3).trans rfl;have BU:wr.cell? ⟨ya,4,none⟩=some (.slice Vb Da.length Jb):=(ga oa.out 4).trans rfl;have JT:=aa oa.out 0;have FT:=aa oa.out 1;have ET:=aa oa.out 2;have DT:=aa oa.out 3;have CT:=aa oa.out 4;go_wp2_with (first|((with_reducible refine jb (f:=53) rfl ?_);refine Fc (some 29) rfl rfl Try.func53 (by kernel_rfl) rfl #[.int .i64 Mb,.int .i64 0,.int .i64 (wrap64 ((Da.length:Int) - 1))] rfl (by (try simp only [List.map_toArray,List.map_cons,List.map_nil]);first|done|rfl|(simp only [List.length_drop,List.length_take];rfl)) ?_;(with_reducible refine (Xa.calls Mb 0 (wrap64 ((Da.length:Int) - 1)) t105 _ LS.out).mono ?_);rintro e w' ⟨rfl,⟨nd,rfl⟩⟩;refine ⟨_,rfl,?_⟩)|((with_reducible refine jb (f:=53) rfl ?_);refine Fc (some 35) rfl rfl Try.func53 (by kernel_rfl) rfl #[.int .i64 Lb,.int .i64 0,.int .i64 (wrap64 (Ia - 1))] rfl (by (try simp only [List.map_toArray,List.map_cons,List.map_nil]);first|done|rfl|(simp only [List.length_drop,List.length_take];rfl)) ?_;(with_reducible refine (Xa.calls Lb 0 (wrap64 (Ia - 1)) t106 _ KS.out).mono ?_);rintro e w' ⟨rfl,⟨nd,rfl⟩⟩;refine ⟨_,rfl,?_⟩));go_ret;exact ⟨by first|rfl|(simp [Ma,La] <;> rfl)|(simp [*,Ma,La] <;> rfl),by repeat (first|(with_reducible first|exact HB.out|apply qa|apply ia|apply ta|refine ua ?_ Sa.out|refine ua ?_ Bc.out)|exact HB.out)⟩
mutual
def Va.l0:Nat→Int→List Int→Int→Int→Int→List (Ce)→Option (Bool)
 | 0,_,_,_,_,_,_=>none
 | k + 1,x3,fc,Gc,nc,mc,Kb=>if x3 < (fc.length:Int) then (if 0 ≤ x3 then ((Xa.f (rd fc x3) 1 16).bind fun t103=>(if t103=true then (Va.l0 k (wrap64 (x3 + 1)) fc Gc nc mc Kb) else (some false))) else (none)) else ((Xa.f (fc.length:Int) 1 4).bind fun t104=>(if t104=true then ((Xa.f nc 0 20).bind fun t105=>(if t105=true then ((Xa.f Gc 0 6).bind fun t106=>(if t106=true then (if Gc > nc then (Va.j1 k true fc Gc nc mc Kb) else ((Xa.f mc nc 1000).bind fun t107=>(if t107=true then ((Xa.f (Kb.length:Int) 1 300).bind fun t108=>(Va.j1 k (!t108) fc Gc nc mc Kb)) else (Va.j1 k true fc Gc nc mc Kb)))) else (Va.j1 k true fc Gc nc mc Kb))) else (Va.j1 k true fc Gc nc mc Kb))) else (Va.j1 k true fc Gc nc mc Kb)))
def Va.j1:Nat→Bool→List Int→Int→Int→Int→List (Ce)→Option (Bool)
 | 0,_,_,_,_,_,_=>none
 | k + 1,x58,fc,Gc,nc,mc,Kb=>if x58=true then (some false) else (Va.l1 k 0 0 fc Gc nc mc Kb)
def Va.l1:Nat→Int→Int→List Int→Int→Int→Int→List (Ce)→Option (Bool)
 | 0,_,_,_,_,_,_,_=>none
 | k + 1,x4,x5,fc,Gc,nc,mc,Kb=>if x5 < (Kb.length:Int) then (if 0 ≤ x5 then (if (wrap64 (x4 + (((Aa Kb x5).f0).length:Int))) > 1000 then (some false) else ((jc.f k fc Gc nc mc Kb ((Aa Kb x5).f0) ((Aa Kb x5).f1) ((Aa Kb x5).f2) ((Aa Kb x5).f3) ((Aa Kb x5).f4)).bind fun t111=>(if t111=true then (Va.l1 k (wrap64 (x4 + (((Aa Kb x5).f0).length:Int))) (wrap64 (x5 + 1)) fc Gc nc mc Kb) else (some false)))) else (none)) else (some true)
end
def Va.f (k:Nat) (Pa:List Int) (Ka:Int) (Ga:Int) (Ia:Int) (Da:List (Ce)):Option (Bool):=Va.l0 k 0 Pa Ka Ga Ia Da
def Va.T13:Bool × List (List Nat × List Nat):=(true,[([],[]),([0],[0]),([1],[1]),([2],[2]),([2],[2]),([4,2],[2,4]),([2],[2]),([5,6,2],[2,5,6]),([7,2],[2,7]),([3,8,2,2],[2,3,8]),([9,2],[2,9]),([2,10],[2,10])])
def Va.B13:List Nat:=[0,1,3,7,7,23,7,119,247,511,1023,2047]
theorem Va.OP:bn .any (opsOf Try.f40 13)=Va.T13:=by kernel_rfl
theorem Va.pK:vn Va.T13.2 Va.B13=true:=by kernel_rfl
theorem Va.calls (k:Nat) (Ya:Option Addr) (Za:Nat) (Pa:List Int) (Ka:Int) (Ga:Int) (Ia:Int) (Vb:Option Addr) (Jb:Nat) (Da:List (Ce)) (r:Bool) (w:World) (Wd:Kd.C (Kd.int .i64) w Ya Pa.length Pa) (Sd:Pa.length ≤ Za) (zf:Kd.C Mt w Vb Da.length Da) (uf:Da.length ≤ Jb) (h:Va.f k Pa Ka Ga Ia Da=some r) :
  Calls Try.prog 40 #[.agg #[.slice Ya Pa.length Za,.int .i64 Ka,.int .i64 Ga,.int .i64 Ia,.slice Vb Da.length Jb]] w fun e w'=>e = .returned (.bool r)∧Below w.heap.size w w':=by
 have LD:=Try.underlying30;have mz:=Try.underlying59;have qe:=ja.mk Wd;have Be:=ja.mk Sd;clear Wd Sd;have Hf:=ja.mk zf;have Tg:=ja.mk uf;clear zf uf;have HB:=ja.mk (Below.refl w.heap.size w);have H:(Va.l0 k 0 Pa Ka Ga Ia Da)=some r:=h;clear h;have H':=ja.mk H;clear H;go_enter Try.func40,Try.ntmps40;go_wp2_with (first|((with_reducible refine yb (N:=1) rfl ?_);(try (refine xg (by rfl) ?_;dsimp only));refine Gb ?hg (N:=1) ?hd (cs:=#[.slice Ya Pa.length Za,.int .i64 Ka,.int .i64 Ga,.int .i64 Ia,.slice Vb Da.length Jb]) (t:=30) ?hr ?_;(case hd=>rfl);(case hg=>rfl);(case hr=>first|(go_simp;done)|(go_simp;rfl));intro ya hg w2 Qb hb;have Fb:=ja.mk (Qa (by repeat (first|(with_reducible first|exact HB.out|apply qa|apply ia|apply ta)|exact HB.out)) hb);have Ib:=ja.mk (Qb);have Sb:=ja.mk ((by rw [hg];exact (Fa (by repeat (first|(with_reducible first|exact HB.out|apply qa|apply ia|apply ta)|exact HB.out))):w.heap.size ≤ ya));have Ec:=ja.mk ((by rw [hg];exact (Fa (by repeat (first|(with_reducible first|exact HB.out|apply qa|apply ia|apply ta)|exact HB.out))):w.heap.size ≤ ya));clear HB;have HB:=Fb;have oa:=Ib;have yd:=Sb;have Sa:=Ec;clear Fb Ib Sb Ec hb Qb hg))
 go_loopg [3] k (fun kq v3 w'=>∃ (ld:Int),v3 = .int .i64 ld∧ja (Va.l0 kq ld Pa Ka Ga Ia Da=some r)∧ja (kq ≤ k)∧ja (w'.heap[ya]? = some (.cells #[(.slice Ya Pa.length Za),.int .i64 Ka,.int .i64 Ga,.int .i64 Ia,(.slice Vb Da.length Jb)] 30 (0,0)))∧ja (Below w.heap.size w w'))
 case atStart=>exact ⟨(0),(by first|rfl|(simp;done)|(simp [*];done)),H',⟨Nat.le_refl _⟩,⟨by (with_reducible repeat (first|refine Ba ?_ _|refine Ea ?_|refine Ca ?_ _));exact oa.out⟩,⟨by repeat (first|(with_reducible first|exact HB.out|apply qa|apply ia|apply ta|refine ua ?_ Sa.out)|exact HB.out)⟩⟩
 case round =>
  clear H'
  try clear p2
  (try clear HA);(try clear lg);(try clear oa);(try clear HB);obtain ⟨ld,rfl,HA,lg,oa,HB⟩:=hrel;cases gk with
  | zero=>exact absurd HA.out (by simp [Va.l0])
  | succ k1 =>
   have H:=HA.out;clear HA;simp only [Va.l0] at H
   by_cases c3:ld < (Pa.length:Int)
   ·rw [if_pos c3] at H;have Nh:decide (ld < (Pa.length:Int))=true:=decide_eq_true c3;clear c3
    by_cases c4:0 ≤ ld
    ·rw [if_pos c4] at H;have Mk:decide (0 ≤ ld)=true:=decide_eq_true c4;clear c4;replace H:=Option.bind_eq_some_iff.mp H;obtain ⟨t103,A50,H⟩:=H;replace H:(if t103=true then (Va.l0 k1 (wrap64 (ld + 1)) Pa Ka Ga Ia Da) else (some false))=some r:=H;have A5:=ja.mk A50;clear A50
     by_cases c6:t103=true
     ·subst c6;have H1:(Va.l0 k1 (wrap64 (ld + 1)) Pa Ka Ga Ia Da)=some r:=by rw [if_pos rfl] at H;exact H
      clear H;have H:=H1;clear H1;have H':=ja.mk H;clear H;have Yr:wr.cell? ⟨ya,0,none⟩=some (.slice Ya Pa.length Za):=(ga oa.out 0).trans rfl;have Xr:wr.cell? ⟨ya,1,none⟩=some (.int .i64 Ka):=(ga oa.out 1).trans rfl;have Wr:wr.cell? ⟨ya,2,none⟩=some (.int .i64 Ga):=(ga oa.out 2).trans rfl;have Vr:wr.cell? ⟨ya,3,none⟩=some (.int .i64 Ia):=(ga oa.out 3).trans rfl;have Ur:wr.cell? ⟨ya,4,none⟩=some (.slice Vb Da.length Jb):=(ga oa.out 4).trans rfl;have kr:=aa oa.out 0;have jr:=aa oa.out 1;have ir:=aa oa.out 2;have gr:=aa oa.out 3;have er:=aa oa.out 4;have Eh:0 ≤ (ld:Int):=Wa;have Dh:ld < (Pa.length:Int):=Wa;obtain ⟨Ie,Zs,Ke⟩:=Kd.rm qe.out ld Eh Dh;cases Zs;replace Ke:=Na HB.out Ke;replace Eh:=eq_true Eh;replace Dh:=eq_true Dh;go_wp2_with (first|((with_reducible refine jb (f:=53) rfl ?_);refine Fc (some 18) rfl rfl Try.func53 (by kernel_rfl) rfl #[.int .i64 (rd Pa ld),.int .i64 1,.int .i64 16] rfl (by (try simp only [List.map_toArray,List.map_cons,List.map_nil]);first|done|rfl|(simp only [List.length_drop,List.length_take];rfl)) ?_;(with_reducible refine (Xa.calls (rd Pa ld) 1 16 true _ A5.out).mono ?_);rintro e w' ⟨rfl,⟨nd,rfl⟩⟩;refine ⟨_,rfl,?_⟩))
      go_roundg k1
      case measure=>have:=lg.out;omega
      case rel=>exact ⟨(wrap64 (ld + 1)),(by first|rfl|(simp;done)|(simp [*];done)),H',⟨by have:=lg.out;omega⟩,⟨by (with_reducible repeat (first|refine Ba ?_ _|refine Ea ?_|refine Ca ?_ _));exact oa.out⟩,⟨by repeat (first|(with_reducible first|exact HB.out|apply qa|apply ia|apply ta|refine ua ?_ Sa.out)|exact HB.out)⟩⟩
     ·replace c6:=Bool.eq_false_iff.mpr c6;subst c6;have H1:(some false)=some r:=by rw [if_neg (show ¬ (false=true) by decide)] at H;exact H
      clear H;have H:=H1;clear H1;obtain rfl:=Option.some.inj H;have vq:wr.cell? ⟨ya,0,none⟩=some (.slice Ya Pa.length Za):=(ga oa.out 0).trans rfl;have uq:wr.cell? ⟨ya,1,none⟩=some (.int .i64 Ka):=(ga oa.out 1).trans rfl;have tq:wr.cell? ⟨ya,2,none⟩=some (.int .i64 Ga):=(ga oa.out 2).trans rfl;have sq:wr.cell? ⟨ya,3,none⟩=some (.int .i64 Ia):=(ga oa.out 3).trans rfl;have rq:wr.cell? ⟨ya,4,none⟩=some (.slice Vb Da.length Jb):=(ga oa.out 4).trans rfl;have qq:=aa oa.out 0;have pq:=aa oa.out 1;have oq:=aa oa.out 2;have mq:=aa oa.out 3;have lq:=aa oa.out 4;have Eh:0 ≤ (ld:Int):=Wa;have Dh:ld < (Pa.length:Int):=Wa;obtain ⟨Ie,Zs,Ke⟩:=Kd.rm qe.out ld Eh Dh;cases Zs;replace Ke:=Na HB.out Ke;replace Eh:=eq_true Eh;replace Dh:=eq_true Dh;go_wp2_with (first|((with_reducible refine jb (f:=53) rfl ?_);refine Fc (some 18) rfl rfl Try.func53 (by kernel_rfl) rfl #[.int .i64 (rd Pa ld),.int .i64 1,.int .i64 16] rfl (by (try simp only [List.map_toArray,List.map_cons,List.map_nil]);first|done|rfl|(simp only [List.length_drop,List.length_take];rfl)) ?_;(with_reducible refine (Xa.calls (rd Pa ld) 1 16 false _ A5.out).mono ?_);rintro e w' ⟨rfl,⟨nd,rfl⟩⟩;refine ⟨_,rfl,?_⟩));go_ret;exact ⟨by first|rfl|(simp [Ma,La] <;> rfl)|(simp [*,Ma,La] <;> rfl),by repeat (first|(with_reducible first|exact HB.out|apply qa|apply ia|apply ta|refine ua ?_ Sa.out)|exact HB.out)⟩
    ·rw [if_neg c4] at H;exact absurd H (by simp)
   ·rw [if_neg c3] at H;have Nh:decide (ld < (Pa.length:Int))=false:=decide_eq_false c3;clear c3;have HC9:=ja.mk H;clear H;have Fk:wr.cell? ⟨ya,0,none⟩=some (.slice Ya Pa.length Za):=(ga oa.out 0).trans rfl;have Ek:wr.cell? ⟨ya,1,none⟩=some (.int .i64 Ka):=(ga oa.out 1).trans rfl;have Dk:wr.cell? ⟨ya,2,none⟩=some (.int .i64 Ga):=(ga oa.out 2).trans rfl;have Ck:wr.cell? ⟨ya,3,none⟩=some (.int .i64 Ia):=(ga oa.out 3).trans rfl;have Bk:wr.cell? ⟨ya,4,none⟩=some (.slice Vb Da.length Jb):=(ga oa.out 4).trans rfl;have Ak:=aa oa.out 0;have zk:=aa oa.out 1;have xk:=aa oa.out 2;have vk:=aa oa.out 3;have uk:=aa oa.out 4
    go_upto_region 6 with (fail)
    go_cut [58] (fun v58 wc=>∃ (kq:Nat) (EK:Bool),v58 = .bool EK∧ja (Va.j1 kq EK Pa Ka Ga Ia Da=some r)∧ja (kq ≤ k1)∧ja (wc.heap[ya]? = some (.cells #[(.slice Ya Pa.length Za),.int .i64 Ka,.int .i64 Ga,.int .i64 Ia,(.slice Vb Da.length Jb)] 30 (0,0)))∧ja (Below w.heap.size w wc))
    case first =>
     have H:=HC9.out;clear HC9;replace H:=Option.bind_eq_some_iff.mp H;obtain ⟨t104,uS,H⟩:=H;replace H:(if t104=true then ((Xa.f Ga 0 20).bind fun t105=>(if t105=true then ((Xa.f Ka 0 6).bind fun t106=>(if t106=true then (if Ka > Ga then (Va.j1 k1 true Pa Ka Ga Ia Da) else ((Xa.f Ia Ga 1000).bind fun t107=>(if t107=true then ((Xa.f (Da.length:Int) 1 300).bind fun t108=>(Va.j1 k1 (!t108) Pa Ka Ga Ia Da)) else (Va.j1 k1 true Pa Ka Ga Ia Da)))) else (Va.j1 k1 true Pa Ka Ga Ia Da))) else (Va.j1 k1 true Pa Ka Ga Ia Da))) else (Va.j1 k1 true Pa Ka Ga Ia Da))=some r:=H;have zX:=ja.mk uS;clear uS
     by_cases nu:t104=true
     ·subst nu;have H1:((Xa.f Ga 0 20).bind fun t105=>(if t105=true then ((Xa.f Ka 0 6).bind fun t106=>(if t106=true then (if Ka > Ga then (Va.j1 k1 true Pa Ka Ga Ia Da) else ((Xa.f Ia Ga 1000).bind fun t107=>(if t107=true then ((Xa.f (Da.length:Int) 1 300).bind fun t108=>(Va.j1 k1 (!t108) Pa Ka Ga Ia Da)) else (Va.j1 k1 true Pa Ka Ga Ia Da)))) else (Va.j1 k1 true Pa Ka Ga Ia Da))) else (Va.j1 k1 true Pa Ka Ga Ia Da)))=some r:=by rw [if_pos rfl] at H;exact H
      clear H;have H:=H1;clear H1;replace H:=Option.bind_eq_some_iff.mp H;obtain ⟨t105,tI,H⟩:=H;replace H:(if t105=true then ((Xa.f Ka 0 6).bind fun t106=>(if t106=true then (if Ka > Ga then (Va.j1 k1 true Pa Ka Ga Ia Da) else ((Xa.f Ia Ga 1000).bind fun t107=>(if t107=true then ((Xa.f (Da.length:Int) 1 300).bind fun t108=>(Va.j1 k1 (!t108) Pa Ka Ga Ia Da)) else (Va.j1 k1 true Pa Ka Ga Ia Da)))) else (Va.j1 k1 true Pa Ka Ga Ia Da))) else (Va.j1 k1 true Pa Ka Ga Ia Da))=some r:=H;have nW:=ja.mk tI;clear tI
      by_cases zR:t105=true
      ·subst zR;have H1:((Xa.f Ka 0 6).bind fun t106=>(if t106=true then (if Ka > Ga then (Va.j1 k1 true Pa Ka Ga Ia Da) else ((Xa.f Ia Ga 1000).bind fun t107=>(if t107=true then ((Xa.f (Da.length:Int) 1 300).bind fun t108=>(Va.j1 k1 (!t108) Pa Ka Ga Ia Da)) else (Va.j1 k1 true Pa Ka Ga Ia Da)))) else (Va.j1 k1 true Pa Ka Ga Ia Da)))=some r:=by rw [if_pos rfl] at H;exact H
       clear H;have H:=H1;clear H1;replace H:=Option.bind_eq_some_iff.mp H;obtain ⟨t106,rS,H⟩:=H;replace H:(if t106=true then (if Ka > Ga then (Va.j1 k1 true Pa Ka Ga Ia Da) else ((Xa.f Ia Ga 1000).bind fun t107=>(if t107=true then ((Xa.f (Da.length:Int) 1 300).bind fun t108=>(Va.j1 k1 (!t108) Pa Ka Ga Ia Da)) else (Va.j1 k1 true Pa Ka Ga Ia Da)))) else (Va.j1 k1 true Pa Ka Ga Ia Da))=some r:=H;have O2:=ja.mk rS;clear rS
       by_cases yR:t106=true
       ·subst yR;have H1:(if Ka > Ga then (Va.j1 k1 true Pa Ka Ga Ia Da) else ((Xa.f Ia Ga 1000).bind fun t107=>(if t107=true then ((Xa.f (Da.length:Int) 1 300).bind fun t108=>(Va.j1 k1 (!t108) Pa Ka Ga Ia Da)) else (Va.j1 k1 true Pa Ka Ga Ia Da))))=some r:=by rw [if_pos rfl] at H;exact H
        clear H;have H:=H1;clear H1
        by_cases lu:Ka > Ga
        ·rw [if_pos lu] at H;have Vp:decide (Ga < Ka)=true:=decide_eq_true lu;clear lu;(first|rw [Vp]|(simp only [Xb,Yb];rw [Vp])|skip);have H':=ja.mk H;clear H;have Ss:wr.cell? ⟨ya,0,none⟩=some (.slice Ya Pa.length Za):=(ga oa.out 0).trans rfl;have Rs:wr.cell? ⟨ya,1,none⟩=some (.int .i64 Ka):=(ga oa.out 1).trans rfl;have Qs:wr.cell? ⟨ya,2,none⟩=some (.int .i64 Ga):=(ga oa.out 2).trans rfl;have Ns:wr.cell? ⟨ya,3,none⟩=some (.int .i64 Ia):=(ga oa.out 3).trans rfl;have Ms:wr.cell? ⟨ya,4,none⟩=some (.slice Vb Da.length Jb):=(ga oa.out 4).trans rfl;have Mr:=aa oa.out 0;have Lr:=aa oa.out 1;have Kr:=aa oa.out 2;have Jr:=aa oa.out 3;have Ir:=aa oa.out 4;go_wp2_with (first|((with_reducible refine jb (f:=53) rfl ?_);refine Fc (some 23) rfl rfl Try.func53 (by kernel_rfl) rfl #[.int .i64 (Pa.length:Int),.int .i64 1,.int .i64 4] rfl (by (try simp only [List.map_toArray,List.map_cons,List.map_nil]);first|done|rfl|(simp only [List.length_drop,List.length_take];rfl)) ?_;(with_reducible refine (Xa.calls (Pa.length:Int) 1 4 true _ zX.out).mono ?_);rintro e w' ⟨rfl,⟨nd,rfl⟩⟩;refine ⟨_,rfl,?_⟩)|(go_at_call 53;(with_reducible refine (Xa.calls Ga 0 20 true _ nW.out).mono ?_);rintro e w' ⟨rfl,⟨nd,rfl⟩⟩)|(go_at_call 53;(with_reducible refine (Xa.calls Ka 0 6 true _ O2.out).mono ?_);rintro e w' ⟨rfl,⟨nd,rfl⟩⟩))
         go_meet
         case rel=>exact ⟨_,(true),(by first|rfl|(simp;done)|(simp [*];done)),H',⟨by have:=lg.out;first|omega|exact Nat.le_refl _⟩,⟨by (with_reducible repeat (first|refine Ba ?_ _|refine Ea ?_|refine Ca ?_ _));exact oa.out⟩,⟨by repeat (first|(with_reducible first|exact HB.out|apply qa|apply ia|apply ta|refine ua ?_ Sa.out)|exact HB.out)⟩⟩
        ·rw [if_neg lu] at H;have Vp:decide (Ga < Ka)=false:=decide_eq_false lu;clear lu;(first|rw [Vp]|(simp only [Xb,Yb];rw [Vp])|skip);replace H:=Option.bind_eq_some_iff.mp H;obtain ⟨t107,Taa,H⟩:=H;replace H:(if t107=true then ((Xa.f (Da.length:Int) 1 300).bind fun t108=>(Va.j1 k1 (!t108) Pa Ka Ga Ia Da)) else (Va.j1 k1 true Pa Ka Ga Ia Da))=some r:=H;have A19:=ja.mk Taa;clear Taa
         by_cases Pq:t107=true
         ·subst Pq;have H1:((Xa.f (Da.length:Int) 1 300).bind fun t108=>(Va.j1 k1 (!t108) Pa Ka Ga Ia Da))=some r:=by rw [if_pos rfl] at H;exact H
          clear H;have H:=H1;clear H1;replace H:=Option.bind_eq_some_iff.mp H;obtain ⟨t108,Saa,H⟩:=H;replace H:(Va.j1 k1 (!t108) Pa Ka Ga Ia Da)=some r:=H;have A21:=ja.mk Saa;clear Saa;have H':=ja.mk H;clear H;have oy:wr.cell? ⟨ya,0,none⟩=some (.slice Ya Pa.length Za):=(ga oa.out 0).trans rfl;have ny:wr.cell? ⟨ya,1,none⟩=some (.int .i64 Ka):=(ga oa.out 1).trans rfl;have jy:wr.cell? ⟨ya,2,none⟩=some (.int .i64 Ga):=(ga oa.out 2).trans rfl;have iy:wr.cell? ⟨ya,3,none⟩=some (.int .i64 Ia):=(ga oa.out 3).trans rfl;have gy:wr.cell? ⟨ya,4,none⟩=some (.slice Vb Da.length Jb):=(ga oa.out 4).trans rfl;have Lx:=aa oa.out 0;have Kx:=aa oa.out 1;have Jx:=aa oa.out 2;have Ix:=aa oa.out 3;have Hx:=aa oa.out 4;go_wp2_with (first|((with_reducible refine jb (f:=53) rfl ?_);refine Fc (some 23) rfl rfl Try.func53 (by kernel_rfl) rfl #[.int .i64 (Pa.length:Int),.int .i64 1,.int .i64 4] rfl (by (try simp only [List.map_toArray,List.map_cons,List.map_nil]);first|done|rfl|(simp only [List.length_drop,List.length_take];rfl)) ?_;(with_reducible refine (Xa.calls (Pa.length:Int) 1 4 true _ zX.out).mono ?_);rintro e w' ⟨rfl,⟨nd,rfl⟩⟩;refine ⟨_,rfl,?_⟩)|(go_at_call 53;(with_reducible refine (Xa.calls Ga 0 20 true _ nW.out).mono ?_);rintro e w' ⟨rfl,⟨nd,rfl⟩⟩)|(go_at_call 53;(with_reducible refine (Xa.calls Ka 0 6 true _ O2.out).mono ?_);rintro e w' ⟨rfl,⟨nd,rfl⟩⟩)|(go_at_call 53;(with_reducible refine (Xa.calls Ia Ga 1000 true _ A19.out).mono ?_);rintro e w' ⟨rfl,⟨nd,rfl⟩⟩)|(go_at_call 53;(with_reducible refine (Xa.calls (Da.length:Int) 1 300 t108 _ A21.out).mono ?_);rintro e w' ⟨rfl,⟨nd,rfl⟩⟩))
          go_meet
          case rel=>exact ⟨_,(!t108),(by first|rfl|(simp;done)|(simp [*];done)),H',⟨by have:=lg.out;first|omega|exact Nat.le_refl _⟩,⟨by (with_reducible repeat (first|refine Ba ?_ _|refine Ea ?_|refine Ca ?_ _));exact oa.out⟩,⟨by repeat (first|(with_reducible first|exact HB.out|apply qa|apply ia|apply ta|refine ua ?_ Sa.out)|exact HB.out)⟩⟩
         ·replace Pq:=Bool.eq_false_iff.mpr Pq;subst Pq;have H1:(Va.j1 k1 true Pa Ka Ga Ia Da)=some r:=by rw [if_neg (show ¬ (false=true) by decide)] at H;exact H
          clear H;have H:=H1;clear H1;have H':=ja.mk H;clear H;have uo:wr.cell? ⟨ya,0,none⟩=some (.slice Ya Pa.length Za):=(ga oa.out 0).trans rfl;have qo:wr.cell? ⟨ya,1,none⟩=some (.int .i64 Ka):=(ga oa.out 1).trans rfl;have oo:wr.cell? ⟨ya,2,none⟩=some (.int .i64 Ga):=(ga oa.out 2).trans rfl;have mo:wr.cell? ⟨ya,3,none⟩=some (.int .i64 Ia):=(ga oa.out 3).trans rfl;have jo:wr.cell? ⟨ya,4,none⟩=some (.slice Vb Da.length Jb):=(ga oa.out 4).trans rfl;have fo:=aa oa.out 0;have eo:=aa oa.out 1;have Zn:=aa oa.out 2;have Yn:=aa oa.out 3;have Xn:=aa oa.out 4;go_wp2_with (first|((with_reducible refine jb (f:=53) rfl ?_);refine Fc (some 23) rfl rfl Try.func53 (by kernel_rfl) rfl #[.int .i64 (Pa.length:Int),.int .i64 1,.int .i64 4] rfl (by (try simp only [List.map_toArray,List.map_cons,List.map_nil]);first|done|rfl|(simp only [List.length_drop,List.length_take];rfl)) ?_;(with_reducible refine (Xa.calls (Pa.length:Int) 1 4 true _ zX.out).mono ?_);rintro e w' ⟨rfl,⟨nd,rfl⟩⟩;refine ⟨_,rfl,?_⟩)|(go_at_call 53;(with_reducible refine (Xa.calls Ga 0 20 true _ nW.out).mono ?_);rintro e w' ⟨rfl,⟨nd,rfl⟩⟩)|(go_at_call 53;(with_reducible refine (Xa.calls Ka 0 6 true _ O2.out).mono ?_);rintro e w' ⟨rfl,⟨nd,rfl⟩⟩)|(go_at_call 53;(with_reducible refine (Xa.calls Ia Ga 1000 false _ A19.out).mono ?_);rintro e w' ⟨rfl,⟨nd,rfl⟩⟩))
          go_meet
          case rel=>exact ⟨_,(true),(by first|rfl|(simp;done)|(simp [*];done)),H',⟨by have:=lg.out;first|omega|exact Nat.le_refl _⟩,⟨by (with_reducible repeat (first|refine Ba ?_ _|refine Ea ?_|refine Ca ?_ _));exact oa.out⟩,⟨by repeat (first|(with_reducible first|exact HB.out|apply qa|apply ia|apply ta|refine ua ?_ Sa.out)|exact HB.out)⟩⟩
       ·replace yR:=Bool.eq_false_iff.mpr yR;subst yR;have H1:(Va.j1 k1 true Pa Ka Ga Ia Da)=some r:=by rw [if_neg (show ¬ (false=true) by decide)] at H;exact H
        clear H;have H:=H1;clear H1;have H':=ja.mk H;clear H;have Ls:wr.cell? ⟨ya,0,none⟩=some (.slice Ya Pa.length Za):=(ga oa.out 0).trans rfl;have Ks:wr.cell? ⟨ya,1,none⟩=some (.int .i64 Ka):=(ga oa.out 1).trans rfl;have Js:wr.cell? ⟨ya,2,none⟩=some (.int .i64 Ga):=(ga oa.out 2).trans rfl;have Hs:wr.cell? ⟨ya,3,none⟩=some (.int .i64 Ia):=(ga oa.out 3).trans rfl;have Gs:wr.cell? ⟨ya,4,none⟩=some (.slice Vb Da.length Jb):=(ga oa.out 4).trans rfl;have Hr:=aa oa.out 0;have Gr:=aa oa.out 1;have Er:=aa oa.out 2;have Dr:=aa oa.out 3;have Cr:=aa oa.out 4;go_wp2_with (first|((with_reducible refine jb (f:=53) rfl ?_);refine Fc (some 23) rfl rfl Try.func53 (by kernel_rfl) rfl #[.int .i64 (Pa.length:Int),.int .i64 1,.int .i64 4] rfl (by (try simp only [List.map_toArray,List.map_cons,List.map_nil]);first|done|rfl|(simp only [List.length_drop,List.length_take];rfl)) ?_;(with_reducible refine (Xa.calls (Pa.length:Int) 1 4 true _ zX.out).mono ?_);rintro e w' ⟨rfl,⟨nd,rfl⟩⟩;refine ⟨_,rfl,?_⟩)|(go_at_call 53;(with_reducible refine (Xa.calls Ga 0 20 true _ nW.out).mono ?_);rintro e w' ⟨rfl,⟨nd,rfl⟩⟩)|(go_at_call 53;(with_reducible refine (Xa.calls Ka 0 6 false _ O2.out).mono ?_);rintro e w' ⟨rfl,⟨nd,rfl⟩⟩))
        go_meet
        case rel=>exact ⟨_,(true),(by first|rfl|(simp;done)|(simp [*];done)),H',⟨by have:=lg.out;first|omega|exact Nat.le_refl _⟩,⟨by (with_reducible repeat (first|refine Ba ?_ _|refine Ea ?_|refine Ca ?_ _));exact oa.out⟩,⟨by repeat (first|(with_reducible first|exact HB.out|apply qa|apply ia|apply ta|refine ua ?_ Sa.out)|exact HB.out)⟩⟩
      ·replace zR:=Bool.eq_false_iff.mpr zR;subst zR;have H1:(Va.j1 k1 true Pa Ka Ga Ia Da)=some r:=by rw [if_neg (show ¬ (false=true) by decide)] at H;exact H
       clear H;have H:=H1;clear H1;have H':=ja.mk H;clear H;have av:wr.cell? ⟨ya,0,none⟩=some (.slice Ya Pa.length Za):=(ga oa.out 0).trans rfl;have Zu:wr.cell? ⟨ya,1,none⟩=some (.int .i64 Ka):=(ga oa.out 1).trans rfl;have Yu:wr.cell? ⟨ya,2,none⟩=some (.int .i64 Ga):=(ga oa.out 2).trans rfl;have Xu:wr.cell? ⟨ya,3,none⟩=some (.int .i64 Ia):=(ga oa.out 3).trans rfl;have Wu:wr.cell? ⟨ya,4,none⟩=some (.slice Vb Da.length Jb):=(ga oa.out 4).trans rfl;have Qu:=aa oa.out 0;have Pu:=aa oa.out 1;have Ou:=aa oa.out 2;have Nu:=aa oa.out 3;have Mu:=aa oa.out 4;go_wp2_with (first|((with_reducible refine jb (f:=53) rfl ?_);refine Fc (some 23) rfl rfl Try.func53 (by kernel_rfl) rfl #[.int .i64 (Pa.length:Int),.int .i64 1,.int .i64 4] rfl (by (try simp only [List.map_toArray,List.map_cons,List.map_nil]);first|done|rfl|(simp only [List.length_drop,List.length_take];rfl)) ?_;(with_reducible refine (Xa.calls (Pa.length:Int) 1 4 true _ zX.out).mono ?_);rintro e w' ⟨rfl,⟨nd,rfl⟩⟩;refine ⟨_,rfl,?_⟩)|(go_at_call 53;(with_reducible refine (Xa.calls Ga 0 20 false _ nW.out).mono ?_);rintro e w' ⟨rfl,⟨nd,rfl⟩⟩))
       go_meet
       case rel=>exact ⟨_,(true),(by first|rfl|(simp;done)|(simp [*];done)),H',⟨by have:=lg.out;first|omega|exact Nat.le_refl _⟩,⟨by (with_reducible repeat (first|refine Ba ?_ _|refine Ea ?_|refine Ca ?_ _));exact oa.out⟩,⟨by repeat (first|(with_reducible first|exact HB.out|apply qa|apply ia|apply ta|refine ua ?_ Sa.out)|exact HB.out)⟩⟩
     ·replace nu:=Bool.eq_false_iff.mpr nu;subst nu;have H1:(Va.j1 k1 true Pa Ka Ga Ia Da)=some r:=by rw [if_neg (show ¬ (false=true) by decide)] at H;exact H
      clear H;have H:=H1;clear H1;have H':=ja.mk H;clear H;have Vu:wr.cell? ⟨ya,0,none⟩=some (.slice Ya Pa.length Za):=(ga oa.out 0).trans rfl;have Uu:wr.cell? ⟨ya,1,none⟩=some (.int .i64 Ka):=(ga oa.out 1).trans rfl;have Tu:wr.cell? ⟨ya,2,none⟩=some (.int .i64 Ga):=(ga oa.out 2).trans rfl;have Su:wr.cell? ⟨ya,3,none⟩=some (.int .i64 Ia):=(ga oa.out 3).trans rfl;have Ru:wr.cell? ⟨ya,4,none⟩=some (.slice Vb Da.length Jb):=(ga oa.out 4).trans rfl;have Lu:=aa oa.out 0;have Ku:=aa oa.out 1;have Ju:=aa oa.out 2;have Iu:=aa oa.out 3;have Hu:=aa oa.out 4;go_wp2_with (first|((with_reducible refine jb (f:=53) rfl ?_);refine Fc (some 23) rfl rfl Try.func53 (by kernel_rfl) rfl #[.int .i64 (Pa.length:Int),.int .i64 1,.int .i64 4] rfl (by (try simp only [List.map_toArray,List.map_cons,List.map_nil]);first|done|rfl|(simp only [List.length_drop,List.length_take];rfl)) ?_;(with_reducible refine (Xa.calls (Pa.length:Int) 1 4 false _ zX.out).mono ?_);rintro e w' ⟨rfl,⟨nd,rfl⟩⟩;refine ⟨_,rfl,?_⟩))
      go_meet
      case rel=>exact ⟨_,(true),(by first|rfl|(simp;done)|(simp [*];done)),H',⟨by have:=lg.out;first|omega|exact Nat.le_refl _⟩,⟨by (with_reducible repeat (first|refine Ba ?_ _|refine Ea ?_|refine Ca ?_ _));exact oa.out⟩,⟨by repeat (first|(with_reducible first|exact HB.out|apply qa|apply ia|apply ta|refine ua ?_ Sa.out)|exact HB.out)⟩⟩
    case rest =>
     clear HC9
     try clear c1
     try clear p1
     try clear q1
     try clear hx1
     try clear c2
     try clear p2
     try clear c3
     try clear Nh
     try clear c4
     try clear Mk
     try clear c5
     try clear c6
     try clear p6
     try clear wI
     try clear vI
     try clear zQ
     try clear nu
     try clear zR
     try clear yR
     try clear lu
     try clear Vp
     try clear Pq
     try clear Fk
     try clear Ek
     try clear Dk
     try clear Ck
     try clear Bk
     try clear Ss
     try clear Rs
     try clear Qs
     try clear Ns
     try clear Ms
     try clear oy
     try clear ny
     try clear jy
     try clear iy
     try clear gy
     try clear uo
     try clear qo
     try clear oo
     try clear mo
     try clear jo
     try clear Ls
     try clear Ks
     try clear Js
     try clear Hs
     try clear Gs
     try clear av
     try clear Zu
     try clear Yu
     try clear Xu
     try clear Wu
     try clear Vu
     try clear Uu
     try clear Tu
     try clear Su
     try clear Ru
     try clear Yr
     try clear Xr
     try clear Wr
     try clear Vr
     try clear Ur
     try clear vq
     try clear uq
     try clear tq
     try clear sq
     try clear rq
     try clear Ak
     try clear zk
     try clear xk
     try clear vk
     try clear uk
     try clear Mr
     try clear Lr
     try clear Kr
     try clear Jr
     try clear Ir
     try clear Lx
     try clear Kx
     try clear Jx
     try clear Ix
     try clear Hx
     try clear fo
     try clear eo
     try clear Zn
     try clear Yn
     try clear Xn
     try clear Hr
     try clear Gr
     try clear Er
     try clear Dr
     try clear Cr
     try clear Qu
     try clear Pu
     try clear Ou
     try clear Nu
     try clear Mu
     try clear Lu
     try clear Ku
     try clear Ju
     try clear Iu
     try clear Hu
     try clear kr
     try clear jr
     try clear ir
     try clear gr
     try clear er
     try clear qq
     try clear pq
     try clear oq
     try clear mq
     try clear lq
     try clear Ke
     try clear Eh
     try clear p2
     try clear Dh
     obtain ⟨kq,EK,rfl,HA,HJ8,oa,HB⟩:=hcut;cases kq with
     | zero=>exact absurd HA.out (by simp [Va.j1])
     | succ kj8 =>
      have H:=HA.out;clear HA;simp only [Va.j1] at H
      by_cases vR:EK=true
      ·subst vR;have H1:(some false)=some r:=by rw [if_pos rfl] at H;exact H
       clear H;have H:=H1;clear H1;obtain rfl:=Option.some.inj H;go_wp2;go_ret;exact ⟨by first|rfl|(simp [Ma,La] <;> rfl)|(simp [*,Ma,La] <;> rfl),by repeat (first|(with_reducible first|exact HB.out|apply qa|apply ia|apply ta|refine ua ?_ Sa.out)|exact HB.out)⟩
      ·replace vR:=Bool.eq_false_iff.mpr vR;subst vR;have H1:(Va.l1 kj8 0 0 Pa Ka Ga Ia Da)=some r:=by rw [if_neg (show ¬ (false=true) by decide)] at H;exact H
       clear H;have H:=H1;clear H1;have H':=ja.mk H;clear H;go_wp2
       go_loopg [4,5] kj8 (fun kq v4 v5 w'=>∃ (yE:Int) (ye:Int),v4 = .int .i64 yE∧v5 = .int .i64 ye∧ja (Va.l1 kq yE ye Pa Ka Ga Ia Da=some r)∧ja (kq ≤ kj8)∧ja (w'.heap[ya]? = some (.cells #[(.slice Ya Pa.length Za),.int .i64 Ka,.int .i64 Ga,.int .i64 Ia,(.slice Vb Da.length Jb)] 30 (0,0)))∧ja (Below w.heap.size w w'))
       case atStart=>exact ⟨(0),(0),(by first|rfl|(simp;done)|(simp [*];done)),(by first|rfl|(simp;done)|(simp [*];done)),H',⟨Nat.le_refl _⟩,⟨by (with_reducible repeat (first|refine Ba ?_ _|refine Ea ?_|refine Ca ?_ _));exact oa.out⟩,⟨by repeat (first|(with_reducible first|exact HB.out|apply qa|apply ia|apply ta|refine ua ?_ Sa.out)|exact HB.out)⟩⟩
       case round =>
        clear H'
        try clear c1
        try clear p1
        try clear q1
        try clear hx1
        try clear c2
        try clear p2
        try clear c3
        try clear Nh
        try clear c4
        try clear Mk
        try clear c5
        try clear c6
        try clear p6
        try clear wI
        try clear vI
        try clear zQ
        try clear nu
        try clear zR
        try clear yR
        try clear lu
        try clear Vp
        try clear Pq
        try clear vR
        try clear Fk
        try clear Ek
        try clear Dk
        try clear Ck
        try clear Bk
        try clear Ss
        try clear Rs
        try clear Qs
        try clear Ns
        try clear Ms
        try clear oy
        try clear ny
        try clear jy
        try clear iy
        try clear gy
        try clear uo
        try clear qo
        try clear oo
        try clear mo
        try clear jo
        try clear Ls
        try clear Ks
        try clear Js
        try clear Hs
        try clear Gs
        try clear av
        try clear Zu
        try clear Yu
        try clear Xu
        try clear Wu
        try clear Vu
        try clear Uu
        try clear Tu
        try clear Su
        try clear Ru
        try clear Yr
        try clear Xr
        try clear Wr
        try clear Vr
        try clear Ur
        try clear vq
        try clear uq
        try clear tq
        try clear sq
        try clear rq
        try clear Ak
        try clear zk
        try clear xk
        try clear vk
        try clear uk
        try clear Mr
        try clear Lr
        try clear Kr
        try clear Jr
        try clear Ir
        try clear Lx
        try clear Kx
        try clear Jx
        try clear Ix
        try clear Hx
        try clear fo
        try clear eo
        try clear Zn
        try clear Yn
        try clear Xn
        try clear Hr
        try clear Gr
        try clear Er
        try clear Dr
        try clear Cr
        try clear Qu
        try clear Pu
        try clear Ou
        try clear Nu
        try clear Mu
        try clear Lu
        try clear Ku
        try clear Ju
        try clear Iu
        try clear Hu
        try clear kr
        try clear jr
        try clear ir
        try clear gr
        try clear er
        try clear qq
        try clear pq
        try clear oq
        try clear mq
        try clear lq
        try clear Ke
        try clear p1
        try clear wI
        try clear Eh
        try clear p2
        try clear p6
        try clear q1
        try clear vI
        try clear Dh
        (try clear HA);(try clear qI);(try clear oa);(try clear HB);obtain ⟨yE,ye,rfl,rfl,HA,qI,oa,HB⟩:=hrel;cases gk with
        | zero=>exact absurd HA.out (by simp [Va.l1])
        | succ k3 =>
         have H:=HA.out;clear HA;simp only [Va.l1] at H
         by_cases Z1:ye < (Da.length:Int)
         ·rw [if_pos Z1] at H;have g_:decide (ye < (Da.length:Int))=true:=decide_eq_true Z1;clear Z1
          by_cases oE:0 ≤ ye
          ·rw [if_pos oE] at H;have ZC:decide (0 ≤ ye)=true:=decide_eq_true oE;clear oE
           by_cases gI:(wrap64 (yE + (((Aa Da ye).f0).length:Int))) > 1000
           ·rw [if_pos gI] at H;have RN:decide (1000 < (wrap64 (yE + (((Aa Da ye).f0).length:Int))))=true:=decide_eq_true gI;clear gI;obtain rfl:=Option.some.inj H;have Fs:wr.cell? ⟨ya,0,none⟩=some (.slice Ya Pa.length Za):=(ga oa.out 0).trans rfl;have Es:wr.cell? ⟨ya,1,none⟩=some (.int .i64 Ka):=(ga oa.out 1).trans rfl;have Ds:wr.cell? ⟨ya,2,none⟩=some (.int .i64 Ga):=(ga oa.out 2).trans rfl;have Cs:wr.cell? ⟨ya,3,none⟩=some (.int .i64 Ia):=(ga oa.out 3).trans rfl;have Bs:wr.cell? ⟨ya,4,none⟩=some (.slice Vb Da.length Jb):=(ga oa.out 4).trans rfl;have Br:=aa oa.out 0;have Ar:=aa oa.out 1;have vr:=aa oa.out 2;have ur:=aa oa.out 3;have tr:=aa oa.out 4;have Xq:0 ≤ (ye:Int):=Wa;have Vq:ye < (Da.length:Int):=Wa;obtain ⟨kg,dm,Yl,HG,Qi,Oi,Ni,Mi,Li,Si,Ui⟩:=ki Hf.out ye Xq Vq;cases HG;replace Qi:=Na HB.out Qi;replace Oi:=Na HB.out Oi;replace Ni:=Na HB.out Ni;replace Mi:=Na HB.out Mi;replace Li:=Na HB.out Li;have XB:=ja.mk Ui;have YB:=ja.mk Si;clear Ui Si;replace Xq:=eq_true Xq;replace Vq:=eq_true Vq
            try go_wp2
            have Fb:=ja.mk (Ea oa.out);have Ib:=ja.mk (ta HB.out);clear oa HB;have oa:=Fb;have HB:=Ib;clear Fb Ib;refine fl (n:=12) (S:=fun w'=>True) (ds:=[]) #[false,false,false,false,false,false,false,false,false,false,false,false] (by kernel_rfl) rfl rfl trivial (fun hHeld=>?_);refine Ci Va.OP Va.pK (fun Pf jv=>?_);generalize wr.drew=sO at oa HB hHeld ⊢;refine Wc (i:=0) (N:=some 75) (v:=?_) (a':=?_) #[true,false,false,false,false,false,false,false,false,false,false,false] rfl rfl (Sc Pf.out (by kernel_rfl)) (fun _ _ _ h=>h) (Or.inl ⟨by rfl,?_⟩) ?_ ?_;rotate_left
            ·intro w';go_simp;with_reducible rfl
            rotate_left
            ·simp only [Act.put,List.setIfInBounds_toArray,List.set_cons_zero,List.set_cons_succ,Xb,Yb]
             rfl
            refine Wc (i:=1) (N:=some 76) (v:=?_) (a':=?_) #[true,true,false,false,false,false,false,false,false,false,false,false] rfl rfl (Sc Pf.out (by kernel_rfl)) (fun _ _ _ h=>h) (Or.inl ⟨by rfl,?_⟩) ?_ ?_;rotate_left
            ·intro w';go_simp;with_reducible rfl
            rotate_left
            ·simp only [Act.put,List.setIfInBounds_toArray,List.set_cons_zero,List.set_cons_succ,Xb,Yb]
             rfl
            refine Wc (i:=2) (N:=some 77) (v:=?_) (a':=?_) #[true,true,true,false,false,false,false,false,false,false,false,false] rfl rfl (Sc Pf.out (by kernel_rfl)) (fun _ _ _ h=>h) (Or.inl ⟨by rfl,?_⟩) ?_ ?_;rotate_left
            ·intro w';go_simp;with_reducible rfl
            rotate_left
            ·simp only [Act.put,List.setIfInBounds_toArray,List.set_cons_zero,List.set_cons_succ,Xb,Yb]
             rfl
            refine Wc (i:=3) (N:=some 78) (v:=undef) (a':=?_) #[true,true,true,true,false,false,false,false,false,false,false,false] rfl rfl (Sc Pf.out (by kernel_rfl)) (fun _ _ _ h=>h) (Or.inr ⟨by rfl,rfl⟩) ?_ ?_;rotate_left
            ·simp only [Act.put,List.setIfInBounds_toArray,List.set_cons_zero,List.set_cons_succ,Xb,Yb]
             rfl
            refine Wc (i:=4) (N:=some 79) (v:=undef) (a':=?_) #[true,true,true,true,true,false,false,false,false,false,false,false] rfl rfl (Sc Pf.out (by kernel_rfl)) (fun _ _ _ h=>h) (Or.inr ⟨by rfl,rfl⟩) ?_ ?_;rotate_left
            ·simp only [Act.put,List.setIfInBounds_toArray,List.set_cons_zero,List.set_cons_succ,Xb,Yb]
             rfl
            refine Wc (i:=5) (N:=some 80) (v:=undef) (a':=?_) #[true,true,true,true,true,true,false,false,false,false,false,false] rfl rfl (Sc Pf.out (by kernel_rfl)) (fun _ _ _ h=>h) (Or.inr ⟨by rfl,rfl⟩) ?_ ?_;rotate_left
            ·simp only [Act.put,List.setIfInBounds_toArray,List.set_cons_zero,List.set_cons_succ,Xb,Yb]
             rfl
            refine Wc (i:=6) (N:=some 81) (v:=undef) (a':=?_) #[true,true,true,true,true,true,true,false,false,false,false,false] rfl rfl (Sc Pf.out (by kernel_rfl)) (fun _ _ _ h=>h) (Or.inr ⟨by rfl,rfl⟩) ?_ ?_;rotate_left
            ·simp only [Act.put,List.setIfInBounds_toArray,List.set_cons_zero,List.set_cons_succ,Xb,Yb]
             rfl
            refine Wc (i:=7) (N:=some 82) (v:=undef) (a':=?_) #[true,true,true,true,true,true,true,true,false,false,false,false] rfl rfl (Sc Pf.out (by kernel_rfl)) (fun _ _ _ h=>h) (Or.inr ⟨by rfl,rfl⟩) ?_ ?_;rotate_left
            ·simp only [Act.put,List.setIfInBounds_toArray,List.set_cons_zero,List.set_cons_succ,Xb,Yb]
             rfl
            refine Wc (i:=8) (N:=some 83) (v:=undef) (a':=?_) #[true,true,true,true,true,true,true,true,true,false,false,false] rfl rfl (Sc Pf.out (by kernel_rfl)) (fun _ _ _ h=>h) (Or.inr ⟨by rfl,rfl⟩) ?_ ?_;rotate_left
            ·simp only [Act.put,List.setIfInBounds_toArray,List.set_cons_zero,List.set_cons_succ,Xb,Yb]
             rfl
            refine Wc (i:=9) (N:=some 84) (v:=undef) (a':=?_) #[true,true,true,true,true,true,true,true,true,true,false,false] rfl rfl (Sc Pf.out (by kernel_rfl)) (fun _ _ _ h=>h) (Or.inr ⟨by rfl,rfl⟩) ?_ ?_;rotate_left
            ·simp only [Act.put,List.setIfInBounds_toArray,List.set_cons_zero,List.set_cons_succ,Xb,Yb]
             rfl
            refine Wc (i:=10) (N:=some 85) (v:=undef) (a':=?_) #[true,true,true,true,true,true,true,true,true,true,true,false] rfl rfl (Sc Pf.out (by kernel_rfl)) (fun _ _ _ h=>h) (Or.inr ⟨by rfl,rfl⟩) ?_ ?_;rotate_left
            ·simp only [Act.put,List.setIfInBounds_toArray,List.set_cons_zero,List.set_cons_succ,Xb,Yb]
             rfl
            refine Wc (i:=11) (N:=some 86) (v:=?_) (a':=?_) #[true,true,true,true,true,true,true,true,true,true,true,true] rfl rfl (Sc Pf.out (by kernel_rfl)) (fun _ _ _ h=>h) (Or.inl ⟨by rfl,?_⟩) ?_ ?_;rotate_left
            ·intro w';go_simp;with_reducible rfl
            rotate_left
            ·simp only [Act.put,List.setIfInBounds_toArray,List.set_cons_zero,List.set_cons_succ,Xb,Yb]
             rfl
            refine Tp (Mm Pf.out (by kernel_rfl)) ?_
            try go_wp2
            go_ret;exact ⟨by first|rfl|(simp [Ma,La] <;> rfl)|(simp [*,Ma,La] <;> rfl),by repeat (first|(with_reducible first|exact HB.out|apply qa|apply ia|apply ta|refine ua ?_ Sa.out)|exact HB.out)⟩
           ·rw [if_neg gI] at H;have RN:decide (1000 < (wrap64 (yE + (((Aa Da ye).f0).length:Int))))=false:=decide_eq_false gI;clear gI;replace H:=Option.bind_eq_some_iff.mp H;obtain ⟨t111,Paa,H⟩:=H;replace H:(if t111=true then (Va.l1 k3 (wrap64 (yE + (((Aa Da ye).f0).length:Int))) (wrap64 (ye + 1)) Pa Ka Ga Ia Da) else (some false))=some r:=H;have A33:=ja.mk Paa;clear Paa
            by_cases wD:t111=true
            ·subst wD;have H1:(Va.l1 k3 (wrap64 (yE + (((Aa Da ye).f0).length:Int))) (wrap64 (ye + 1)) Pa Ka Ga Ia Da)=some r:=by rw [if_pos rfl] at H;exact H
             clear H;have H:=H1;clear H1;have H':=ja.mk H;clear H;have lN:wr.cell? ⟨ya,0,none⟩=some (.slice Ya Pa.length Za):=(ga oa.out 0).trans rfl;have kN:wr.cell? ⟨ya,1,none⟩=some (.int .i64 Ka):=(ga oa.out 1).trans rfl;have jN:wr.cell? ⟨ya,2,none⟩=some (.int .i64 Ga):=(ga oa.out 2).trans rfl;have iN:wr.cell? ⟨ya,3,none⟩=some (.int .i64 Ia):=(ga oa.out 3).trans rfl;have gN:wr.cell? ⟨ya,4,none⟩=some (.slice Vb Da.length Jb):=(ga oa.out 4).trans rfl;have eM:=aa oa.out 0;have dM:=aa oa.out 1;have cM:=aa oa.out 2;have bM:=aa oa.out 3;have aM:=aa oa.out 4;have Xq:0 ≤ (ye:Int):=Wa;have Vq:ye < (Da.length:Int):=Wa;obtain ⟨kg,dm,Yl,HG,Qi,Oi,Ni,Mi,Li,Si,Ui⟩:=ki Hf.out ye Xq Vq;cases HG;replace Qi:=Na HB.out Qi;replace Oi:=Na HB.out Oi;replace Ni:=Na HB.out Ni;replace Mi:=Na HB.out Mi;replace Li:=Na HB.out Li;have XB:=ja.mk Ui;have YB:=ja.mk Si;clear Ui Si;replace Xq:=eq_true Xq;replace Vq:=eq_true Vq
             try go_wp2
             have Fb:=ja.mk (Ea oa.out);have Ib:=ja.mk (ta HB.out);clear oa HB;have oa:=Fb;have HB:=Ib;clear Fb Ib;have XI:0 ≤ (ye:Int):=Wa;have QI:ye < (Da.length:Int):=Wa;obtain ⟨KR,tD,dD,jZ,Ln,Kn,Jn,Gn,En,ux,zx⟩:=ki Hf.out ye XI QI;have Mw:=En;have Nw:=Gn;have Ow:=Jn;have Pw:=Kn;have Qw:=Ln;obtain rfl:kg=KR:=(by injection jZ);replace Ln:=Na HB.out Ln;replace Kn:=Na HB.out Kn;replace Jn:=Na HB.out Jn;replace Gn:=Na HB.out Gn;replace En:=Na HB.out En;have Ry:=ja.mk zx;have YG:=ja.mk ux;clear zx ux;replace XI:=eq_true XI;replace QI:=eq_true QI;refine fl (n:=12) (S:=fun w'=>w'.cell? ⟨ya,0,none⟩=some (.slice Ya Pa.length Za)∧w'.cell? ⟨ya,1,none⟩=some (.int .i64 Ka)∧w'.cell? ⟨ya,2,none⟩=some (.int .i64 Ga)∧w'.cell? ⟨ya,3,none⟩=some (.int .i64 Ia)∧w'.cell? ⟨ya,4,none⟩=some (.slice (some kg) Da.length Jb)∧w'.cell? (kg.add ((ye).toNat * 5))=some (.slice tD ((Aa Da ye).f0).length dD)∧w'.cell? ⟨(kg.add ((ye).toNat * 5)).block,(kg.add ((ye).toNat * 5)).off + 1,none⟩=some (.int .i64 ((Aa Da ye).f1))∧w'.cell? ⟨(kg.add ((ye).toNat * 5)).block,(kg.add ((ye).toNat * 5)).off + 2,none⟩=some (.int .i64 ((Aa Da ye).f2))∧w'.cell? ⟨(kg.add ((ye).toNat * 5)).block,(kg.add ((ye).toNat * 5)).off + 3,none⟩=some (.int .i64 ((Aa Da ye).f3))∧w'.cell? ⟨(kg.add ((ye).toNat * 5)).block,(kg.add ((ye).toNat * 5)).off + 4,none⟩=some (.int .i64 ((Aa Da ye).f4))) (ds:=[]) #[false,false,false,false,false,false,false,false,false,false,false,false] (by kernel_rfl) rfl rfl ⟨(ga oa.out 0).trans rfl,(ga oa.out 1).trans rfl,(ga oa.out 2).trans rfl,(ga oa.out 3).trans rfl,(ga oa.out 4).trans rfl,(Na HB.out Qw),(Na HB.out Pw),(Na HB.out Ow),(Na HB.out Nw),(Na HB.out Mw)⟩ (fun hHeld=>?_);refine Ci Va.OP Va.pK (fun Pf jv=>?_);generalize wr.drew=eC at oa HB Ry Ln Kn Jn Gn En hHeld ⊢;refine Wc (i:=0) (N:=some 75) (v:=?_) (a':=?_) #[true,false,false,false,false,false,false,false,false,false,false,false] rfl rfl (Sc Pf.out (by kernel_rfl)) (fun _ _ _ h=>h) (Or.inl ⟨by rfl,?_⟩) ?_ ?_;rotate_left
             ·intro w';go_simp;with_reducible rfl
             rotate_left
             ·simp only [Act.put,List.setIfInBounds_toArray,List.set_cons_zero,List.set_cons_succ,Xb,Yb]
              rfl
             refine Wc (i:=1) (N:=some 76) (v:=?_) (a':=?_) #[true,true,false,false,false,false,false,false,false,false,false,false] rfl rfl (Sc Pf.out (by kernel_rfl)) (fun _ _ _ h=>h) (Or.inl ⟨by rfl,?_⟩) ?_ ?_;rotate_left
             ·intro w';go_simp;with_reducible rfl
             rotate_left
             ·simp only [Act.put,List.setIfInBounds_toArray,List.set_cons_zero,List.set_cons_succ,Xb,Yb]
              rfl
             refine Wc (i:=2) (N:=some 77) (v:=?_) (a':=?_) #[true,true,true,false,false,false,false,false,false,false,false,false] rfl rfl (Sc Pf.out (by kernel_rfl)) (fun _ _ _ h=>h) (Or.inl ⟨by rfl,?_⟩) ?_ ?_;rotate_left
             ·intro w';go_simp;with_reducible rfl
             rotate_left
             ·simp only [Act.put,List.setIfInBounds_toArray,List.set_cons_zero,List.set_cons_succ,Xb,Yb]
              rfl
             refine Wc (i:=4) (N:=some 79) (v:=?_) (a':=?_) #[true,true,true,false,true,false,false,false,false,false,false,false] rfl rfl (Sc Pf.out (by kernel_rfl)) (fun _ _ _ h=>h) (Or.inl ⟨by rfl,?_⟩) ?_ ?_;rotate_left
             ·intro w';go_simp;with_reducible rfl
             rotate_left
             ·simp only [Act.put,List.setIfInBounds_toArray,List.set_cons_zero,List.set_cons_succ,Xb,Yb]
              rfl
             refine Wc (i:=6) (N:=some 81) (v:=?_) (a':=?_) #[true,true,true,false,true,false,true,false,false,false,false,false] rfl rfl (Sc Pf.out (by kernel_rfl)) (fun _ _ _ h=>h) (Or.inl ⟨by rfl,?_⟩) ?_ ?_;rotate_left
             ·intro w';go_simp;with_reducible rfl
             rotate_left
             ·simp only [Act.put,List.setIfInBounds_toArray,List.set_cons_zero,List.set_cons_succ,Xb,Yb]
              rfl
             refine ug (i:=3) (N:=some 78) (v:=?_) (a':=?_) #[true,true,true,true,true,false,true,false,false,false,false,false] rfl rfl (Ue Pf.out jv.out (by kernel_rfl)) (fun _ _ _ h=>h) (Or.inl ⟨by rfl,?_⟩) hHeld ?_ ?_;rotate_left
             ·rintro w' ⟨s0,s1,s2,s3,s4,s5,s6,s7,s8,s9⟩;go_simp;with_reducible rfl
             rotate_left
             ·simp only [Act.put,List.setIfInBounds_toArray,List.set_cons_zero,List.set_cons_succ,Xb,Yb]
              rfl
             refine ug (i:=5) (N:=some 80) (v:=?_) (a':=?_) #[true,true,true,true,true,true,true,false,false,false,false,false] rfl rfl (Ue Pf.out jv.out (by kernel_rfl)) (fun _ _ _ h=>h) (Or.inl ⟨by rfl,?_⟩) hHeld ?_ ?_;rotate_left
             ·rintro w' ⟨s0,s1,s2,s3,s4,s5,s6,s7,s8,s9⟩;go_simp;with_reducible rfl
             rotate_left
             ·simp only [Act.put,List.setIfInBounds_toArray,List.set_cons_zero,List.set_cons_succ,Xb,Yb]
              rfl
             refine Wc (i:=7) (N:=some 82) (v:=?_) (a':=?_) #[true,true,true,true,true,true,true,true,false,false,false,false] rfl rfl (Sc Pf.out (by kernel_rfl)) (fun _ _ _ h=>h) (Or.inl ⟨by rfl,?_⟩) ?_ ?_;rotate_left
             ·intro w';go_simp;with_reducible rfl
             rotate_left
             ·simp only [Act.put,List.setIfInBounds_toArray,List.set_cons_zero,List.set_cons_succ,Xb,Yb]
              rfl
             refine ug (i:=8) (N:=some 83) (v:=?_) (a':=?_) #[true,true,true,true,true,true,true,true,true,false,false,false] rfl rfl (Ue Pf.out jv.out (by kernel_rfl)) (fun _ _ _ h=>h) (Or.inl ⟨by rfl,?_⟩) hHeld ?_ ?_;rotate_left
             ·rintro w' ⟨s0,s1,s2,s3,s4,s5,s6,s7,s8,s9⟩;go_simp;with_reducible rfl
             rotate_left
             ·simp only [Act.put,List.setIfInBounds_toArray,List.set_cons_zero,List.set_cons_succ,Xb,Yb]
              rfl
             refine Qv (i:=9) (N:=some 84) #[true,true,true,true,true,true,true,true,true,true,false,false] rfl rfl (br Pf.out (by kernel_rfl)) (by decide) (fun K hK=>?_);refine Ko Try.func71 (by kernel_rfl) rfl #[.agg #[.slice Ya Pa.length Za,.int .i64 Ka,.int .i64 Ga,.int .i64 Ia,.slice (some kg) Da.length Jb],.agg #[.slice tD ((Aa Da ye).f0).length dD,.int .i64 ((Aa Da ye).f1),.int .i64 ((Aa Da ye).f2),.int .i64 ((Aa Da ye).f3),.int .i64 ((Aa Da ye).f4)]] (by rfl) rfl rfl (by (try simp only [List.map_toArray,List.map_cons,List.map_nil]);first|done|rfl|(simp only [List.length_drop,List.length_take];rfl)) ?_;with_reducible refine (jc.calls k3 _ _ Pa Ka Ga Ia _ _ Da _ _ ((Aa Da ye).f0) ((Aa Da ye).f1) ((Aa Da ye).f2) ((Aa Da ye).f3) ((Aa Da ye).f4) true _ ?yc ?uc ?ud ?td ?Xt ?Wt A33.out).mono ?_
             (case yc=>repeat (first|exact (Kd.Ob qe.out HB.out)|(with_reducible refine Kd.Pb ?_ _)|(with_reducible refine Kd.Nb ?_ _)|(with_reducible refine Kd.Zb ?_)))
             (case uc=>exact Be.out)
             (case ud=>repeat (first|exact (Kd.Ob Hf.out HB.out)|(with_reducible refine Kd.Pb ?_ _)|(with_reducible refine Kd.Nb ?_ _)|(with_reducible refine Kd.Zb ?_)))
             (case td=>exact Tg.out)
             (case Xt=>repeat (first|exact (Kd.Ob Ry.out HB.out)|(with_reducible refine Kd.Pb ?_ _)|(with_reducible refine Kd.Nb ?_ _)|(with_reducible refine Kd.Zb ?_)))
             (case Wt=>exact YG.out)
             rintro e NS ⟨rfl,hb⟩;refine ⟨_,rfl,?_⟩;have Fb:=ja.mk (Ua (g:=ya) (o:=.cells #[.slice Ya Pa.length Za,.int .i64 Ka,.int .i64 Ga,.int .i64 Ia,.slice (some kg) Da.length Jb] 30 (0,0)) (by (with_reducible repeat (first|refine Ba ?_ _|refine Ea ?_|refine Ca ?_ _));exact oa.out) hb);have Ib:=ja.mk (Qa (by repeat (first|(with_reducible first|exact HB.out|apply qa|apply ia|apply ta|refine ua ?_ Sa.out)|exact HB.out)) hb);clear oa HB;have oa:=Fb;have HB:=Ib;clear Fb Ib;(try clear hb);(try clear Hi);(try clear hk);(try clear hi);refine hK.out _ _ ⟨(ga oa.out 0).trans rfl,(ga oa.out 1).trans rfl,(ga oa.out 2).trans rfl,(ga oa.out 3).trans rfl,(ga oa.out 4).trans rfl,(Na HB.out Qw),(Na HB.out Pw),(Na HB.out Ow),(Na HB.out Nw),(Na HB.out Mw)⟩ (fun hHeld=>?_);clear hK K;refine Eo (a':=?_) ?_ ?_;rotate_left
             ·show Act.put _ (some 84) _=_
              simp only [Act.put,List.setIfInBounds_toArray,List.set_cons_zero,List.set_cons_succ,Xb,Yb]
              rfl
             refine Wc (i:=10) (N:=some 85) (v:=?_) (a':=?_) #[true,true,true,true,true,true,true,true,true,true,true,false] rfl rfl (Sc Pf.out (by kernel_rfl)) (fun _ _ _ h=>h) (Or.inl ⟨by rfl,?_⟩) ?_ ?_;rotate_left
             ·intro w';go_simp;with_reducible rfl
             rotate_left
             ·simp only [Act.put,List.setIfInBounds_toArray,List.set_cons_zero,List.set_cons_succ,Xb,Yb]
              rfl
             refine Wc (i:=11) (N:=some 86) (v:=?_) (a':=?_) #[true,true,true,true,true,true,true,true,true,true,true,true] rfl rfl (Sc Pf.out (by kernel_rfl)) (fun _ _ _ h=>h) (Or.inl ⟨by rfl,?_⟩) ?_ ?_;rotate_left
             ·intro w';go_simp;with_reducible rfl
             rotate_left
             ·simp only [Act.put,List.setIfInBounds_toArray,List.set_cons_zero,List.set_cons_succ,Xb,Yb]
              rfl
             refine Tp (Mm Pf.out (by kernel_rfl)) ?_
             try go_wp2
             go_roundg k3
             case measure=>have:=lg.out;have:=HJ8.out;have:=qI.out;omega
             case rel=>exact ⟨(wrap64 (yE + (((Aa Da ye).f0).length:Int))),(wrap64 (ye + 1)),(by first|rfl|(simp;done)|(simp [*];done)),(by first|rfl|(simp;done)|(simp [*];done)),H',⟨by have:=lg.out;have:=HJ8.out;have:=qI.out;omega⟩,⟨by (with_reducible repeat (first|refine Ba ?_ _|refine Ea ?_|refine Ca ?_ _));exact oa.out⟩,⟨by repeat (first|(with_reducible first|exact HB.out|apply qa|apply ia|apply ta|refine ua ?_ Sa.out)|exact HB.out)⟩⟩
            ·replace wD:=Bool.eq_false_iff.mpr wD;subst wD;have H1:(some false)=some r:=by rw [if_neg (show ¬ (false=true) by decide)] at H;exact H
             clear H;have H:=H1;clear H1;obtain rfl:=Option.some.inj H;have iG:wr.cell? ⟨ya,0,none⟩=some (.slice Ya Pa.length Za):=(ga oa.out 0).trans rfl;have gG:wr.cell? ⟨ya,1,none⟩=some (.int .i64 Ka):=(ga oa.out 1).trans rfl;have fG:wr.cell? ⟨ya,2,none⟩=some (.int .i64 Ga):=(ga oa.out 2).trans rfl;have eG:wr.cell? ⟨ya,3,none⟩=some (.int .i64 Ia):=(ga oa.out 3).trans rfl;have dG:wr.cell? ⟨ya,4,none⟩=some (.slice Vb Da.length Jb):=(ga oa.out 4).trans rfl;have sF:=aa oa.out 0;have rF:=aa oa.out 1;have qF:=aa oa.out 2;have pF:=aa oa.out 3;have oF:=aa oa.out 4;have Xq:0 ≤ (ye:Int):=Wa;have Vq:ye < (Da.length:Int):=Wa;obtain ⟨kg,dm,Yl,HG,Qi,Oi,Ni,Mi,Li,Si,Ui⟩:=ki Hf.out ye Xq Vq;cases HG;replace Qi:=Na HB.out Qi;replace Oi:=Na HB.out Oi;replace Ni:=Na HB.out Ni;replace Mi:=Na HB.out Mi;replace Li:=Na HB.out Li;have XB:=ja.mk Ui;have YB:=ja.mk Si;clear Ui Si;replace Xq:=eq_true Xq;replace Vq:=eq_true Vq
             try go_wp2
             have Fb:=ja.mk (Ea oa.out);have Ib:=ja.mk (ta HB.out);clear oa HB;have oa:=Fb;have HB:=Ib;clear Fb Ib;have XI:0 ≤ (ye:Int):=Wa;have QI:ye < (Da.length:Int):=Wa;obtain ⟨KR,tD,dD,jZ,Ln,Kn,Jn,Gn,En,ux,zx⟩:=ki Hf.out ye XI QI;have Mw:=En;have Nw:=Gn;have Ow:=Jn;have Pw:=Kn;have Qw:=Ln;obtain rfl:kg=KR:=(by injection jZ);replace Ln:=Na HB.out Ln;replace Kn:=Na HB.out Kn;replace Jn:=Na HB.out Jn;replace Gn:=Na HB.out Gn;replace En:=Na HB.out En;have Ry:=ja.mk zx;have YG:=ja.mk ux;clear zx ux;replace XI:=eq_true XI;replace QI:=eq_true QI;refine fl (n:=12) (S:=fun w'=>w'.cell? ⟨ya,0,none⟩=some (.slice Ya Pa.length Za)∧w'.cell? ⟨ya,1,none⟩=some (.int .i64 Ka)∧w'.cell? ⟨ya,2,none⟩=some (.int .i64 Ga)∧w'.cell? ⟨ya,3,none⟩=some (.int .i64 Ia)∧w'.cell? ⟨ya,4,none⟩=some (.slice (some kg) Da.length Jb)∧w'.cell? (kg.add ((ye).toNat * 5))=some (.slice tD ((Aa Da ye).f0).length dD)∧w'.cell? ⟨(kg.add ((ye).toNat * 5)).block,(kg.add ((ye).toNat * 5)).off + 1,none⟩=some (.int .i64 ((Aa Da ye).f1))∧w'.cell? ⟨(kg.add ((ye).toNat * 5)).block,(kg.add ((ye).toNat * 5)).off + 2,none⟩=some (.int .i64 ((Aa Da ye).f2))∧w'.cell? ⟨(kg.add ((ye).toNat * 5)).block,(kg.add ((ye).toNat * 5)).off + 3,none⟩=some (.int .i64 ((Aa Da ye).f3))∧w'.cell? ⟨(kg.add ((ye).toNat * 5)).block,(kg.add ((ye).toNat * 5)).off + 4,none⟩=some (.int .i64 ((Aa Da ye).f4))) (ds:=[]) #[false,false,false,false,false,false,false,false,false,false,false,false] (by kernel_rfl) rfl rfl ⟨(ga oa.out 0).trans rfl,(ga oa.out 1).trans rfl,(ga oa.out 2).trans rfl,(ga oa.out 3).trans rfl,(ga oa.out 4).trans rfl,(Na HB.out Qw),(Na HB.out Pw),(Na HB.out Ow),(Na HB.out Nw),(Na HB.out Mw)⟩ (fun hHeld=>?_);refine Ci Va.OP Va.pK (fun Pf jv=>?_);generalize wr.drew=w39 at oa HB Ry Ln Kn Jn Gn En hHeld ⊢;refine Wc (i:=0) (N:=some 75) (v:=?_) (a':=?_) #[true,false,false,false,false,false,false,false,false,false,false,false] rfl rfl (Sc Pf.out (by kernel_rfl)) (fun _ _ _ h=>h) (Or.inl ⟨by rfl,?_⟩) ?_ ?_;rotate_left
             ·intro w';go_simp;with_reducible rfl
             rotate_left
             ·simp only [Act.put,List.setIfInBounds_toArray,List.set_cons_zero,List.set_cons_succ,Xb,Yb]
              rfl
             refine Wc (i:=1) (N:=some 76) (v:=?_) (a':=?_) #[true,true,false,false,false,false,false,false,false,false,false,false] rfl rfl (Sc Pf.out (by kernel_rfl)) (fun _ _ _ h=>h) (Or.inl ⟨by rfl,?_⟩) ?_ ?_;rotate_left
             ·intro w';go_simp;with_reducible rfl
             rotate_left
             ·simp only [Act.put,List.setIfInBounds_toArray,List.set_cons_zero,List.set_cons_succ,Xb,Yb]
              rfl
             refine Wc (i:=2) (N:=some 77) (v:=?_) (a':=?_) #[true,true,true,false,false,false,false,false,false,false,false,false] rfl rfl (Sc Pf.out (by kernel_rfl)) (fun _ _ _ h=>h) (Or.inl ⟨by rfl,?_⟩) ?_ ?_;rotate_left
             ·intro w';go_simp;with_reducible rfl
             rotate_left
             ·simp only [Act.put,List.setIfInBounds_toArray,List.set_cons_zero,List.set_cons_succ,Xb,Yb]
              rfl
             refine Wc (i:=4) (N:=some 79) (v:=?_) (a':=?_) #[true,true,true,false,true,false,false,false,false,false,false,false] rfl rfl (Sc Pf.out (by kernel_rfl)) (fun _ _ _ h=>h) (Or.inl ⟨by rfl,?_⟩) ?_ ?_;rotate_left
             ·intro w';go_simp;with_reducible rfl
             rotate_left
             ·simp only [Act.put,List.setIfInBounds_toArray,List.set_cons_zero,List.set_cons_succ,Xb,Yb]
              rfl
             refine Wc (i:=6) (N:=some 81) (v:=?_) (a':=?_) #[true,true,true,false,true,false,true,false,false,false,false,false] rfl rfl (Sc Pf.out (by kernel_rfl)) (fun _ _ _ h=>h) (Or.inl ⟨by rfl,?_⟩) ?_ ?_;rotate_left
             ·intro w';go_simp;with_reducible rfl
             rotate_left
             ·simp only [Act.put,List.setIfInBounds_toArray,List.set_cons_zero,List.set_cons_succ,Xb,Yb]
              rfl
             refine ug (i:=3) (N:=some 78) (v:=?_) (a':=?_) #[true,true,true,true,true,false,true,false,false,false,false,false] rfl rfl (Ue Pf.out jv.out (by kernel_rfl)) (fun _ _ _ h=>h) (Or.inl ⟨by rfl,?_⟩) hHeld ?_ ?_;rotate_left
             ·rintro w' ⟨s0,s1,s2,s3,s4,s5,s6,s7,s8,s9⟩;go_simp;with_reducible rfl
             rotate_left
             ·simp only [Act.put,List.setIfInBounds_toArray,List.set_cons_zero,List.set_cons_succ,Xb,Yb]
              rfl
             refine ug (i:=5) (N:=some 80) (v:=?_) (a':=?_) #[true,true,true,true,true,true,true,false,false,false,false,false] rfl rfl (Ue Pf.out jv.out (by kernel_rfl)) (fun _ _ _ h=>h) (Or.inl ⟨by rfl,?_⟩) hHeld ?_ ?_;rotate_left
             ·rintro w' ⟨s0,s1,s2,s3,s4,s5,s6,s7,s8,s9⟩;go_simp;with_reducible rfl
             rotate_left
             ·simp only [Act.put,List.setIfInBounds_toArray,List.set_cons_zero,List.set_cons_succ,Xb,Yb]
              rfl
             refine Wc (i:=7) (N:=some 82) (v:=?_) (a':=?_) #[true,true,true,true,true,true,true,true,false,false,false,false] rfl rfl (Sc Pf.out (by kernel_rfl)) (fun _ _ _ h=>h) (Or.inl ⟨by rfl,?_⟩) ?_ ?_;rotate_left
             ·intro w';go_simp;with_reducible rfl
             rotate_left
             ·simp only [Act.put,List.setIfInBounds_toArray,List.set_cons_zero,List.set_cons_succ,Xb,Yb]
              rfl
             refine ug (i:=8) (N:=some 83) (v:=?_) (a':=?_) #[true,true,true,true,true,true,true,true,true,false,false,false] rfl rfl (Ue Pf.out jv.out (by kernel_rfl)) (fun _ _ _ h=>h) (Or.inl ⟨by rfl,?_⟩) hHeld ?_ ?_;rotate_left
             ·rintro w' ⟨s0,s1,s2,s3,s4,s5,s6,s7,s8,s9⟩;go_simp;with_reducible rfl
             rotate_left
             ·simp only [Act.put,List.setIfInBounds_toArray,List.set_cons_zero,List.set_cons_succ,Xb,Yb]
              rfl
             refine Qv (i:=9) (N:=some 84) #[true,true,true,true,true,true,true,true,true,true,false,false] rfl rfl (br Pf.out (by kernel_rfl)) (by decide) (fun K hK=>?_);refine Ko Try.func71 (by kernel_rfl) rfl #[.agg #[.slice Ya Pa.length Za,.int .i64 Ka,.int .i64 Ga,.int .i64 Ia,.slice (some kg) Da.length Jb],.agg #[.slice tD ((Aa Da ye).f0).length dD,.int .i64 ((Aa Da ye).f1),.int .i64 ((Aa Da ye).f2),.int .i64 ((Aa Da ye).f3),.int .i64 ((Aa Da ye).f4)]] (by rfl) rfl rfl (by (try simp only [List.map_toArray,List.map_cons,List.map_nil]);first|done|rfl|(simp only [List.length_drop,List.length_take];rfl)) ?_;with_reducible refine (jc.calls k3 _ _ Pa Ka Ga Ia _ _ Da _ _ ((Aa Da ye).f0) ((Aa Da ye).f1) ((Aa Da ye).f2) ((Aa Da ye).f3) ((Aa Da ye).f4) false _ ?yc ?uc ?ud ?td ?Xt ?Wt A33.out).mono ?_
             (case yc=>repeat (first|exact (Kd.Ob qe.out HB.out)|(with_reducible refine Kd.Pb ?_ _)|(with_reducible refine Kd.Nb ?_ _)|(with_reducible refine Kd.Zb ?_)))
             (case uc=>exact Be.out)
             (case ud=>repeat (first|exact (Kd.Ob Hf.out HB.out)|(with_reducible refine Kd.Pb ?_ _)|(with_reducible refine Kd.Nb ?_ _)|(with_reducible refine Kd.Zb ?_)))
             (case td=>exact Tg.out)
             (case Xt=>repeat (first|exact (Kd.Ob Ry.out HB.out)|(with_reducible refine Kd.Pb ?_ _)|(with_reducible refine Kd.Nb ?_ _)|(with_reducible refine Kd.Zb ?_)))
             (case Wt=>exact YG.out)
             rintro e w40 ⟨rfl,hb⟩;refine ⟨_,rfl,?_⟩;have Fb:=ja.mk (Ua (g:=ya) (o:=.cells #[.slice Ya Pa.length Za,.int .i64 Ka,.int .i64 Ga,.int .i64 Ia,.slice (some kg) Da.length Jb] 30 (0,0)) (by (with_reducible repeat (first|refine Ba ?_ _|refine Ea ?_|refine Ca ?_ _));exact oa.out) hb);have Ib:=ja.mk (Qa (by repeat (first|(with_reducible first|exact HB.out|apply qa|apply ia|apply ta|refine ua ?_ Sa.out)|exact HB.out)) hb);clear oa HB;have oa:=Fb;have HB:=Ib;clear Fb Ib;(try clear hb);(try clear Hi);(try clear hk);(try clear hi);refine hK.out _ _ ⟨(ga oa.out 0).trans rfl,(ga oa.out 1).trans rfl,(ga oa.out 2).trans rfl,(ga oa.out 3).trans rfl,(ga oa.out 4).trans rfl,(Na HB.out Qw),(Na HB.out Pw),(Na HB.out Ow),(Na HB.out Nw),(Na HB.out Mw)⟩ (fun hHeld=>?_);clear hK K;refine Eo (a':=?_) ?_ ?_;rotate_left
             ·show Act.put _ (some 84) _=_
              simp only [Act.put,List.setIfInBounds_toArray,List.set_cons_zero,List.set_cons_succ,Xb,Yb]
              rfl
             refine Wc (i:=10) (N:=some 85) (v:=?_) (a':=?_) #[true,true,true,true,true,true,true,true,true,true,true,false] rfl rfl (Sc Pf.out (by kernel_rfl)) (fun _ _ _ h=>h) (Or.inl ⟨by rfl,?_⟩) ?_ ?_;rotate_left
             ·intro w';go_simp;with_reducible rfl
             rotate_left
             ·simp only [Act.put,List.setIfInBounds_toArray,List.set_cons_zero,List.set_cons_succ,Xb,Yb]
              rfl
             refine Wc (i:=11) (N:=some 86) (v:=?_) (a':=?_) #[true,true,true,true,true,true,true,true,true,true,true,true] rfl rfl (Sc Pf.out (by kernel_rfl)) (fun _ _ _ h=>h) (Or.inl ⟨by rfl,?_⟩) ?_ ?_;rotate_left
             ·intro w';go_simp;with_reducible rfl
             rotate_left
             ·simp only [Act.put,List.setIfInBounds_toArray,List.set_cons_zero,List.set_cons_succ,Xb,Yb]
              rfl
             refine Tp (Mm Pf.out (by kernel_rfl)) ?_
             try go_wp2
             go_ret;exact ⟨by first|rfl|(simp [Ma,La] <;> rfl)|(simp [*,Ma,La] <;> rfl),by repeat (first|(with_reducible first|exact HB.out|apply qa|apply ia|apply ta|refine ua ?_ Sa.out)|exact HB.out)⟩
          ·rw [if_neg oE] at H;exact absurd H (by simp)
         ·rw [if_neg Z1] at H;have g_:decide (ye < (Da.length:Int))=false:=decide_eq_false Z1;clear Z1;obtain rfl:=Option.some.inj H;have WM:wr.cell? ⟨ya,0,none⟩=some (.slice Ya Pa.length Za):=(ga oa.out 0).trans rfl;have VM:wr.cell? ⟨ya,1,none⟩=some (.int .i64 Ka):=(ga oa.out 1).trans rfl;have UM:wr.cell? ⟨ya,2,none⟩=some (.int .i64 Ga):=(ga oa.out 2).trans rfl;have TM:wr.cell? ⟨ya,3,none⟩=some (.int .i64 Ia):=(ga oa.out 3).trans rfl;have SM:wr.cell? ⟨ya,4,none⟩=some (.slice Vb Da.length Jb):=(ga oa.out 4).trans rfl;have QL:=aa oa.out 0;have PL:=aa oa.out 1;have OL:=aa oa.out 2;have NL:=aa oa.out 3;have ML:=aa oa.out 4;go_wp2;go_ret;exact ⟨by first|rfl|(simp [Ma,La] <;> rfl)|(simp [*,Ma,La] <;> rfl),by repeat (first|(with_reducible first|exact HB.out|apply qa|apply ia|apply ta|refine ua ?_ Sa.out)|exact HB.out)⟩
end Go.Proofs.Ytkigbdceceeenaa.P
end
