import Derived.Test.YtoomcmaifgkkfaaQRuler1
set_option maxHeartbeats 8000000
set_option maxRecDepth 100000
section
namespace Go.Proofs.Ytoomcmaifgkkfaa.P
open Go.RowKit Go.Proofs.Ia.Pb Go.Proofs.Ia.Ld Go.Proofs.Ia.De
set_option linter.unusedVariables false
set_option linter.unusedSimpArgs false
attribute [local go_sem] Bi zi Fj Ej mh jh Ai si
def jc.l0:Nat→Int→List Int→Int→Int→Int→List (jf)→List (jd)→Int→Int→Int→Int→Option (Bool)
 | 0,_,_,_,_,_,_,_,_,_,_,_=>none
 | k + 1,x5,Yc,Zc,Xc,Wc,dc,sg,ek,Ik,Dj,Cj=>if x5 < (sg.length:Int) then (if 0 ≤ x5 then ((yb.f k Yc Zc Xc Wc dc ((Ba sg x5).f0) ((Ba sg x5).f1) ((Ba sg x5).f2) ((Ba sg x5).f3) ((Ba sg x5).f4) ((Ba sg x5).f5) ((Ba sg x5).f6)).bind fun t104=>(if t104=true then (jc.l0 k (wrap64 (x5 + 1)) Yc Zc Xc Wc dc sg ek Ik Dj Cj) else (some false))) else (none)) else ((Za.f Dj 0 (wrap64 ((dc.length:Int) - 1))).bind fun t105=>((Za.f Ik 0 (wrap64 (Wc - 1))).bind fun t106=>(if ek=0 then (if t105=true then (if Ik=0 then (some (Cj == 0)) else (some false)) else (some false)) else (if ek=1 then (if t105=true then (if t106=true then ((Za.f Cj 0 (wrap64 ((dc.length:Int) - 1))).bind fun t107=>(some t107)) else (some false)) else (some false)) else (if ek=2 then (if t106=true then (if Dj=0 then (some (Cj == 0)) else (some false)) else (some false)) else (some false))))))
def jc.f (k:Nat) (Ma:List Int) (La:Int) (Na:Int) (Ka:Int) (Fa:List (jf)) (Rc:List (jd)) (Xb:Int) (Qb:Int) (Rb:Int) (tc:Int):Option (Bool):=jc.l0 k 0 Ma La Na Ka Fa Rc Xb Qb Rb tc
def jc.T4:Bool × List (List Nat × List Nat):=(true,[([],[]),([],[]),([1],[1]),([],[]),([2,3],[2,3]),([4],[4]),([0,5],[0,5]),([6],[6])])
def jc.B4:List Nat:=[0,0,2,0,14,30,63,127]
theorem jc.nT:Em .any (opsOf Try.f101 4)=jc.T4:=by kernel_rfl
theorem jc.GN:Yk jc.T4.2 jc.B4=true:=by kernel_rfl
theorem jc.calls (k:Nat) (qb:Option Addr) (mb:Nat) (Ma:List Int) (La:Int) (Na:Int) (Ka:Int) (Lb:Option Addr) (Fb:Nat) (Fa:List (jf)) (Pf:Option Addr) (Df:Nat) (Rc:List (jd)) (Xb:Int) (Qb:Int) (Rb:Int) (tc:Int) (r:Bool) (w:World) (Ae:Kd.C (Kd.int .i64) w qb Ma.length Ma) (we:Ma.length ≤ mb) (Uf:Kd.C Gp w Lb Fa.length Fa) (Lf:Fa.length ≤ Fb) (Fv:Kd.C Zf w Pf Rc.length Rc) (Gv:Rc.length ≤ Df) (h:jc.f k Ma La Na Ka Fa Rc Xb Qb Rb tc=some r) :
  Calls Try.prog 101 #[.agg #[.slice qb Ma.length mb,.int .i64 La,.int .i64 Na,.int .i64 Ka,.slice Lb Fa.length Fb],.agg #[.slice Pf Rc.length Df,.int .i64 Xb,.int .i64 Qb,.int .i64 Rb,.int .i64 tc]] w fun e w'=>e = .returned (.bool r)∧Below w.heap.size w w':=by
 have Oz:=Try.underlying45;have BB:=Try.underlying83;have MH:=Try.underlying122;have Ke:=ga.mk Ae;have Ve:=ga.mk we;clear Ae we;have kg:=ga.mk Uf;have Tg:=ga.mk Lf;clear Uf Lf;have eo:=ga.mk Fv;have zq:=ga.mk Gv;clear Fv Gv;have HB:=ga.mk (Below.refl w.heap.size w);have H:(jc.l0 k 0 Ma La Na Ka Fa Rc Xb Qb Rb tc)=some r:=h;clear h;have H':=ga.mk H;clear H;go_enter Try.func101,Try.ntmps101;go_wp2_with (first|((with_reducible refine Ab (N:=2) rfl ?_);(try (refine Me (by rfl) ?_;dsimp only));refine Kb ?hg (N:=2) ?hd (cs:=#[.slice qb Ma.length mb,.int .i64 La,.int .i64 Na,.int .i64 Ka,.slice Lb Fa.length Fb]) (t:=45) ?hr ?_;(case hd=>rfl);(case hg=>rfl);(case hr=>first|(go_simp;done)|(go_simp;rfl));intro za hg w3 Wb hb;have Eb:=ga.mk (Qa (by repeat (first|(with_reducible first|exact HB.out|apply oa|apply ia|apply qa)|exact HB.out)) hb);have Ib:=ga.mk (Wb);have Sb:=ga.mk ((by rw [hg];exact (Ja (by repeat (first|(with_reducible first|exact HB.out|apply oa|apply ia|apply qa)|exact HB.out))):w.heap.size ≤ za));have yc:=ga.mk ((by rw [hg];exact (Ja (by repeat (first|(with_reducible first|exact HB.out|apply oa|apply ia|apply qa)|exact HB.out))):w.heap.size ≤ za));clear HB;have HB:=Eb;have ta:=Ib;have Be:=Sb;have Sa:=yc;clear Eb Ib Sb yc hb Wb hg)|((with_reducible refine Ab (N:=3) rfl ?_);(try (refine Me (by rfl) ?_;dsimp only));refine Kb ?hg (N:=3) ?hd (cs:=#[.slice Pf Rc.length Df,.int .i64 Xb,.int .i64 Qb,.int .i64 Rb,.int .i64 tc]) (t:=83) ?hr ?_;(case hd=>rfl);(case hg=>rfl);(case hr=>first|(go_simp;done)|(go_simp;rfl));intro Ga hg w4 Wb hb;have Eb:=ga.mk (Wa (g:=za) (o:=.cells #[.slice qb Ma.length mb,.int .i64 La,.int .i64 Na,.int .i64 Ka,.slice Lb Fa.length Fb] 45 (0,0)) (by (with_reducible repeat (first|refine Ca ?_ _|refine Ea ?_|refine Da ?_ _));exact ta.out) hb);have Ib:=ga.mk (Qa (by repeat (first|(with_reducible first|exact HB.out|apply oa|apply ia|apply qa|refine ua ?_ Sa.out)|exact HB.out)) hb);have Sb:=ga.mk (Wb);have yc:=ga.mk ((by rw [hg];exact (Ja (by repeat (first|(with_reducible first|exact HB.out|apply oa|apply ia|apply qa|refine ua ?_ Sa.out)|exact HB.out))):w.heap.size ≤ Ga));have Ee:=ga.mk ((by rw [hg];exact (Ja (by repeat (first|(with_reducible first|exact HB.out|apply oa|apply ia|apply qa|refine ua ?_ Sa.out)|exact HB.out))):w.heap.size ≤ Ga));have mg:=ga.mk ((by rw [hg];exact Nat.ne_of_lt (Vc (g:=za) (o:=.cells #[.slice qb Ma.length mb,.int .i64 La,.int .i64 Na,.int .i64 Ka,.slice Lb Fa.length Fb] 45 (0,0)) (by (with_reducible repeat (first|refine Ca ?_ _|refine Ea ?_|refine Da ?_ _));exact ta.out)):za ≠ Ga));have di:=ga.mk ((by rw [hg];exact Nat.ne_of_gt (Vc (g:=za) (o:=.cells #[.slice qb Ma.length mb,.int .i64 La,.int .i64 Na,.int .i64 Ka,.slice Lb Fa.length Fb] 45 (0,0)) (by (with_reducible repeat (first|refine Ca ?_ _|refine Ea ?_|refine Da ?_ _));exact ta.out)):Ga ≠ za));clear ta HB;have ta:=Eb;have HB:=Ib;have ya:=Sb;have Nj:=yc;have uc:=Ee;have Db:=mg;have Cb:=di;clear Eb Ib Sb yc Ee mg di hb Wb hg))
 go_loopg [5] k (fun kq v5 w'=>∃ (Aa:Int),v5 = .int .i64 Aa∧ga (jc.l0 kq Aa Ma La Na Ka Fa Rc Xb Qb Rb tc=some r)∧ga (kq ≤ k)∧ga (w'.heap[za]? = some (.cells #[(.slice qb Ma.length mb),.int .i64 La,.int .i64 Na,.int .i64 Ka,(.slice Lb Fa.length Fb)] 45 (0,0)))∧ga (w'.heap[Ga]? = some (.cells #[(.slice Pf Rc.length Df),.int .i64 Xb,.int .i64 Qb,.int .i64 Rb,.int .i64 tc] 83 (0,0)))∧ga (Below w.heap.size w w'))
 case atStart=>exact ⟨(0),(by first|rfl|(simp;done)|(simp [*];done)),H',⟨Nat.le_refl _⟩,⟨by (with_reducible repeat (first|refine Ca ?_ _|refine Ea ?_|refine Da ?_ _));exact ta.out⟩,⟨by (with_reducible repeat (first|refine Ca ?_ _|refine Ea ?_|refine Da ?_ _));exact ya.out⟩,⟨by repeat (first|(with_reducible first|exact HB.out|apply oa|apply ia|apply qa|refine ua ?_ Sa.out|refine ua ?_ uc.out)|exact HB.out)⟩⟩
 case round =>
  clear H'
  try clear c1
  try clear p2
  (try clear HA);(try clear uf);(try clear ta);(try clear ya);(try clear HB);obtain ⟨Aa,rfl,HA,uf,ta,ya,HB⟩:=hrel;cases gk with
  | zero=>exact absurd HA.out (by simp [jc.l0])
  | succ k1 =>
   have H:=HA.out;clear HA;simp only [jc.l0] at H
   by_cases c5:Aa < (Rc.length:Int)
   ·rw [if_pos c5] at H;have qn:decide (Aa < (Rc.length:Int))=true:=decide_eq_true c5;clear c5
    by_cases c6:0 ≤ Aa
    ·rw [if_pos c6] at H;have bp:decide (0 ≤ Aa)=true:=decide_eq_true c6;clear c6;replace H:=Option.bind_eq_some_iff.mp H;obtain ⟨t104,mP,H⟩:=H;replace H:(if t104=true then (jc.l0 k1 (wrap64 (Aa + 1)) Ma La Na Ka Fa Rc Xb Qb Rb tc) else (some false))=some r:=H;have A7:=ga.mk mP;clear mP
     by_cases c8:t104=true
     ·subst c8;have H1:(jc.l0 k1 (wrap64 (Aa + 1)) Ma La Na Ka Fa Rc Xb Qb Rb tc)=some r:=by rw [if_pos rfl] at H;exact H
      clear H;have H:=H1;clear H1;have H':=ga.mk H;clear H;have tao:=Cb.out;have eao:=Db.out;have Wh:wr.cell? ⟨Ga,0,none⟩=some (.slice Pf Rc.length Df):=(ja ya.out 0).trans rfl;have Vh:wr.cell? ⟨Ga,1,none⟩=some (.int .i64 Xb):=(ja ya.out 1).trans rfl;have Uh:wr.cell? ⟨Ga,2,none⟩=some (.int .i64 Qb):=(ja ya.out 2).trans rfl;have Th:wr.cell? ⟨Ga,3,none⟩=some (.int .i64 Rb):=(ja ya.out 3).trans rfl;have Sh:wr.cell? ⟨Ga,4,none⟩=some (.int .i64 tc):=(ja ya.out 4).trans rfl;have Rh:=aa ya.out 0;have Qh:=aa ya.out 1;have Ph:=aa ya.out 2;have Oh:=aa ya.out 3;have Nh:=aa ya.out 4
      try go_wp2
      have Eb:=ga.mk (Ea ta.out);have Ib:=ga.mk (Ea ya.out);have Sb:=ga.mk (qa HB.out);clear ta ya HB;have ta:=Eb;have ya:=Ib;have HB:=Sb;clear Eb Ib Sb;have SJ:0 ≤ (Aa:Int):=of_decide_eq_true (by first|(with_reducible assumption)|assumption);have OJ:Aa < (Rc.length:Int):=of_decide_eq_true (by first|(with_reducible assumption)|assumption);obtain ⟨Lh,R4,Ho,Fo,Eo,Co,Bo,zo,yo⟩:=Ds eo.out Aa SJ OJ;have Uw:=yo;have Vw:=zo;have Ww:=Bo;have Xw:=Co;have Yw:=Eo;have Zw:=Fo;have ax:=Ho;cases R4;replace Ho:=Ra HB.out Ho;replace Fo:=Ra HB.out Fo;replace Eo:=Ra HB.out Eo;replace Co:=Ra HB.out Co;replace Bo:=Ra HB.out Bo;replace zo:=Ra HB.out zo;replace yo:=Ra HB.out yo;replace SJ:=eq_true SJ;replace OJ:=eq_true OJ;refine cl (n:=8) (S:=fun w'=>w'.cell? ⟨za,0,none⟩=some (.slice qb Ma.length mb)∧w'.cell? ⟨za,1,none⟩=some (.int .i64 La)∧w'.cell? ⟨za,2,none⟩=some (.int .i64 Na)∧w'.cell? ⟨za,3,none⟩=some (.int .i64 Ka)∧w'.cell? ⟨za,4,none⟩=some (.slice Lb Fa.length Fb)∧w'.cell? ⟨Ga,0,none⟩=some (.slice (some Lh) Rc.length Df)∧w'.cell? ⟨Ga,1,none⟩=some (.int .i64 Xb)∧w'.cell? ⟨Ga,2,none⟩=some (.int .i64 Qb)∧w'.cell? ⟨Ga,3,none⟩=some (.int .i64 Rb)∧w'.cell? ⟨Ga,4,none⟩=some (.int .i64 tc)∧w'.cell? (Lh.add ((Aa).toNat * 7))=some (.int .i64 ((Ba Rc Aa).f0))∧w'.cell? ⟨(Lh.add ((Aa).toNat * 7)).block,(Lh.add ((Aa).toNat * 7)).off + 1,none⟩=some (.int .i64 ((Ba Rc Aa).f1))∧w'.cell? ⟨(Lh.add ((Aa).toNat * 7)).block,(Lh.add ((Aa).toNat * 7)).off + 2,none⟩=some (.int .i64 ((Ba Rc Aa).f2))∧w'.cell? ⟨(Lh.add ((Aa).toNat * 7)).block,(Lh.add ((Aa).toNat * 7)).off + 3,none⟩=some (.int .i64 ((Ba Rc Aa).f3))∧w'.cell? ⟨(Lh.add ((Aa).toNat * 7)).block,(Lh.add ((Aa).toNat * 7)).off + 4,none⟩=some (.int .i64 ((Ba Rc Aa).f4))∧w'.cell? ⟨(Lh.add ((Aa).toNat * 7)).block,(Lh.add ((Aa).toNat * 7)).off + 5,none⟩=some (.int .i64 ((Ba Rc Aa).f5))∧w'.cell? ⟨(Lh.add ((Aa).toNat * 7)).block,(Lh.add ((Aa).toNat * 7)).off + 6,none⟩=some (.string ((Ba Rc Aa).f6))) (ds:=[]) #[false,false,false,false,false,false,false,false] (by kernel_rfl) rfl rfl ⟨(ja ta.out 0).trans rfl,(ja ta.out 1).trans rfl,(ja ta.out 2).trans rfl,(ja ta.out 3).trans rfl,(ja ta.out 4).trans rfl,(ja ya.out 0).trans rfl,(ja ya.out 1).trans rfl,(ja ya.out 2).trans rfl,(ja ya.out 3).trans rfl,(ja ya.out 4).trans rfl,(Ra HB.out ax),(Ra HB.out Zw),(Ra HB.out Yw),(Ra HB.out Xw),(Ra HB.out Ww),(Ra HB.out Vw),(Ra HB.out Uw)⟩ (fun hHeld=>?_);refine qi jc.nT jc.GN (fun Wf Hs=>?_);generalize wr.drew=uj at ta ya HB Ho Fo Eo Co Bo zo yo hHeld ⊢;refine Bd (i:=1) (N:=some 16) (v:=?_) (a':=?_) #[false,true,false,false,false,false,false,false] rfl rfl (Lc Wf.out (by kernel_rfl)) (fun _ _ _ h=>h) (Or.inl ⟨by rfl,?_⟩) ?_ ?_;rotate_left
      ·intro w';go_simp;with_reducible rfl
      rotate_left
      ·simp only [Act.put,List.setIfInBounds_toArray,List.set_cons_zero,List.set_cons_succ,fc,ic]
       rfl
      refine Bd (i:=3) (N:=some 18) (v:=?_) (a':=?_) #[false,true,false,true,false,false,false,false] rfl rfl (Lc Wf.out (by kernel_rfl)) (fun _ _ _ h=>h) (Or.inl ⟨by rfl,?_⟩) ?_ ?_;rotate_left
      ·intro w';go_simp;with_reducible rfl
      rotate_left
      ·simp only [Act.put,List.setIfInBounds_toArray,List.set_cons_zero,List.set_cons_succ,fc,ic]
       rfl
      refine th (i:=0) (N:=some 15) (v:=?_) (a':=?_) #[true,true,false,true,false,false,false,false] rfl rfl (Ze Wf.out Hs.out (by kernel_rfl)) (fun _ _ _ h=>h) (Or.inl ⟨by rfl,?_⟩) hHeld ?_ ?_;rotate_left
      ·rintro w' ⟨s0,s1,s2,s3,s4,s5,s6,s7,s8,s9,GJ,tT,rT,qT,D8,C8,y8⟩;go_simp;with_reducible rfl
      rotate_left
      ·simp only [Act.put,List.setIfInBounds_toArray,List.set_cons_zero,List.set_cons_succ,fc,ic]
       rfl
      refine th (i:=2) (N:=some 17) (v:=?_) (a':=?_) #[true,true,true,true,false,false,false,false] rfl rfl (Ze Wf.out Hs.out (by kernel_rfl)) (fun _ _ _ h=>h) (Or.inl ⟨by rfl,?_⟩) hHeld ?_ ?_;rotate_left
      ·rintro w' ⟨s0,s1,s2,s3,s4,s5,s6,s7,s8,s9,GJ,tT,rT,qT,D8,C8,y8⟩;go_simp;with_reducible rfl
      rotate_left
      ·simp only [Act.put,List.setIfInBounds_toArray,List.set_cons_zero,List.set_cons_succ,fc,ic]
       rfl
      refine Bd (i:=4) (N:=some 19) (v:=?_) (a':=?_) #[true,true,true,true,true,false,false,false] rfl rfl (Lc Wf.out (by kernel_rfl)) (fun _ _ _ h=>h) (Or.inl ⟨by rfl,?_⟩) ?_ ?_;rotate_left
      ·intro w';go_simp;with_reducible rfl
      rotate_left
      ·simp only [Act.put,List.setIfInBounds_toArray,List.set_cons_zero,List.set_cons_succ,fc,ic]
       rfl
      refine th (i:=5) (N:=some 20) (v:=?_) (a':=?_) #[true,true,true,true,true,true,false,false] rfl rfl (Ze Wf.out Hs.out (by kernel_rfl)) (fun _ _ _ h=>h) (Or.inl ⟨by rfl,?_⟩) hHeld ?_ ?_;rotate_left
      ·rintro w' ⟨s0,s1,s2,s3,s4,s5,s6,s7,s8,s9,GJ,tT,rT,qT,D8,C8,y8⟩;go_simp;with_reducible rfl
      rotate_left
      ·simp only [Act.put,List.setIfInBounds_toArray,List.set_cons_zero,List.set_cons_succ,fc,ic]
       rfl
      refine Dw (i:=6) (N:=some 21) #[true,true,true,true,true,true,true,false] rfl rfl (Ln Wf.out (by kernel_rfl)) (by decide) (fun K hK=>?_);refine Ts Try.func121 (by kernel_rfl) rfl #[.agg #[.slice qb Ma.length mb,.int .i64 La,.int .i64 Na,.int .i64 Ka,.slice Lb Fa.length Fb],.agg #[.int .i64 ((Ba Rc Aa).f0),.int .i64 ((Ba Rc Aa).f1),.int .i64 ((Ba Rc Aa).f2),.int .i64 ((Ba Rc Aa).f3),.int .i64 ((Ba Rc Aa).f4),.int .i64 ((Ba Rc Aa).f5),.string ((Ba Rc Aa).f6)]] (by rfl) rfl rfl (by (try simp only [List.map_toArray,List.map_cons,List.map_nil]);first|done|rfl|(simp only [List.length_drop,List.length_take];rfl)) ?_;with_reducible refine (yb.calls k1 _ _ Ma La Na Ka _ _ Fa ((Ba Rc Aa).f0) ((Ba Rc Aa).f1) ((Ba Rc Aa).f2) ((Ba Rc Aa).f3) ((Ba Rc Aa).f4) ((Ba Rc Aa).f5) ((Ba Rc Aa).f6) true _ ?Fc ?Ec ?Wd ?Vd A7.out).mono ?_
      (case Fc=>repeat (first|exact (Kd.Nb Ke.out HB.out)|(with_reducible refine Kd.Ub ?_ _)|(with_reducible refine Kd.Tb ?_ _)|(with_reducible refine Kd.mc ?_)))
      (case Ec=>exact Ve.out)
      (case Wd=>repeat (first|exact (Kd.Nb kg.out HB.out)|(with_reducible refine Kd.Ub ?_ _)|(with_reducible refine Kd.Tb ?_ _)|(with_reducible refine Kd.mc ?_)))
      (case Vd=>exact Tg.out)
      rintro e uz ⟨rfl,hb⟩;refine ⟨_,rfl,?_⟩;have Eb:=ga.mk (Wa (g:=za) (o:=.cells #[.slice qb Ma.length mb,.int .i64 La,.int .i64 Na,.int .i64 Ka,.slice Lb Fa.length Fb] 45 (0,0)) (by (with_reducible repeat (first|refine Ca ?_ _|refine Ea ?_|refine Da ?_ _));exact ta.out) hb);have Ib:=ga.mk (Wa (g:=Ga) (o:=.cells #[.slice (some Lh) Rc.length Df,.int .i64 Xb,.int .i64 Qb,.int .i64 Rb,.int .i64 tc] 83 (0,0)) (by (with_reducible repeat (first|refine Ca ?_ _|refine Ea ?_|refine Da ?_ _));exact ya.out) hb);have Sb:=ga.mk (Qa (by repeat (first|(with_reducible first|exact HB.out|apply oa|apply ia|apply qa|refine ua ?_ Sa.out|refine ua ?_ uc.out)|exact HB.out)) hb);clear ta ya HB;have ta:=Eb;have ya:=Ib;have HB:=Sb;clear Eb Ib Sb;(try clear hb);(try clear Qj);(try clear hk);(try clear hi);refine hK.out _ _ ⟨(ja ta.out 0).trans rfl,(ja ta.out 1).trans rfl,(ja ta.out 2).trans rfl,(ja ta.out 3).trans rfl,(ja ta.out 4).trans rfl,(ja ya.out 0).trans rfl,(ja ya.out 1).trans rfl,(ja ya.out 2).trans rfl,(ja ya.out 3).trans rfl,(ja ya.out 4).trans rfl,(Ra HB.out ax),(Ra HB.out Zw),(Ra HB.out Yw),(Ra HB.out Xw),(Ra HB.out Ww),(Ra HB.out Vw),(Ra HB.out Uw)⟩ (fun hHeld=>?_);clear hK K;refine Fp (a':=?_) ?_ ?_;rotate_left
      ·show Act.put _ (some 21) _=_
       simp only [Act.put,List.setIfInBounds_toArray,List.set_cons_zero,List.set_cons_succ,fc,ic]
       rfl
      refine Bd (i:=7) (N:=some 22) (v:=?_) (a':=?_) #[true,true,true,true,true,true,true,true] rfl rfl (Lc Wf.out (by kernel_rfl)) (fun _ _ _ h=>h) (Or.inl ⟨by rfl,?_⟩) ?_ ?_;rotate_left
      ·intro w';go_simp;with_reducible rfl
      rotate_left
      ·simp only [Act.put,List.setIfInBounds_toArray,List.set_cons_zero,List.set_cons_succ,fc,ic]
       rfl
      refine pq (Jk Wf.out (by kernel_rfl)) ?_
      try go_wp2
      go_roundg k1
      case measure=>have:=uf.out;omega
      case rel=>exact ⟨(wrap64 (Aa + 1)),(by first|rfl|(simp;done)|(simp [*];done)),H',⟨by have:=uf.out;omega⟩,⟨by (with_reducible repeat (first|refine Ca ?_ _|refine Ea ?_|refine Da ?_ _));exact ta.out⟩,⟨by (with_reducible repeat (first|refine Ca ?_ _|refine Ea ?_|refine Da ?_ _));exact ya.out⟩,⟨by repeat (first|(with_reducible first|exact HB.out|apply oa|apply ia|apply qa|refine ua ?_ Sa.out|refine ua ?_ uc.out)|exact HB.out)⟩⟩
     ·replace c8:=Bool.eq_false_iff.mpr c8;subst c8;have H1:(some false)=some r:=by rw [if_neg (show ¬ (false=true) by decide)] at H;exact H
      clear H;have H:=H1;clear H1;obtain rfl:=Option.some.inj H;have Mat:=Cb.out;have Xas:=Db.out;have Mr:wr.cell? ⟨Ga,0,none⟩=some (.slice Pf Rc.length Df):=(ja ya.out 0).trans rfl;have Lr:wr.cell? ⟨Ga,1,none⟩=some (.int .i64 Xb):=(ja ya.out 1).trans rfl;have Kr:wr.cell? ⟨Ga,2,none⟩=some (.int .i64 Qb):=(ja ya.out 2).trans rfl;have Jr:wr.cell? ⟨Ga,3,none⟩=some (.int .i64 Rb):=(ja ya.out 3).trans rfl;have Ir:wr.cell? ⟨Ga,4,none⟩=some (.int .i64 tc):=(ja ya.out 4).trans rfl;have Br:=aa ya.out 0;have vr:=aa ya.out 1;have ur:=aa ya.out 2;have tr:=aa ya.out 3;have sr:=aa ya.out 4
      try go_wp2
      have Eb:=ga.mk (Ea ta.out);have Ib:=ga.mk (Ea ya.out);have Sb:=ga.mk (qa HB.out);clear ta ya HB;have ta:=Eb;have ya:=Ib;have HB:=Sb;clear Eb Ib Sb;have SJ:0 ≤ (Aa:Int):=of_decide_eq_true (by first|(with_reducible assumption)|assumption);have OJ:Aa < (Rc.length:Int):=of_decide_eq_true (by first|(with_reducible assumption)|assumption);obtain ⟨Lh,R4,Ho,Fo,Eo,Co,Bo,zo,yo⟩:=Ds eo.out Aa SJ OJ;have Uw:=yo;have Vw:=zo;have Ww:=Bo;have Xw:=Co;have Yw:=Eo;have Zw:=Fo;have ax:=Ho;cases R4;replace Ho:=Ra HB.out Ho;replace Fo:=Ra HB.out Fo;replace Eo:=Ra HB.out Eo;replace Co:=Ra HB.out Co;replace Bo:=Ra HB.out Bo;replace zo:=Ra HB.out zo;replace yo:=Ra HB.out yo;replace SJ:=eq_true SJ;replace OJ:=eq_true OJ;refine cl (n:=8) (S:=fun w'=>w'.cell? ⟨za,0,none⟩=some (.slice qb Ma.length mb)∧w'.cell? ⟨za,1,none⟩=some (.int .i64 La)∧w'.cell? ⟨za,2,none⟩=some (.int .i64 Na)∧w'.cell? ⟨za,3,none⟩=some (.int .i64 Ka)∧w'.cell? ⟨za,4,none⟩=some (.slice Lb Fa.length Fb)∧w'.cell? ⟨Ga,0,none⟩=some (.slice (some Lh) Rc.length Df)∧w'.cell? ⟨Ga,1,none⟩=some (.int .i64 Xb)∧w'.cell? ⟨Ga,2,none⟩=some (.int .i64 Qb)∧w'.cell? ⟨Ga,3,none⟩=some (.int .i64 Rb)∧w'.cell? ⟨Ga,4,none⟩=some (.int .i64 tc)∧w'.cell? (Lh.add ((Aa).toNat * 7))=some (.int .i64 ((Ba Rc Aa).f0))∧w'.cell? ⟨(Lh.add ((Aa).toNat * 7)).block,(Lh.add ((Aa).toNat * 7)).off + 1,none⟩=some (.int .i64 ((Ba Rc Aa).f1))∧w'.cell? ⟨(Lh.add ((Aa).toNat * 7)).block,(Lh.add ((Aa).toNat * 7)).off + 2,none⟩=some (.int .i64 ((Ba Rc Aa).f2))∧w'.cell? ⟨(Lh.add ((Aa).toNat * 7)).block,(Lh.add ((Aa).toNat * 7)).off + 3,none⟩=some (.int .i64 ((Ba Rc Aa).f3))∧w'.cell? ⟨(Lh.add ((Aa).toNat * 7)).block,(Lh.add ((Aa).toNat * 7)).off + 4,none⟩=some (.int .i64 ((Ba Rc Aa).f4))∧w'.cell? ⟨(Lh.add ((Aa).toNat * 7)).block,(Lh.add ((Aa).toNat * 7)).off + 5,none⟩=some (.int .i64 ((Ba Rc Aa).f5))∧w'.cell? ⟨(Lh.add ((Aa).toNat * 7)).block,(Lh.add ((Aa).toNat * 7)).off + 6,none⟩=some (.string ((Ba Rc Aa).f6))) (ds:=[]) #[false,false,false,false,false,false,false,false] (by kernel_rfl) rfl rfl ⟨(ja ta.out 0).trans rfl,(ja ta.out 1).trans rfl,(ja ta.out 2).trans rfl,(ja ta.out 3).trans rfl,(ja ta.out 4).trans rfl,(ja ya.out 0).trans rfl,(ja ya.out 1).trans rfl,(ja ya.out 2).trans rfl,(ja ya.out 3).trans rfl,(ja ya.out 4).trans rfl,(Ra HB.out ax),(Ra HB.out Zw),(Ra HB.out Yw),(Ra HB.out Xw),(Ra HB.out Ww),(Ra HB.out Vw),(Ra HB.out Uw)⟩ (fun hHeld=>?_);refine qi jc.nT jc.GN (fun Wf Hs=>?_);generalize wr.drew=Iq at ta ya HB Ho Fo Eo Co Bo zo yo hHeld ⊢;refine Bd (i:=1) (N:=some 16) (v:=?_) (a':=?_) #[false,true,false,false,false,false,false,false] rfl rfl (Lc Wf.out (by kernel_rfl)) (fun _ _ _ h=>h) (Or.inl ⟨by rfl,?_⟩) ?_ ?_;rotate_left
      ·intro w';go_simp;with_reducible rfl
      rotate_left
      ·simp only [Act.put,List.setIfInBounds_toArray,List.set_cons_zero,List.set_cons_succ,fc,ic]
       rfl
      refine Bd (i:=3) (N:=some 18) (v:=?_) (a':=?_) #[false,true,false,true,false,false,false,false] rfl rfl (Lc Wf.out (by kernel_rfl)) (fun _ _ _ h=>h) (Or.inl ⟨by rfl,?_⟩) ?_ ?_;rotate_left
      ·intro w';go_simp;with_reducible rfl
      rotate_left
      ·simp only [Act.put,List.setIfInBounds_toArray,List.set_cons_zero,List.set_cons_succ,fc,ic]
       rfl
      refine th (i:=0) (N:=some 15) (v:=?_) (a':=?_) #[true,true,false,true,false,false,false,false] rfl rfl (Ze Wf.out Hs.out (by kernel_rfl)) (fun _ _ _ h=>h) (Or.inl ⟨by rfl,?_⟩) hHeld ?_ ?_;rotate_left
      ·rintro w' ⟨s0,s1,s2,s3,s4,s5,s6,s7,s8,s9,GJ,tT,rT,qT,D8,C8,y8⟩;go_simp;with_reducible rfl
      rotate_left
      ·simp only [Act.put,List.setIfInBounds_toArray,List.set_cons_zero,List.set_cons_succ,fc,ic]
       rfl
      refine th (i:=2) (N:=some 17) (v:=?_) (a':=?_) #[true,true,true,true,false,false,false,false] rfl rfl (Ze Wf.out Hs.out (by kernel_rfl)) (fun _ _ _ h=>h) (Or.inl ⟨by rfl,?_⟩) hHeld ?_ ?_;rotate_left
      ·rintro w' ⟨s0,s1,s2,s3,s4,s5,s6,s7,s8,s9,GJ,tT,rT,qT,D8,C8,y8⟩;go_simp;with_reducible rfl
      rotate_left
      ·simp only [Act.put,List.setIfInBounds_toArray,List.set_cons_zero,List.set_cons_succ,fc,ic]
       rfl
      refine Bd (i:=4) (N:=some 19) (v:=?_) (a':=?_) #[true,true,true,true,true,false,false,false] rfl rfl (Lc Wf.out (by kernel_rfl)) (fun _ _ _ h=>h) (Or.inl ⟨by rfl,?_⟩) ?_ ?_;rotate_left
      ·intro w';go_simp;with_reducible rfl
      rotate_left
      ·simp only [Act.put,List.setIfInBounds_toArray,List.set_cons_zero,List.set_cons_succ,fc,ic]
       rfl
      refine th (i:=5) (N:=some 20) (v:=?_) (a':=?_) #[true,true,true,true,true,true,false,false] rfl rfl (Ze Wf.out Hs.out (by kernel_rfl)) (fun _ _ _ h=>h) (Or.inl ⟨by rfl,?_⟩) hHeld ?_ ?_;rotate_left
      ·rintro w' ⟨s0,s1,s2,s3,s4,s5,s6,s7,s8,s9,GJ,tT,rT,qT,D8,C8,y8⟩;go_simp;with_reducible rfl
      rotate_left
      ·simp only [Act.put,List.setIfInBounds_toArray,List.set_cons_zero,List.set_cons_succ,fc,ic]
       rfl
      refine Dw (i:=6) (N:=some 21) #[true,true,true,true,true,true,true,false] rfl rfl (Ln Wf.out (by kernel_rfl)) (by decide) (fun K hK=>?_);refine Ts Try.func121 (by kernel_rfl) rfl #[.agg #[.slice qb Ma.length mb,.int .i64 La,.int .i64 Na,.int .i64 Ka,.slice Lb Fa.length Fb],.agg #[.int .i64 ((Ba Rc Aa).f0),.int .i64 ((Ba Rc Aa).f1),.int .i64 ((Ba Rc Aa).f2),.int .i64 ((Ba Rc Aa).f3),.int .i64 ((Ba Rc Aa).f4),.int .i64 ((Ba Rc Aa).f5),.string ((Ba Rc Aa).f6)]] (by rfl) rfl rfl (by (try simp only [List.map_toArray,List.map_cons,List.map_nil]);first|done|rfl|(simp only [List.length_drop,List.length_take];rfl)) ?_;with_reducible refine (yb.calls k1 _ _ Ma La Na Ka _ _ Fa ((Ba Rc Aa).f0) ((Ba Rc Aa).f1) ((Ba Rc Aa).f2) ((Ba Rc Aa).f3) ((Ba Rc Aa).f4) ((Ba Rc Aa).f5) ((Ba Rc Aa).f6) false _ ?Fc ?Ec ?Wd ?Vd A7.out).mono ?_
      (case Fc=>repeat (first|exact (Kd.Nb Ke.out HB.out)|(with_reducible refine Kd.Ub ?_ _)|(with_reducible refine Kd.Tb ?_ _)|(with_reducible refine Kd.mc ?_)))
      (case Ec=>exact Ve.out)
      (case Wd=>repeat (first|exact (Kd.Nb kg.out HB.out)|(with_reducible refine Kd.Ub ?_ _)|(with_reducible refine Kd.Tb ?_ _)|(with_reducible refine Kd.mc ?_)))
      (case Vd=>exact Tg.out)
      rintro e aD ⟨rfl,hb⟩;refine ⟨_,rfl,?_⟩;have Eb:=ga.mk (Wa (g:=za) (o:=.cells #[.slice qb Ma.length mb,.int .i64 La,.int .i64 Na,.int .i64 Ka,.slice Lb Fa.length Fb] 45 (0,0)) (by (with_reducible repeat (first|refine Ca ?_ _|refine Ea ?_|refine Da ?_ _));exact ta.out) hb);have Ib:=ga.mk (Wa (g:=Ga) (o:=.cells #[.slice (some Lh) Rc.length Df,.int .i64 Xb,.int .i64 Qb,.int .i64 Rb,.int .i64 tc] 83 (0,0)) (by (with_reducible repeat (first|refine Ca ?_ _|refine Ea ?_|refine Da ?_ _));exact ya.out) hb);have Sb:=ga.mk (Qa (by repeat (first|(with_reducible first|exact HB.out|apply oa|apply ia|apply qa|refine ua ?_ Sa.out|refine ua ?_ uc.out)|exact HB.out)) hb);clear ta ya HB;have ta:=Eb;have ya:=Ib;have HB:=Sb;clear Eb Ib Sb;(try clear hb);(try clear Qj);(try clear hk);(try clear hi);refine hK.out _ _ ⟨(ja ta.out 0).trans rfl,(ja ta.out 1).trans rfl,(ja ta.out 2).trans rfl,(ja ta.out 3).trans rfl,(ja ta.out 4).trans rfl,(ja ya.out 0).trans rfl,(ja ya.out 1).trans rfl,(ja ya.out 2).trans rfl,(ja ya.out 3).trans rfl,(ja ya.out 4).trans rfl,(Ra HB.out ax),(Ra HB.out Zw),(Ra HB.out Yw),(Ra HB.out Xw),(Ra HB.out Ww),(Ra HB.out Vw),(Ra HB.out Uw)⟩ (fun hHeld=>?_);clear hK K;refine Fp (a':=?_) ?_ ?_;rotate_left
      ·show Act.put _ (some 21) _=_
       simp only [Act.put,List.setIfInBounds_toArray,List.set_cons_zero,List.set_cons_succ,fc,ic]
       rfl
      refine Bd (i:=7) (N:=some 22) (v:=?_) (a':=?_) #[true,true,true,true,true,true,true,true] rfl rfl (Lc Wf.out (by kernel_rfl)) (fun _ _ _ h=>h) (Or.inl ⟨by rfl,?_⟩) ?_ ?_;rotate_left
      ·intro w';go_simp;with_reducible rfl
      rotate_left
      ·simp only [Act.put,List.setIfInBounds_toArray,List.set_cons_zero,List.set_cons_succ,fc,ic]
       rfl
      refine pq (Jk Wf.out (by kernel_rfl)) ?_
      try go_wp2
      go_ret;exact ⟨by first|rfl|(simp [Pa,Oa] <;> rfl)|(simp [*,Pa,Oa] <;> rfl),by repeat (first|(with_reducible first|exact HB.out|apply oa|apply ia|apply qa|refine ua ?_ Sa.out|refine ua ?_ uc.out)|exact HB.out)⟩
    ·rw [if_neg c6] at H;exact absurd H (by simp)
   ·rw [if_neg c5] at H;have qn:decide (Aa < (Rc.length:Int))=false:=decide_eq_false c5;clear c5;replace H:=Option.bind_eq_some_iff.mp H;obtain ⟨t105,PS,H⟩:=H;replace H:((Za.f Qb 0 (wrap64 (Ka - 1))).bind fun t106=>(if Xb=0 then (if t105=true then (if Qb=0 then (some (tc == 0)) else (some false)) else (some false)) else (if Xb=1 then (if t105=true then (if t106=true then ((Za.f tc 0 (wrap64 ((Fa.length:Int) - 1))).bind fun t107=>(some t107)) else (some false)) else (some false)) else (if Xb=2 then (if t106=true then (if Rb=0 then (some (tc == 0)) else (some false)) else (some false)) else (some false)))))=some r:=H;have uP:=ga.mk PS;clear PS;replace H:=Option.bind_eq_some_iff.mp H;obtain ⟨t106,gaf,H⟩:=H;replace H:(if Xb=0 then (if t105=true then (if Qb=0 then (some (tc == 0)) else (some false)) else (some false)) else (if Xb=1 then (if t105=true then (if t106=true then ((Za.f tc 0 (wrap64 ((Fa.length:Int) - 1))).bind fun t107=>(some t107)) else (some false)) else (some false)) else (if Xb=2 then (if t106=true then (if Rb=0 then (some (tc == 0)) else (some false)) else (some false)) else (some false))))=some r:=H;have iT:=ga.mk gaf;clear gaf
    by_cases xp:Xb=0
    ·rw [if_pos xp] at H;have Iv:(Xb == 0)=true:=beq_iff_eq.mpr xp;have xD:(Xb != 0)=false:=bne_eq_false_iff_eq.mpr xp;clear xp
     by_cases Jq:t105=true
     ·subst Jq;have H1:(if Qb=0 then (some (tc == 0)) else (some false))=some r:=by rw [if_pos rfl] at H;exact H
      clear H;have H:=H1;clear H1
      by_cases qt:Qb=0
      ·rw [if_pos qt] at H;have vD:(Qb == 0)=true:=beq_iff_eq.mpr qt;have Wac:(Qb != 0)=false:=bne_eq_false_iff_eq.mpr qt;clear qt;obtain rfl:=Option.some.inj H;have D9:=Cb.out;have k9:=Db.out;have gq:wr.cell? ⟨Ga,0,none⟩=some (.slice Pf Rc.length Df):=(ja ya.out 0).trans rfl;have fq:wr.cell? ⟨Ga,1,none⟩=some (.int .i64 Xb):=(ja ya.out 1).trans rfl;have cq:wr.cell? ⟨Ga,2,none⟩=some (.int .i64 Qb):=(ja ya.out 2).trans rfl;have bq:wr.cell? ⟨Ga,3,none⟩=some (.int .i64 Rb):=(ja ya.out 3).trans rfl;have aq:wr.cell? ⟨Ga,4,none⟩=some (.int .i64 tc):=(ja ya.out 4).trans rfl;have Tp:=aa ya.out 0;have Sp:=aa ya.out 1;have Rp:=aa ya.out 2;have Qp:=aa ya.out 3;have Pp:=aa ya.out 4;have Ux:wr.cell? ⟨za,0,none⟩=some (.slice qb Ma.length mb):=(ja ta.out 0).trans rfl;have Tx:wr.cell? ⟨za,1,none⟩=some (.int .i64 La):=(ja ta.out 1).trans rfl;have Rx:wr.cell? ⟨za,2,none⟩=some (.int .i64 Na):=(ja ta.out 2).trans rfl;have Qx:wr.cell? ⟨za,3,none⟩=some (.int .i64 Ka):=(ja ta.out 3).trans rfl;have Px:wr.cell? ⟨za,4,none⟩=some (.slice Lb Fa.length Fb):=(ja ta.out 4).trans rfl;have Dx:=aa ta.out 0;have Cx:=aa ta.out 1;have Bx:=aa ta.out 2;have Ax:=aa ta.out 3;have zx:=aa ta.out 4;go_wp2_with (first|((with_reducible refine zb (f:=81) rfl ?_);refine Pc (some 29) rfl rfl Try.func81 (by kernel_rfl) rfl #[.int .i64 Rb,.int .i64 0,.int .i64 (wrap64 ((Fa.length:Int) - 1))] rfl (by (try simp only [List.map_toArray,List.map_cons,List.map_nil]);first|done|rfl|(simp only [List.length_drop,List.length_take];rfl)) ?_;(with_reducible refine (Za.calls Rb 0 (wrap64 ((Fa.length:Int) - 1)) true _ uP.out).mono ?_);rintro e w' ⟨rfl,⟨nd,rfl⟩⟩;refine ⟨_,rfl,?_⟩)|((with_reducible refine zb (f:=81) rfl ?_);refine Pc (some 35) rfl rfl Try.func81 (by kernel_rfl) rfl #[.int .i64 Qb,.int .i64 0,.int .i64 (wrap64 (Ka - 1))] rfl (by (try simp only [List.map_toArray,List.map_cons,List.map_nil]);first|done|rfl|(simp only [List.length_drop,List.length_take];rfl)) ?_;(with_reducible refine (Za.calls Qb 0 (wrap64 (Ka - 1)) t106 _ iT.out).mono ?_);rintro e w' ⟨rfl,⟨nd,rfl⟩⟩;refine ⟨_,rfl,?_⟩));go_ret;exact ⟨by first|rfl|(simp [Pa,Oa] <;> rfl)|(simp [*,Pa,Oa] <;> rfl),by repeat (first|(with_reducible first|exact HB.out|apply oa|apply ia|apply qa|refine ua ?_ Sa.out|refine ua ?_ uc.out)|exact HB.out)⟩
      ·rw [if_neg qt] at H;have vD:(Qb == 0)=false:=beq_eq_false_iff_ne.mpr qt;have Wac:(Qb != 0)=true:=bne_iff_ne.mpr qt;obtain rfl:=Option.some.inj H;have B9:=Cb.out;have e9:=Db.out;have Lu:wr.cell? ⟨Ga,0,none⟩=some (.slice Pf Rc.length Df):=(ja ya.out 0).trans rfl;have Ku:wr.cell? ⟨Ga,1,none⟩=some (.int .i64 Xb):=(ja ya.out 1).trans rfl;have Ju:wr.cell? ⟨Ga,2,none⟩=some (.int .i64 Qb):=(ja ya.out 2).trans rfl;have Iu:wr.cell? ⟨Ga,3,none⟩=some (.int .i64 Rb):=(ja ya.out 3).trans rfl;have Hu:wr.cell? ⟨Ga,4,none⟩=some (.int .i64 tc):=(ja ya.out 4).trans rfl;have wu:=aa ya.out 0;have vu:=aa ya.out 1;have uu:=aa ya.out 2;have tu:=aa ya.out 3;have su:=aa ya.out 4;have TA:wr.cell? ⟨za,0,none⟩=some (.slice qb Ma.length mb):=(ja ta.out 0).trans rfl;have SA:wr.cell? ⟨za,1,none⟩=some (.int .i64 La):=(ja ta.out 1).trans rfl;have QA:wr.cell? ⟨za,2,none⟩=some (.int .i64 Na):=(ja ta.out 2).trans rfl;have PA:wr.cell? ⟨za,3,none⟩=some (.int .i64 Ka):=(ja ta.out 3).trans rfl;have OA:wr.cell? ⟨za,4,none⟩=some (.slice Lb Fa.length Fb):=(ja ta.out 4).trans rfl;have xA:=aa ta.out 0;have vA:=aa ta.out 1;have uA:=aa ta.out 2;have tA:=aa ta.out 3;have sA:=aa ta.out 4;go_wp2_with (first|((with_reducible refine zb (f:=81) rfl ?_);refine Pc (some 29) rfl rfl Try.func81 (by kernel_rfl) rfl #[.int .i64 Rb,.int .i64 0,.int .i64 (wrap64 ((Fa.length:Int) - 1))] rfl (by (try simp only [List.map_toArray,List.map_cons,List.map_nil]);first|done|rfl|(simp only [List.length_drop,List.length_take];rfl)) ?_;(with_reducible refine (Za.calls Rb 0 (wrap64 ((Fa.length:Int) - 1)) true _ uP.out).mono ?_);rintro e w' ⟨rfl,⟨nd,rfl⟩⟩;refine ⟨_,rfl,?_⟩)|((with_reducible refine zb (f:=81) rfl ?_);refine Pc (some 35) rfl rfl Try.func81 (by kernel_rfl) rfl #[.int .i64 Qb,.int .i64 0,.int .i64 (wrap64 (Ka - 1))] rfl (by (try simp only [List.map_toArray,List.map_cons,List.map_nil]);first|done|rfl|(simp only [List.length_drop,List.length_take];rfl)) ?_;(with_reducible refine (Za.calls Qb 0 (wrap64 (Ka - 1)) t106 _ iT.out).mono ?_);rintro e w' ⟨rfl,⟨nd,rfl⟩⟩;refine ⟨_,rfl,?_⟩));go_ret;exact ⟨by first|rfl|(simp [Pa,Oa] <;> rfl)|(simp [*,Pa,Oa] <;> rfl),by repeat (first|(with_reducible first|exact HB.out|apply oa|apply ia|apply qa|refine ua ?_ Sa.out|refine ua ?_ uc.out)|exact HB.out)⟩
     ·replace Jq:=Bool.eq_false_iff.mpr Jq;subst Jq;have H1:(some false)=some r:=by rw [if_neg (show ¬ (false=true) by decide)] at H;exact H
      clear H;have H:=H1;clear H1;obtain rfl:=Option.some.inj H;have Fat:=Cb.out;have Qas:=Db.out;have nN:wr.cell? ⟨Ga,0,none⟩=some (.slice Pf Rc.length Df):=(ja ya.out 0).trans rfl;have mN:wr.cell? ⟨Ga,1,none⟩=some (.int .i64 Xb):=(ja ya.out 1).trans rfl;have lN:wr.cell? ⟨Ga,2,none⟩=some (.int .i64 Qb):=(ja ya.out 2).trans rfl;have kN:wr.cell? ⟨Ga,3,none⟩=some (.int .i64 Rb):=(ja ya.out 3).trans rfl;have jN:wr.cell? ⟨Ga,4,none⟩=some (.int .i64 tc):=(ja ya.out 4).trans rfl;have xM:=aa ya.out 0;have wM:=aa ya.out 1;have vM:=aa ya.out 2;have uM:=aa ya.out 3;have sM:=aa ya.out 4;have NA:wr.cell? ⟨za,0,none⟩=some (.slice qb Ma.length mb):=(ja ta.out 0).trans rfl;have MA:wr.cell? ⟨za,1,none⟩=some (.int .i64 La):=(ja ta.out 1).trans rfl;have LA:wr.cell? ⟨za,2,none⟩=some (.int .i64 Na):=(ja ta.out 2).trans rfl;have KA:wr.cell? ⟨za,3,none⟩=some (.int .i64 Ka):=(ja ta.out 3).trans rfl;have JA:wr.cell? ⟨za,4,none⟩=some (.slice Lb Fa.length Fb):=(ja ta.out 4).trans rfl;have rA:=aa ta.out 0;have qA:=aa ta.out 1;have oA:=aa ta.out 2;have nA:=aa ta.out 3;have mA:=aa ta.out 4;go_wp2_with (first|((with_reducible refine zb (f:=81) rfl ?_);refine Pc (some 29) rfl rfl Try.func81 (by kernel_rfl) rfl #[.int .i64 Rb,.int .i64 0,.int .i64 (wrap64 ((Fa.length:Int) - 1))] rfl (by (try simp only [List.map_toArray,List.map_cons,List.map_nil]);first|done|rfl|(simp only [List.length_drop,List.length_take];rfl)) ?_;(with_reducible refine (Za.calls Rb 0 (wrap64 ((Fa.length:Int) - 1)) false _ uP.out).mono ?_);rintro e w' ⟨rfl,⟨nd,rfl⟩⟩;refine ⟨_,rfl,?_⟩)|((with_reducible refine zb (f:=81) rfl ?_);refine Pc (some 35) rfl rfl Try.func81 (by kernel_rfl) rfl #[.int .i64 Qb,.int .i64 0,.int .i64 (wrap64 (Ka - 1))] rfl (by (try simp only [List.map_toArray,List.map_cons,List.map_nil]);first|done|rfl|(simp only [List.length_drop,List.length_take];rfl)) ?_;(with_reducible refine (Za.calls Qb 0 (wrap64 (Ka - 1)) t106 _ iT.out).mono ?_);rintro e w' ⟨rfl,⟨nd,rfl⟩⟩;refine ⟨_,rfl,?_⟩));go_ret;exact ⟨by first|rfl|(simp [Pa,Oa] <;> rfl)|(simp [*,Pa,Oa] <;> rfl),by repeat (first|(with_reducible first|exact HB.out|apply oa|apply ia|apply qa|refine ua ?_ Sa.out|refine ua ?_ uc.out)|exact HB.out)⟩
    ·rw [if_neg xp] at H;have Iv:(Xb == 0)=false:=beq_eq_false_iff_ne.mpr xp;have xD:(Xb != 0)=true:=bne_iff_ne.mpr xp
     by_cases FN:Xb=1
     ·rw [if_pos FN] at H;have ZR:(Xb == 1)=true:=beq_iff_eq.mpr FN;have Sac:(Xb != 1)=false:=bne_eq_false_iff_eq.mpr FN;clear FN
      by_cases fP:t105=true
      ·subst fP;have H1:(if t106=true then ((Za.f tc 0 (wrap64 ((Fa.length:Int) - 1))).bind fun t107=>(some t107)) else (some false))=some r:=by rw [if_pos rfl] at H;exact H
       clear H;have H:=H1;clear H1
       by_cases KI:t106=true
       ·subst KI;have H1:((Za.f tc 0 (wrap64 ((Fa.length:Int) - 1))).bind fun t107=>(some t107))=some r:=by rw [if_pos rfl] at H;exact H
        clear H;have H:=H1;clear H1;replace H:=Option.bind_eq_some_iff.mp H;obtain ⟨t107,Yae,H⟩:=H;replace H:(some t107)=some r:=H;have A34:=ga.mk Yae;clear Yae;obtain rfl:=Option.some.inj H;have y9:=Cb.out;have Y8:=Db.out;have PF:wr.cell? ⟨Ga,0,none⟩=some (.slice Pf Rc.length Df):=(ja ya.out 0).trans rfl;have NF:wr.cell? ⟨Ga,1,none⟩=some (.int .i64 Xb):=(ja ya.out 1).trans rfl;have MF:wr.cell? ⟨Ga,2,none⟩=some (.int .i64 Qb):=(ja ya.out 2).trans rfl;have LF:wr.cell? ⟨Ga,3,none⟩=some (.int .i64 Rb):=(ja ya.out 3).trans rfl;have KF:wr.cell? ⟨Ga,4,none⟩=some (.int .i64 tc):=(ja ya.out 4).trans rfl;have ME:=aa ya.out 0;have KE:=aa ya.out 1;have JE:=aa ya.out 2;have IE:=aa ya.out 3;have FE:=aa ya.out 4;have lW:wr.cell? ⟨za,0,none⟩=some (.slice qb Ma.length mb):=(ja ta.out 0).trans rfl;have kW:wr.cell? ⟨za,1,none⟩=some (.int .i64 La):=(ja ta.out 1).trans rfl;have jW:wr.cell? ⟨za,2,none⟩=some (.int .i64 Na):=(ja ta.out 2).trans rfl;have iW:wr.cell? ⟨za,3,none⟩=some (.int .i64 Ka):=(ja ta.out 3).trans rfl;have gW:wr.cell? ⟨za,4,none⟩=some (.slice Lb Fa.length Fb):=(ja ta.out 4).trans rfl;have VU:=aa ta.out 0;have UU:=aa ta.out 1;have TU:=aa ta.out 2;have SU:=aa ta.out 3;have RU:=aa ta.out 4;go_wp2_with (first|((with_reducible refine zb (f:=81) rfl ?_);refine Pc (some 29) rfl rfl Try.func81 (by kernel_rfl) rfl #[.int .i64 Rb,.int .i64 0,.int .i64 (wrap64 ((Fa.length:Int) - 1))] rfl (by (try simp only [List.map_toArray,List.map_cons,List.map_nil]);first|done|rfl|(simp only [List.length_drop,List.length_take];rfl)) ?_;(with_reducible refine (Za.calls Rb 0 (wrap64 ((Fa.length:Int) - 1)) true _ uP.out).mono ?_);rintro e w' ⟨rfl,⟨nd,rfl⟩⟩;refine ⟨_,rfl,?_⟩)|((with_reducible refine zb (f:=81) rfl ?_);refine Pc (some 35) rfl rfl Try.func81 (by kernel_rfl) rfl #[.int .i64 Qb,.int .i64 0,.int .i64 (wrap64 (Ka - 1))] rfl (by (try simp only [List.map_toArray,List.map_cons,List.map_nil]);first|done|rfl|(simp only [List.length_drop,List.length_take];rfl)) ?_;(with_reducible refine (Za.calls Qb 0 (wrap64 (Ka - 1)) true _ iT.out).mono ?_);rintro e w' ⟨rfl,⟨nd,rfl⟩⟩;refine ⟨_,rfl,?_⟩)|(go_at_call 81;(with_reducible refine (Za.calls tc 0 (wrap64 ((Fa.length:Int) - 1)) t107 _ A34.out).mono ?_);rintro e w' ⟨rfl,⟨nd,rfl⟩⟩));go_ret;exact ⟨by first|rfl|(simp [Pa,Oa] <;> rfl)|(simp [*,Pa,Oa] <;> rfl),by repeat (first|(with_reducible first|exact HB.out|apply oa|apply ia|apply qa|refine ua ?_ Sa.out|refine ua ?_ uc.out)|exact HB.out)⟩
       ·replace KI:=Bool.eq_false_iff.mpr KI;subst KI;have H1:(some false)=some r:=by rw [if_neg (show ¬ (false=true) by decide)] at H;exact H
        clear H;have H:=H1;clear H1;obtain rfl:=Option.some.inj H;have yat:=Cb.out;have Jas:=Db.out;have YM:wr.cell? ⟨Ga,0,none⟩=some (.slice Pf Rc.length Df):=(ja ya.out 0).trans rfl;have XM:wr.cell? ⟨Ga,1,none⟩=some (.int .i64 Xb):=(ja ya.out 1).trans rfl;have WM:wr.cell? ⟨Ga,2,none⟩=some (.int .i64 Qb):=(ja ya.out 2).trans rfl;have VM:wr.cell? ⟨Ga,3,none⟩=some (.int .i64 Rb):=(ja ya.out 3).trans rfl;have UM:wr.cell? ⟨Ga,4,none⟩=some (.int .i64 tc):=(ja ya.out 4).trans rfl;have iM:=aa ya.out 0;have gM:=aa ya.out 1;have fM:=aa ya.out 2;have eM:=aa ya.out 3;have dM:=aa ya.out 4;have CA:wr.cell? ⟨za,0,none⟩=some (.slice qb Ma.length mb):=(ja ta.out 0).trans rfl;have BA:wr.cell? ⟨za,1,none⟩=some (.int .i64 La):=(ja ta.out 1).trans rfl;have AA:wr.cell? ⟨za,2,none⟩=some (.int .i64 Na):=(ja ta.out 2).trans rfl;have zA:wr.cell? ⟨za,3,none⟩=some (.int .i64 Ka):=(ja ta.out 3).trans rfl;have yA:wr.cell? ⟨za,4,none⟩=some (.slice Lb Fa.length Fb):=(ja ta.out 4).trans rfl;have eA:=aa ta.out 0;have dA:=aa ta.out 1;have cA:=aa ta.out 2;have bA:=aa ta.out 3;have aA:=aa ta.out 4;go_wp2_with (first|((with_reducible refine zb (f:=81) rfl ?_);refine Pc (some 29) rfl rfl Try.func81 (by kernel_rfl) rfl #[.int .i64 Rb,.int .i64 0,.int .i64 (wrap64 ((Fa.length:Int) - 1))] rfl (by (try simp only [List.map_toArray,List.map_cons,List.map_nil]);first|done|rfl|(simp only [List.length_drop,List.length_take];rfl)) ?_;(with_reducible refine (Za.calls Rb 0 (wrap64 ((Fa.length:Int) - 1)) true _ uP.out).mono ?_);rintro e w' ⟨rfl,⟨nd,rfl⟩⟩;refine ⟨_,rfl,?_⟩)|((with_reducible refine zb (f:=81) rfl ?_);refine Pc (some 35) rfl rfl Try.func81 (by kernel_rfl) rfl #[.int .i64 Qb,.int .i64 0,.int .i64 (wrap64 (Ka - 1))] rfl (by (try simp only [List.map_toArray,List.map_cons,List.map_nil]);first|done|rfl|(simp only [List.length_drop,List.length_take];rfl)) ?_;(with_reducible refine (Za.calls Qb 0 (wrap64 (Ka - 1)) false _ iT.out).mono ?_);rintro e w' ⟨rfl,⟨nd,rfl⟩⟩;refine ⟨_,rfl,?_⟩));go_ret;exact ⟨by first|rfl|(simp [Pa,Oa] <;> rfl)|(simp [*,Pa,Oa] <;> rfl),by repeat (first|(with_reducible first|exact HB.out|apply oa|apply ia|apply qa|refine ua ?_ Sa.out|refine ua ?_ uc.out)|exact HB.out)⟩
      ·replace fP:=Bool.eq_false_iff.mpr fP;subst fP;have H1:(some false)=some r:=by rw [if_neg (show ¬ (false=true) by decide)] at H;exact H
       clear H;have H:=H1;clear H1;obtain rfl:=Option.some.inj H;have o9:=Cb.out;have V8:=Db.out;have SM:wr.cell? ⟨Ga,0,none⟩=some (.slice Pf Rc.length Df):=(ja ya.out 0).trans rfl;have RM:wr.cell? ⟨Ga,1,none⟩=some (.int .i64 Xb):=(ja ya.out 1).trans rfl;have QM:wr.cell? ⟨Ga,2,none⟩=some (.int .i64 Qb):=(ja ya.out 2).trans rfl;have PM:wr.cell? ⟨Ga,3,none⟩=some (.int .i64 Rb):=(ja ya.out 3).trans rfl;have OM:wr.cell? ⟨Ga,4,none⟩=some (.int .i64 tc):=(ja ya.out 4).trans rfl;have cM:=aa ya.out 0;have bM:=aa ya.out 1;have aM:=aa ya.out 2;have ZL:=aa ya.out 3;have YL:=aa ya.out 4;have WV:wr.cell? ⟨za,0,none⟩=some (.slice qb Ma.length mb):=(ja ta.out 0).trans rfl;have VV:wr.cell? ⟨za,1,none⟩=some (.int .i64 La):=(ja ta.out 1).trans rfl;have TV:wr.cell? ⟨za,2,none⟩=some (.int .i64 Na):=(ja ta.out 2).trans rfl;have SV:wr.cell? ⟨za,3,none⟩=some (.int .i64 Ka):=(ja ta.out 3).trans rfl;have RV:wr.cell? ⟨za,4,none⟩=some (.slice Lb Fa.length Fb):=(ja ta.out 4).trans rfl;have GU:=aa ta.out 0;have FU:=aa ta.out 1;have EU:=aa ta.out 2;have DU:=aa ta.out 3;have CU:=aa ta.out 4;go_wp2_with (first|((with_reducible refine zb (f:=81) rfl ?_);refine Pc (some 29) rfl rfl Try.func81 (by kernel_rfl) rfl #[.int .i64 Rb,.int .i64 0,.int .i64 (wrap64 ((Fa.length:Int) - 1))] rfl (by (try simp only [List.map_toArray,List.map_cons,List.map_nil]);first|done|rfl|(simp only [List.length_drop,List.length_take];rfl)) ?_;(with_reducible refine (Za.calls Rb 0 (wrap64 ((Fa.length:Int) - 1)) false _ uP.out).mono ?_);rintro e w' ⟨rfl,⟨nd,rfl⟩⟩;refine ⟨_,rfl,?_⟩)|((with_reducible refine zb (f:=81) rfl ?_);refine Pc (some 35) rfl rfl Try.func81 (by kernel_rfl) rfl #[.int .i64 Qb,.int .i64 0,.int .i64 (wrap64 (Ka - 1))] rfl (by (try simp only [List.map_toArray,List.map_cons,List.map_nil]);first|done|rfl|(simp only [List.length_drop,List.length_take];rfl)) ?_;(with_reducible refine (Za.calls Qb 0 (wrap64 (Ka - 1)) t106 _ iT.out).mono ?_);rintro e w' ⟨rfl,⟨nd,rfl⟩⟩;refine ⟨_,rfl,?_⟩));go_ret;exact ⟨by first|rfl|(simp [Pa,Oa] <;> rfl)|(simp [*,Pa,Oa] <;> rfl),by repeat (first|(with_reducible first|exact HB.out|apply oa|apply ia|apply qa|refine ua ?_ Sa.out|refine ua ?_ uc.out)|exact HB.out)⟩
     ·rw [if_neg FN] at H;have ZR:(Xb == 1)=false:=beq_eq_false_iff_ne.mpr FN;have Sac:(Xb != 1)=true:=bne_iff_ne.mpr FN
      by_cases aC:Xb=2
      ·rw [if_pos aC] at H;have GI:(Xb == 2)=true:=beq_iff_eq.mpr aC;have FI:(Xb != 2)=false:=bne_eq_false_iff_eq.mpr aC;clear aC
       by_cases DG:t106=true
       ·subst DG;have H1:(if Rb=0 then (some (tc == 0)) else (some false))=some r:=by rw [if_pos rfl] at H;exact H
        clear H;have H:=H1;clear H1
        by_cases tD:Rb=0
        ·rw [if_pos tD] at H;have DN:(Rb == 0)=true:=beq_iff_eq.mpr tD;have XR:(Rb != 0)=false:=bne_eq_false_iff_eq.mpr tD;clear tD;obtain rfl:=Option.some.inj H;have cY:=Cb.out;have aY:=Db.out;have CF:wr.cell? ⟨Ga,0,none⟩=some (.slice Pf Rc.length Df):=(ja ya.out 0).trans rfl;have BF:wr.cell? ⟨Ga,1,none⟩=some (.int .i64 Xb):=(ja ya.out 1).trans rfl;have AF:wr.cell? ⟨Ga,2,none⟩=some (.int .i64 Qb):=(ja ya.out 2).trans rfl;have zF:wr.cell? ⟨Ga,3,none⟩=some (.int .i64 Rb):=(ja ya.out 3).trans rfl;have yF:wr.cell? ⟨Ga,4,none⟩=some (.int .i64 tc):=(ja ya.out 4).trans rfl;have yE:=aa ya.out 0;have xE:=aa ya.out 1;have wE:=aa ya.out 2;have vE:=aa ya.out 3;have uE:=aa ya.out 4;have JV:wr.cell? ⟨za,0,none⟩=some (.slice qb Ma.length mb):=(ja ta.out 0).trans rfl;have IV:wr.cell? ⟨za,1,none⟩=some (.int .i64 La):=(ja ta.out 1).trans rfl;have HV:wr.cell? ⟨za,2,none⟩=some (.int .i64 Na):=(ja ta.out 2).trans rfl;have GV:wr.cell? ⟨za,3,none⟩=some (.int .i64 Ka):=(ja ta.out 3).trans rfl;have FV:wr.cell? ⟨za,4,none⟩=some (.slice Lb Fa.length Fb):=(ja ta.out 4).trans rfl;have uU:=aa ta.out 0;have tU:=aa ta.out 1;have sU:=aa ta.out 2;have rU:=aa ta.out 3;have qU:=aa ta.out 4;go_wp2_with (first|((with_reducible refine zb (f:=81) rfl ?_);refine Pc (some 29) rfl rfl Try.func81 (by kernel_rfl) rfl #[.int .i64 Rb,.int .i64 0,.int .i64 (wrap64 ((Fa.length:Int) - 1))] rfl (by (try simp only [List.map_toArray,List.map_cons,List.map_nil]);first|done|rfl|(simp only [List.length_drop,List.length_take];rfl)) ?_;(with_reducible refine (Za.calls Rb 0 (wrap64 ((Fa.length:Int) - 1)) t105 _ uP.out).mono ?_);rintro e w' ⟨rfl,⟨nd,rfl⟩⟩;refine ⟨_,rfl,?_⟩)|((with_reducible refine zb (f:=81) rfl ?_);refine Pc (some 35) rfl rfl Try.func81 (by kernel_rfl) rfl #[.int .i64 Qb,.int .i64 0,.int .i64 (wrap64 (Ka - 1))] rfl (by (try simp only [List.map_toArray,List.map_cons,List.map_nil]);first|done|rfl|(simp only [List.length_drop,List.length_take];rfl)) ?_;(with_reducible refine (Za.calls Qb 0 (wrap64 (Ka - 1)) true _ iT.out).mono ?_);rintro e w' ⟨rfl,⟨nd,rfl⟩⟩;refine ⟨_,rfl,?_⟩));go_ret;exact ⟨by first|rfl|(simp [Pa,Oa] <;> rfl)|(simp [*,Pa,Oa] <;> rfl),by repeat (first|(with_reducible first|exact HB.out|apply oa|apply ia|apply qa|refine ua ?_ Sa.out|refine ua ?_ uc.out)|exact HB.out)⟩
        ·rw [if_neg tD] at H;have DN:(Rb == 0)=false:=beq_eq_false_iff_ne.mpr tD;have XR:(Rb != 0)=true:=bne_iff_ne.mpr tD;obtain rfl:=Option.some.inj H;have uat:=Cb.out;have Eas:=Db.out;have oal:wr.cell? ⟨Ga,0,none⟩=some (.slice Pf Rc.length Df):=(ja ya.out 0).trans rfl;have nal:wr.cell? ⟨Ga,1,none⟩=some (.int .i64 Xb):=(ja ya.out 1).trans rfl;have mal:wr.cell? ⟨Ga,2,none⟩=some (.int .i64 Qb):=(ja ya.out 2).trans rfl;have lal:wr.cell? ⟨Ga,3,none⟩=some (.int .i64 Rb):=(ja ya.out 3).trans rfl;have kal:wr.cell? ⟨Ga,4,none⟩=some (.int .i64 tc):=(ja ya.out 4).trans rfl;have Uah:=aa ya.out 0;have Tah:=aa ya.out 1;have Sah:=aa ya.out 2;have Rah:=aa ya.out 3;have Qah:=aa ya.out 4;have NM:wr.cell? ⟨za,0,none⟩=some (.slice qb Ma.length mb):=(ja ta.out 0).trans rfl;have MM:wr.cell? ⟨za,1,none⟩=some (.int .i64 La):=(ja ta.out 1).trans rfl;have LM:wr.cell? ⟨za,2,none⟩=some (.int .i64 Na):=(ja ta.out 2).trans rfl;have KM:wr.cell? ⟨za,3,none⟩=some (.int .i64 Ka):=(ja ta.out 3).trans rfl;have JM:wr.cell? ⟨za,4,none⟩=some (.slice Lb Fa.length Fb):=(ja ta.out 4).trans rfl;have XL:=aa ta.out 0;have WL:=aa ta.out 1;have VL:=aa ta.out 2;have UL:=aa ta.out 3;have TL:=aa ta.out 4;go_wp2_with (first|((with_reducible refine zb (f:=81) rfl ?_);refine Pc (some 29) rfl rfl Try.func81 (by kernel_rfl) rfl #[.int .i64 Rb,.int .i64 0,.int .i64 (wrap64 ((Fa.length:Int) - 1))] rfl (by (try simp only [List.map_toArray,List.map_cons,List.map_nil]);first|done|rfl|(simp only [List.length_drop,List.length_take];rfl)) ?_;(with_reducible refine (Za.calls Rb 0 (wrap64 ((Fa.length:Int) - 1)) t105 _ uP.out).mono ?_);rintro e w' ⟨rfl,⟨nd,rfl⟩⟩;refine ⟨_,rfl,?_⟩)|((with_reducible refine zb (f:=81) rfl ?_);refine Pc (some 35) rfl rfl Try.func81 (by kernel_rfl) rfl #[.int .i64 Qb,.int .i64 0,.int .i64 (wrap64 (Ka - 1))] rfl (by (try simp only [List.map_toArray,List.map_cons,List.map_nil]);first|done|rfl|(simp only [List.length_drop,List.length_take];rfl)) ?_;(with_reducible refine (Za.calls Qb 0 (wrap64 (Ka - 1)) true _ iT.out).mono ?_);rintro e w' ⟨rfl,⟨nd,rfl⟩⟩;refine ⟨_,rfl,?_⟩));go_ret;exact ⟨by first|rfl|(simp [Pa,Oa] <;> rfl)|(simp [*,Pa,Oa] <;> rfl),by repeat (first|(with_reducible first|exact HB.out|apply oa|apply ia|apply qa|refine ua ?_ Sa.out|refine ua ?_ uc.out)|exact HB.out)⟩
       ·replace DG:=Bool.eq_false_iff.mpr DG;subst DG;have H1:(some false)=some r:=by rw [if_neg (show ¬ (false=true) by decide)] at H;exact H
        clear H;have H:=H1;clear H1;obtain rfl:=Option.some.inj H;have tat:=Cb.out;have Das:=Db.out;have bal:wr.cell? ⟨Ga,0,none⟩=some (.slice Pf Rc.length Df):=(ja ya.out 0).trans rfl;have aal:wr.cell? ⟨Ga,1,none⟩=some (.int .i64 Xb):=(ja ya.out 1).trans rfl;have Zak:wr.cell? ⟨Ga,2,none⟩=some (.int .i64 Qb):=(ja ya.out 2).trans rfl;have Yak:wr.cell? ⟨Ga,3,none⟩=some (.int .i64 Rb):=(ja ya.out 3).trans rfl;have Xak:wr.cell? ⟨Ga,4,none⟩=some (.int .i64 tc):=(ja ya.out 4).trans rfl;have Iah:=aa ya.out 0;have Hah:=aa ya.out 1;have Gah:=aa ya.out 2;have Fah:=aa ya.out 3;have Eah:=aa ya.out 4;have Wak:wr.cell? ⟨za,0,none⟩=some (.slice qb Ma.length mb):=(ja ta.out 0).trans rfl;have Vak:wr.cell? ⟨za,1,none⟩=some (.int .i64 La):=(ja ta.out 1).trans rfl;have Uak:wr.cell? ⟨za,2,none⟩=some (.int .i64 Na):=(ja ta.out 2).trans rfl;have Tak:wr.cell? ⟨za,3,none⟩=some (.int .i64 Ka):=(ja ta.out 3).trans rfl;have Sak:wr.cell? ⟨za,4,none⟩=some (.slice Lb Fa.length Fb):=(ja ta.out 4).trans rfl;have Dah:=aa ta.out 0;have Cah:=aa ta.out 1;have Bah:=aa ta.out 2;have Aah:=aa ta.out 3;have zah:=aa ta.out 4;go_wp2_with (first|((with_reducible refine zb (f:=81) rfl ?_);refine Pc (some 29) rfl rfl Try.func81 (by kernel_rfl) rfl #[.int .i64 Rb,.int .i64 0,.int .i64 (wrap64 ((Fa.length:Int) - 1))] rfl (by (try simp only [List.map_toArray,List.map_cons,List.map_nil]);first|done|rfl|(simp only [List.length_drop,List.length_take];rfl)) ?_;(with_reducible refine (Za.calls Rb 0 (wrap64 ((Fa.length:Int) - 1)) t105 _ uP.out).mono ?_);rintro e w' ⟨rfl,⟨nd,rfl⟩⟩;refine ⟨_,rfl,?_⟩)|((with_reducible refine zb (f:=81) rfl ?_);refine Pc (some 35) rfl rfl Try.func81 (by kernel_rfl) rfl #[.int .i64 Qb,.int .i64 0,.int .i64 (wrap64 (Ka - 1))] rfl (by (try simp only [List.map_toArray,List.map_cons,List.map_nil]);first|done|rfl|(simp only [List.length_drop,List.length_take];rfl)) ?_;(with_reducible refine (Za.calls Qb 0 (wrap64 (Ka - 1)) false _ iT.out).mono ?_);rintro e w' ⟨rfl,⟨nd,rfl⟩⟩;refine ⟨_,rfl,?_⟩));go_ret;exact ⟨by first|rfl|(simp [Pa,Oa] <;> rfl)|(simp [*,Pa,Oa] <;> rfl),by repeat (first|(with_reducible first|exact HB.out|apply oa|apply ia|apply qa|refine ua ?_ Sa.out|refine ua ?_ uc.out)|exact HB.out)⟩
      ·rw [if_neg aC] at H;have GI:(Xb == 2)=false:=beq_eq_false_iff_ne.mpr aC;have FI:(Xb != 2)=true:=bne_iff_ne.mpr aC;obtain rfl:=Option.some.inj H;have qat:=Cb.out;have Cas:=Db.out;have Rak:wr.cell? ⟨Ga,0,none⟩=some (.slice Pf Rc.length Df):=(ja ya.out 0).trans rfl;have Qak:wr.cell? ⟨Ga,1,none⟩=some (.int .i64 Xb):=(ja ya.out 1).trans rfl;have Pak:wr.cell? ⟨Ga,2,none⟩=some (.int .i64 Qb):=(ja ya.out 2).trans rfl;have Oak:wr.cell? ⟨Ga,3,none⟩=some (.int .i64 Rb):=(ja ya.out 3).trans rfl;have Nak:wr.cell? ⟨Ga,4,none⟩=some (.int .i64 tc):=(ja ya.out 4).trans rfl;have yah:=aa ya.out 0;have xah:=aa ya.out 1;have wah:=aa ya.out 2;have vah:=aa ya.out 3;have uah:=aa ya.out 4;have zV:wr.cell? ⟨za,0,none⟩=some (.slice qb Ma.length mb):=(ja ta.out 0).trans rfl;have yV:wr.cell? ⟨za,1,none⟩=some (.int .i64 La):=(ja ta.out 1).trans rfl;have xV:wr.cell? ⟨za,2,none⟩=some (.int .i64 Na):=(ja ta.out 2).trans rfl;have wV:wr.cell? ⟨za,3,none⟩=some (.int .i64 Ka):=(ja ta.out 3).trans rfl;have vV:wr.cell? ⟨za,4,none⟩=some (.slice Lb Fa.length Fb):=(ja ta.out 4).trans rfl;have kU:=aa ta.out 0;have jU:=aa ta.out 1;have iU:=aa ta.out 2;have gU:=aa ta.out 3;have fU:=aa ta.out 4;go_wp2_with (first|((with_reducible refine zb (f:=81) rfl ?_);refine Pc (some 29) rfl rfl Try.func81 (by kernel_rfl) rfl #[.int .i64 Rb,.int .i64 0,.int .i64 (wrap64 ((Fa.length:Int) - 1))] rfl (by (try simp only [List.map_toArray,List.map_cons,List.map_nil]);first|done|rfl|(simp only [List.length_drop,List.length_take];rfl)) ?_;(with_reducible refine (Za.calls Rb 0 (wrap64 ((Fa.length:Int) - 1)) t105 _ uP.out).mono ?_);rintro e w' ⟨rfl,⟨nd,rfl⟩⟩;refine ⟨_,rfl,?_⟩)|((with_reducible refine zb (f:=81) rfl ?_);refine Pc (some 35) rfl rfl Try.func81 (by kernel_rfl) rfl #[.int .i64 Qb,.int .i64 0,.int .i64 (wrap64 (Ka - 1))] rfl (by (try simp only [List.map_toArray,List.map_cons,List.map_nil]);first|done|rfl|(simp only [List.length_drop,List.length_take];rfl)) ?_;(with_reducible refine (Za.calls Qb 0 (wrap64 (Ka - 1)) t106 _ iT.out).mono ?_);rintro e w' ⟨rfl,⟨nd,rfl⟩⟩;refine ⟨_,rfl,?_⟩));go_ret;exact ⟨by first|rfl|(simp [Pa,Oa] <;> rfl)|(simp [*,Pa,Oa] <;> rfl),by repeat (first|(with_reducible first|exact HB.out|apply oa|apply ia|apply qa|refine ua ?_ Sa.out|refine ua ?_ uc.out)|exact HB.out)⟩
mutual
def Xa.l0:Nat→Int→List Int→Int→Int→Int→List (jf)→Option (Bool)
 | 0,_,_,_,_,_,_=>none
 | k + 1,x3,Yc,Zc,Xc,Wc,dc=>if x3 < (Yc.length:Int) then (if 0 ≤ x3 then ((Za.f (rd Yc x3) 1 16).bind fun t103=>(if t103=true then (Xa.l0 k (wrap64 (x3 + 1)) Yc Zc Xc Wc dc) else (some false))) else (none)) else ((Za.f (Yc.length:Int) 1 4).bind fun t104=>(if t104=true then ((Za.f Xc 0 20).bind fun t105=>(if t105=true then ((Za.f Zc 0 6).bind fun t106=>(if t106=true then (if Zc > Xc then (Xa.j1 k true Yc Zc Xc Wc dc) else ((Za.f Wc Xc 1000).bind fun t107=>(if t107=true then ((Za.f (dc.length:Int) 1 300).bind fun t108=>(Xa.j1 k (!t108) Yc Zc Xc Wc dc)) else (Xa.j1 k true Yc Zc Xc Wc dc)))) else (Xa.j1 k true Yc Zc Xc Wc dc))) else (Xa.j1 k true Yc Zc Xc Wc dc))) else (Xa.j1 k true Yc Zc Xc Wc dc)))
def Xa.j1:Nat→Bool→List Int→Int→Int→Int→List (jf)→Option (Bool)
 | 0,_,_,_,_,_,_=>none
 | k + 1,x58,Yc,Zc,Xc,Wc,dc=>if x58=true then (some false) else (Xa.l1 k 0 0 Yc Zc Xc Wc dc)
def Xa.l1:Nat→Int→Int→List Int→Int→Int→Int→List (jf)→Option (Bool)
 | 0,_,_,_,_,_,_,_=>none
 | k + 1,x4,x5,Yc,Zc,Xc,Wc,dc=>if x5 < (dc.length:Int) then (if 0 ≤ x5 then (if (wrap64 (x4 + (((Ta dc x5).f0).length:Int))) > 1000 then (some false) else ((jc.f k Yc Zc Xc Wc dc ((Ta dc x5).f0) ((Ta dc x5).f1) ((Ta dc x5).f2) ((Ta dc x5).f3) ((Ta dc x5).f4)).bind fun t111=>(if t111=true then (Xa.l1 k (wrap64 (x4 + (((Ta dc x5).f0).length:Int))) (wrap64 (x5 + 1)) Yc Zc Xc Wc dc) else (some false)))) else (none)) else (some true)
end
def Xa.f (k:Nat) (Ma:List Int) (La:Int) (Na:Int) (Ka:Int) (Fa:List (jf)):Option (Bool):=Xa.l0 k 0 Ma La Na Ka Fa
def Xa.T13:Bool × List (List Nat × List Nat):=(true,[([],[]),([0],[0]),([1],[1]),([2],[2]),([2],[2]),([4,2],[2,4]),([2],[2]),([5,6,2],[2,5,6]),([7,2],[2,7]),([3,8,2,2],[2,3,8]),([9,2],[2,9]),([2,10],[2,10])])
def Xa.B13:List Nat:=[0,1,3,7,7,23,7,119,247,511,1023,2047]
theorem Xa.EP:Em .any (opsOf Try.f66 13)=Xa.T13:=by kernel_rfl
theorem Xa.MK:Yk Xa.T13.2 Xa.B13=true:=by kernel_rfl
theorem Xa.calls (k:Nat) (qb:Option Addr) (mb:Nat) (Ma:List Int) (La:Int) (Na:Int) (Ka:Int) (Lb:Option Addr) (Fb:Nat) (Fa:List (jf)) (r:Bool) (w:World) (Ae:Kd.C (Kd.int .i64) w qb Ma.length Ma) (we:Ma.length ≤ mb) (Uf:Kd.C Gp w Lb Fa.length Fa) (Lf:Fa.length ≤ Fb) (h:Xa.f k Ma La Na Ka Fa=some r) :
  Calls Try.prog 66 #[.agg #[.slice qb Ma.length mb,.int .i64 La,.int .i64 Na,.int .i64 Ka,.slice Lb Fa.length Fb]] w fun e w'=>e = .returned (.bool r)∧Below w.heap.size w w':=by
 have Oz:=Try.underlying45;have BB:=Try.underlying83;have Ke:=ga.mk Ae;have Ve:=ga.mk we;clear Ae we;have kg:=ga.mk Uf;have Tg:=ga.mk Lf;clear Uf Lf;have HB:=ga.mk (Below.refl w.heap.size w);have H:(Xa.l0 k 0 Ma La Na Ka Fa)=some r:=h;clear h;have H':=ga.mk H;clear H;go_enter Try.func66,Try.ntmps66;go_wp2_with (first|((with_reducible refine Ab (N:=1) rfl ?_);(try (refine Me (by rfl) ?_;dsimp only));refine Kb ?hg (N:=1) ?hd (cs:=#[.slice qb Ma.length mb,.int .i64 La,.int .i64 Na,.int .i64 Ka,.slice Lb Fa.length Fb]) (t:=45) ?hr ?_;(case hd=>rfl);(case hg=>rfl);(case hr=>first|(go_simp;done)|(go_simp;rfl));intro za hg w2 Wb hb;have Eb:=ga.mk (Qa (by repeat (first|(with_reducible first|exact HB.out|apply oa|apply ia|apply qa)|exact HB.out)) hb);have Ib:=ga.mk (Wb);have Sb:=ga.mk ((by rw [hg];exact (Ja (by repeat (first|(with_reducible first|exact HB.out|apply oa|apply ia|apply qa)|exact HB.out))):w.heap.size ≤ za));have yc:=ga.mk ((by rw [hg];exact (Ja (by repeat (first|(with_reducible first|exact HB.out|apply oa|apply ia|apply qa)|exact HB.out))):w.heap.size ≤ za));clear HB;have HB:=Eb;have ta:=Ib;have Be:=Sb;have Sa:=yc;clear Eb Ib Sb yc hb Wb hg))
 go_loopg [3] k (fun kq v3 w'=>∃ (Cc:Int),v3 = .int .i64 Cc∧ga (Xa.l0 kq Cc Ma La Na Ka Fa=some r)∧ga (kq ≤ k)∧ga (w'.heap[za]? = some (.cells #[(.slice qb Ma.length mb),.int .i64 La,.int .i64 Na,.int .i64 Ka,(.slice Lb Fa.length Fb)] 45 (0,0)))∧ga (Below w.heap.size w w'))
 case atStart=>exact ⟨(0),(by first|rfl|(simp;done)|(simp [*];done)),H',⟨Nat.le_refl _⟩,⟨by (with_reducible repeat (first|refine Ca ?_ _|refine Ea ?_|refine Da ?_ _));exact ta.out⟩,⟨by repeat (first|(with_reducible first|exact HB.out|apply oa|apply ia|apply qa|refine ua ?_ Sa.out)|exact HB.out)⟩⟩
 case round =>
  clear H'
  try clear p2
  (try clear HA);(try clear uf);(try clear ta);(try clear HB);obtain ⟨Cc,rfl,HA,uf,ta,HB⟩:=hrel;cases gk with
  | zero=>exact absurd HA.out (by simp [Xa.l0])
  | succ k1 =>
   have H:=HA.out;clear HA;simp only [Xa.l0] at H
   by_cases c3:Cc < (Ma.length:Int)
   ·rw [if_pos c3] at H;have dh:decide (Cc < (Ma.length:Int))=true:=decide_eq_true c3;clear c3
    by_cases c4:0 ≤ Cc
    ·rw [if_pos c4] at H;have Dk:decide (0 ≤ Cc)=true:=decide_eq_true c4;clear c4;replace H:=Option.bind_eq_some_iff.mp H;obtain ⟨t103,A50,H⟩:=H;replace H:(if t103=true then (Xa.l0 k1 (wrap64 (Cc + 1)) Ma La Na Ka Fa) else (some false))=some r:=H;have A5:=ga.mk A50;clear A50
     by_cases c6:t103=true
     ·subst c6;have H1:(Xa.l0 k1 (wrap64 (Cc + 1)) Ma La Na Ka Fa)=some r:=by rw [if_pos rfl] at H;exact H
      clear H;have H:=H1;clear H1;have H':=ga.mk H;clear H;have xF:wr.cell? ⟨za,0,none⟩=some (.slice qb Ma.length mb):=(ja ta.out 0).trans rfl;have wF:wr.cell? ⟨za,1,none⟩=some (.int .i64 La):=(ja ta.out 1).trans rfl;have vF:wr.cell? ⟨za,2,none⟩=some (.int .i64 Na):=(ja ta.out 2).trans rfl;have uF:wr.cell? ⟨za,3,none⟩=some (.int .i64 Ka):=(ja ta.out 3).trans rfl;have sF:wr.cell? ⟨za,4,none⟩=some (.slice Lb Fa.length Fb):=(ja ta.out 4).trans rfl;have sE:=aa ta.out 0;have rE:=aa ta.out 1;have qE:=aa ta.out 2;have pE:=aa ta.out 3;have nE:=aa ta.out 4;have zj:0 ≤ (Cc:Int):=of_decide_eq_true (by first|(with_reducible assumption)|assumption);have xj:Cc < (Ma.length:Int):=of_decide_eq_true (by first|(with_reducible assumption)|assumption);obtain ⟨qf,Wt,bf⟩:=Kd.Te Ke.out Cc zj xj;cases Wt;replace bf:=Ra HB.out bf;replace zj:=eq_true zj;replace xj:=eq_true xj;go_wp2_with (first|((with_reducible refine zb (f:=81) rfl ?_);refine Pc (some 18) rfl rfl Try.func81 (by kernel_rfl) rfl #[.int .i64 (rd Ma Cc),.int .i64 1,.int .i64 16] rfl (by (try simp only [List.map_toArray,List.map_cons,List.map_nil]);first|done|rfl|(simp only [List.length_drop,List.length_take];rfl)) ?_;(with_reducible refine (Za.calls (rd Ma Cc) 1 16 true _ A5.out).mono ?_);rintro e w' ⟨rfl,⟨nd,rfl⟩⟩;refine ⟨_,rfl,?_⟩))
      go_roundg k1
      case measure=>have:=uf.out;omega
      case rel=>exact ⟨(wrap64 (Cc + 1)),(by first|rfl|(simp;done)|(simp [*];done)),H',⟨by have:=uf.out;omega⟩,⟨by (with_reducible repeat (first|refine Ca ?_ _|refine Ea ?_|refine Da ?_ _));exact ta.out⟩,⟨by repeat (first|(with_reducible first|exact HB.out|apply oa|apply ia|apply qa|refine ua ?_ Sa.out)|exact HB.out)⟩⟩
     ·replace c6:=Bool.eq_false_iff.mpr c6;subst c6;have H1:(some false)=some r:=by rw [if_neg (show ¬ (false=true) by decide)] at H;exact H
      clear H;have H:=H1;clear H1;obtain rfl:=Option.some.inj H;have cz:wr.cell? ⟨za,0,none⟩=some (.slice qb Ma.length mb):=(ja ta.out 0).trans rfl;have bz:wr.cell? ⟨za,1,none⟩=some (.int .i64 La):=(ja ta.out 1).trans rfl;have az:wr.cell? ⟨za,2,none⟩=some (.int .i64 Na):=(ja ta.out 2).trans rfl;have Zy:wr.cell? ⟨za,3,none⟩=some (.int .i64 Ka):=(ja ta.out 3).trans rfl;have Yy:wr.cell? ⟨za,4,none⟩=some (.slice Lb Fa.length Fb):=(ja ta.out 4).trans rfl;have Xy:=aa ta.out 0;have Wy:=aa ta.out 1;have Vy:=aa ta.out 2;have Uy:=aa ta.out 3;have Ty:=aa ta.out 4;have zj:0 ≤ (Cc:Int):=of_decide_eq_true (by first|(with_reducible assumption)|assumption);have xj:Cc < (Ma.length:Int):=of_decide_eq_true (by first|(with_reducible assumption)|assumption);obtain ⟨qf,Wt,bf⟩:=Kd.Te Ke.out Cc zj xj;cases Wt;replace bf:=Ra HB.out bf;replace zj:=eq_true zj;replace xj:=eq_true xj;go_wp2_with (first|((with_reducible refine zb (f:=81) rfl ?_);refine Pc (some 18) rfl rfl Try.func81 (by kernel_rfl) rfl #[.int .i64 (rd Ma Cc),.int .i64 1,.int .i64 16] rfl (by (try simp only [List.map_toArray,List.map_cons,List.map_nil]);first|done|rfl|(simp only [List.length_drop,List.length_take];rfl)) ?_;(with_reducible refine (Za.calls (rd Ma Cc) 1 16 false _ A5.out).mono ?_);rintro e w' ⟨rfl,⟨nd,rfl⟩⟩;refine ⟨_,rfl,?_⟩));go_ret;exact ⟨by first|rfl|(simp [Pa,Oa] <;> rfl)|(simp [*,Pa,Oa] <;> rfl),by repeat (first|(with_reducible first|exact HB.out|apply oa|apply ia|apply qa|refine ua ?_ Sa.out)|exact HB.out)⟩
    ·rw [if_neg c4] at H;exact absurd H (by simp)
   ·rw [if_neg c3] at H;have dh:decide (Cc < (Ma.length:Int))=false:=decide_eq_false c3;clear c3;have HC9:=ga.mk H;clear H;have Wh:wr.cell? ⟨za,0,none⟩=some (.slice qb Ma.length mb):=(ja ta.out 0).trans rfl;have Vh:wr.cell? ⟨za,1,none⟩=some (.int .i64 La):=(ja ta.out 1).trans rfl;have Uh:wr.cell? ⟨za,2,none⟩=some (.int .i64 Na):=(ja ta.out 2).trans rfl;have Th:wr.cell? ⟨za,3,none⟩=some (.int .i64 Ka):=(ja ta.out 3).trans rfl;have Sh:wr.cell? ⟨za,4,none⟩=some (.slice Lb Fa.length Fb):=(ja ta.out 4).trans rfl;have Rh:=aa ta.out 0;have Qh:=aa ta.out 1;have Ph:=aa ta.out 2;have Oh:=aa ta.out 3;have Nh:=aa ta.out 4
    go_upto_region 6 with (fail)
    go_cut [58] (fun v58 wc=>∃ (kq:Nat) (jL:Bool),v58 = .bool jL∧ga (Xa.j1 kq jL Ma La Na Ka Fa=some r)∧ga (kq ≤ k1)∧ga (wc.heap[za]? = some (.cells #[(.slice qb Ma.length mb),.int .i64 La,.int .i64 Na,.int .i64 Ka,(.slice Lb Fa.length Fb)] 45 (0,0)))∧ga (Below w.heap.size w wc))
    case first =>
     have H:=HC9.out;clear HC9;replace H:=Option.bind_eq_some_iff.mp H;obtain ⟨t104,RS,H⟩:=H;replace H:(if t104=true then ((Za.f Na 0 20).bind fun t105=>(if t105=true then ((Za.f La 0 6).bind fun t106=>(if t106=true then (if La > Na then (Xa.j1 k1 true Ma La Na Ka Fa) else ((Za.f Ka Na 1000).bind fun t107=>(if t107=true then ((Za.f (Fa.length:Int) 1 300).bind fun t108=>(Xa.j1 k1 (!t108) Ma La Na Ka Fa)) else (Xa.j1 k1 true Ma La Na Ka Fa)))) else (Xa.j1 k1 true Ma La Na Ka Fa))) else (Xa.j1 k1 true Ma La Na Ka Fa))) else (Xa.j1 k1 true Ma La Na Ka Fa))=some r:=H;have KZ:=ga.mk RS;clear RS
     by_cases Fq:t104=true
     ·subst Fq;have H1:((Za.f Na 0 20).bind fun t105=>(if t105=true then ((Za.f La 0 6).bind fun t106=>(if t106=true then (if La > Na then (Xa.j1 k1 true Ma La Na Ka Fa) else ((Za.f Ka Na 1000).bind fun t107=>(if t107=true then ((Za.f (Fa.length:Int) 1 300).bind fun t108=>(Xa.j1 k1 (!t108) Ma La Na Ka Fa)) else (Xa.j1 k1 true Ma La Na Ka Fa)))) else (Xa.j1 k1 true Ma La Na Ka Fa))) else (Xa.j1 k1 true Ma La Na Ka Fa)))=some r:=by rw [if_pos rfl] at H;exact H
      clear H;have H:=H1;clear H1;replace H:=Option.bind_eq_some_iff.mp H;obtain ⟨t105,jaf,H⟩:=H;replace H:(if t105=true then ((Za.f La 0 6).bind fun t106=>(if t106=true then (if La > Na then (Xa.j1 k1 true Ma La Na Ka Fa) else ((Za.f Ka Na 1000).bind fun t107=>(if t107=true then ((Za.f (Fa.length:Int) 1 300).bind fun t108=>(Xa.j1 k1 (!t108) Ma La Na Ka Fa)) else (Xa.j1 k1 true Ma La Na Ka Fa)))) else (Xa.j1 k1 true Ma La Na Ka Fa))) else (Xa.j1 k1 true Ma La Na Ka Fa))=some r:=H;have A13:=ga.mk jaf;clear jaf
      by_cases Bs:t105=true
      ·subst Bs;have H1:((Za.f La 0 6).bind fun t106=>(if t106=true then (if La > Na then (Xa.j1 k1 true Ma La Na Ka Fa) else ((Za.f Ka Na 1000).bind fun t107=>(if t107=true then ((Za.f (Fa.length:Int) 1 300).bind fun t108=>(Xa.j1 k1 (!t108) Ma La Na Ka Fa)) else (Xa.j1 k1 true Ma La Na Ka Fa)))) else (Xa.j1 k1 true Ma La Na Ka Fa)))=some r:=by rw [if_pos rfl] at H;exact H
       clear H;have H:=H1;clear H1;replace H:=Option.bind_eq_some_iff.mp H;obtain ⟨t106,haf,H⟩:=H;replace H:(if t106=true then (if La > Na then (Xa.j1 k1 true Ma La Na Ka Fa) else ((Za.f Ka Na 1000).bind fun t107=>(if t107=true then ((Za.f (Fa.length:Int) 1 300).bind fun t108=>(Xa.j1 k1 (!t108) Ma La Na Ka Fa)) else (Xa.j1 k1 true Ma La Na Ka Fa)))) else (Xa.j1 k1 true Ma La Na Ka Fa))=some r:=H;have A15:=ga.mk haf;clear haf
       by_cases jt:t106=true
       ·subst jt;have H1:(if La > Na then (Xa.j1 k1 true Ma La Na Ka Fa) else ((Za.f Ka Na 1000).bind fun t107=>(if t107=true then ((Za.f (Fa.length:Int) 1 300).bind fun t108=>(Xa.j1 k1 (!t108) Ma La Na Ka Fa)) else (Xa.j1 k1 true Ma La Na Ka Fa))))=some r:=by rw [if_pos rfl] at H;exact H
        clear H;have H:=H1;clear H1
        by_cases Xu:La > Na
        ·rw [if_pos Xu] at H;have Xt:decide (Na < La)=true:=decide_eq_true Xu;clear Xu;(first|rw [Xt]|(simp only [fc,ic];rw [Xt])|skip);have H':=ga.mk H;clear H;have Vu:wr.cell? ⟨za,0,none⟩=some (.slice qb Ma.length mb):=(ja ta.out 0).trans rfl;have Uu:wr.cell? ⟨za,1,none⟩=some (.int .i64 La):=(ja ta.out 1).trans rfl;have Tu:wr.cell? ⟨za,2,none⟩=some (.int .i64 Na):=(ja ta.out 2).trans rfl;have Su:wr.cell? ⟨za,3,none⟩=some (.int .i64 Ka):=(ja ta.out 3).trans rfl;have Ru:wr.cell? ⟨za,4,none⟩=some (.slice Lb Fa.length Fb):=(ja ta.out 4).trans rfl;have Gu:=aa ta.out 0;have Fu:=aa ta.out 1;have Eu:=aa ta.out 2;have Du:=aa ta.out 3;have Cu:=aa ta.out 4;go_wp2_with (first|((with_reducible refine zb (f:=81) rfl ?_);refine Pc (some 23) rfl rfl Try.func81 (by kernel_rfl) rfl #[.int .i64 (Ma.length:Int),.int .i64 1,.int .i64 4] rfl (by (try simp only [List.map_toArray,List.map_cons,List.map_nil]);first|done|rfl|(simp only [List.length_drop,List.length_take];rfl)) ?_;(with_reducible refine (Za.calls (Ma.length:Int) 1 4 true _ KZ.out).mono ?_);rintro e w' ⟨rfl,⟨nd,rfl⟩⟩;refine ⟨_,rfl,?_⟩)|(go_at_call 81;(with_reducible refine (Za.calls Na 0 20 true _ A13.out).mono ?_);rintro e w' ⟨rfl,⟨nd,rfl⟩⟩)|(go_at_call 81;(with_reducible refine (Za.calls La 0 6 true _ A15.out).mono ?_);rintro e w' ⟨rfl,⟨nd,rfl⟩⟩))
         go_meet
         case rel=>exact ⟨_,(true),(by first|rfl|(simp;done)|(simp [*];done)),H',⟨by have:=uf.out;first|omega|exact Nat.le_refl _⟩,⟨by (with_reducible repeat (first|refine Ca ?_ _|refine Ea ?_|refine Da ?_ _));exact ta.out⟩,⟨by repeat (first|(with_reducible first|exact HB.out|apply oa|apply ia|apply qa|refine ua ?_ Sa.out)|exact HB.out)⟩⟩
        ·rw [if_neg Xu] at H;have Xt:decide (Na < La)=false:=decide_eq_false Xu;clear Xu;(first|rw [Xt]|(simp only [fc,ic];rw [Xt])|skip);replace H:=Option.bind_eq_some_iff.mp H;obtain ⟨t107,faf,H⟩:=H;replace H:(if t107=true then ((Za.f (Fa.length:Int) 1 300).bind fun t108=>(Xa.j1 k1 (!t108) Ma La Na Ka Fa)) else (Xa.j1 k1 true Ma La Na Ka Fa))=some r:=H;have A19:=ga.mk faf;clear faf
         by_cases Jq:t107=true
         ·subst Jq;have H1:((Za.f (Fa.length:Int) 1 300).bind fun t108=>(Xa.j1 k1 (!t108) Ma La Na Ka Fa))=some r:=by rw [if_pos rfl] at H;exact H
          clear H;have H:=H1;clear H1;replace H:=Option.bind_eq_some_iff.mp H;obtain ⟨t108,daf,H⟩:=H;replace H:(Xa.j1 k1 (!t108) Ma La Na Ka Fa)=some r:=H;have A21:=ga.mk daf;clear daf;have H':=ga.mk H;clear H;have Zx:wr.cell? ⟨za,0,none⟩=some (.slice qb Ma.length mb):=(ja ta.out 0).trans rfl;have Yx:wr.cell? ⟨za,1,none⟩=some (.int .i64 La):=(ja ta.out 1).trans rfl;have Xx:wr.cell? ⟨za,2,none⟩=some (.int .i64 Na):=(ja ta.out 2).trans rfl;have Wx:wr.cell? ⟨za,3,none⟩=some (.int .i64 Ka):=(ja ta.out 3).trans rfl;have Vx:wr.cell? ⟨za,4,none⟩=some (.slice Lb Fa.length Fb):=(ja ta.out 4).trans rfl;have Ix:=aa ta.out 0;have Hx:=aa ta.out 1;have Gx:=aa ta.out 2;have Fx:=aa ta.out 3;have Ex:=aa ta.out 4;go_wp2_with (first|((with_reducible refine zb (f:=81) rfl ?_);refine Pc (some 23) rfl rfl Try.func81 (by kernel_rfl) rfl #[.int .i64 (Ma.length:Int),.int .i64 1,.int .i64 4] rfl (by (try simp only [List.map_toArray,List.map_cons,List.map_nil]);first|done|rfl|(simp only [List.length_drop,List.length_take];rfl)) ?_;(with_reducible refine (Za.calls (Ma.length:Int) 1 4 true _ KZ.out).mono ?_);rintro e w' ⟨rfl,⟨nd,rfl⟩⟩;refine ⟨_,rfl,?_⟩)|(go_at_call 81;(with_reducible refine (Za.calls Na 0 20 true _ A13.out).mono ?_);rintro e w' ⟨rfl,⟨nd,rfl⟩⟩)|(go_at_call 81;(with_reducible refine (Za.calls La 0 6 true _ A15.out).mono ?_);rintro e w' ⟨rfl,⟨nd,rfl⟩⟩)|(go_at_call 81;(with_reducible refine (Za.calls Ka Na 1000 true _ A19.out).mono ?_);rintro e w' ⟨rfl,⟨nd,rfl⟩⟩)|(go_at_call 81;(with_reducible refine (Za.calls (Fa.length:Int) 1 300 t108 _ A21.out).mono ?_);rintro e w' ⟨rfl,⟨nd,rfl⟩⟩))
          go_meet
          case rel=>exact ⟨_,(!t108),(by first|rfl|(simp;done)|(simp [*];done)),H',⟨by have:=uf.out;first|omega|exact Nat.le_refl _⟩,⟨by (with_reducible repeat (first|refine Ca ?_ _|refine Ea ?_|refine Da ?_ _));exact ta.out⟩,⟨by repeat (first|(with_reducible first|exact HB.out|apply oa|apply ia|apply qa|refine ua ?_ Sa.out)|exact HB.out)⟩⟩
         ·replace Jq:=Bool.eq_false_iff.mpr Jq;subst Jq;have H1:(Xa.j1 k1 true Ma La Na Ka Fa)=some r:=by rw [if_neg (show ¬ (false=true) by decide)] at H;exact H
          clear H;have H:=H1;clear H1;have H':=ga.mk H;clear H;have gq:wr.cell? ⟨za,0,none⟩=some (.slice qb Ma.length mb):=(ja ta.out 0).trans rfl;have fq:wr.cell? ⟨za,1,none⟩=some (.int .i64 La):=(ja ta.out 1).trans rfl;have cq:wr.cell? ⟨za,2,none⟩=some (.int .i64 Na):=(ja ta.out 2).trans rfl;have bq:wr.cell? ⟨za,3,none⟩=some (.int .i64 Ka):=(ja ta.out 3).trans rfl;have aq:wr.cell? ⟨za,4,none⟩=some (.slice Lb Fa.length Fb):=(ja ta.out 4).trans rfl;have Tp:=aa ta.out 0;have Sp:=aa ta.out 1;have Rp:=aa ta.out 2;have Qp:=aa ta.out 3;have Pp:=aa ta.out 4;go_wp2_with (first|((with_reducible refine zb (f:=81) rfl ?_);refine Pc (some 23) rfl rfl Try.func81 (by kernel_rfl) rfl #[.int .i64 (Ma.length:Int),.int .i64 1,.int .i64 4] rfl (by (try simp only [List.map_toArray,List.map_cons,List.map_nil]);first|done|rfl|(simp only [List.length_drop,List.length_take];rfl)) ?_;(with_reducible refine (Za.calls (Ma.length:Int) 1 4 true _ KZ.out).mono ?_);rintro e w' ⟨rfl,⟨nd,rfl⟩⟩;refine ⟨_,rfl,?_⟩)|(go_at_call 81;(with_reducible refine (Za.calls Na 0 20 true _ A13.out).mono ?_);rintro e w' ⟨rfl,⟨nd,rfl⟩⟩)|(go_at_call 81;(with_reducible refine (Za.calls La 0 6 true _ A15.out).mono ?_);rintro e w' ⟨rfl,⟨nd,rfl⟩⟩)|(go_at_call 81;(with_reducible refine (Za.calls Ka Na 1000 false _ A19.out).mono ?_);rintro e w' ⟨rfl,⟨nd,rfl⟩⟩))
          go_meet
          case rel=>exact ⟨_,(true),(by first|rfl|(simp;done)|(simp [*];done)),H',⟨by have:=uf.out;first|omega|exact Nat.le_refl _⟩,⟨by (with_reducible repeat (first|refine Ca ?_ _|refine Ea ?_|refine Da ?_ _));exact ta.out⟩,⟨by repeat (first|(with_reducible first|exact HB.out|apply oa|apply ia|apply qa|refine ua ?_ Sa.out)|exact HB.out)⟩⟩
       ·replace jt:=Bool.eq_false_iff.mpr jt;subst jt;have H1:(Xa.j1 k1 true Ma La Na Ka Fa)=some r:=by rw [if_neg (show ¬ (false=true) by decide)] at H;exact H
        clear H;have H:=H1;clear H1;have H':=ga.mk H;clear H;have Ux:wr.cell? ⟨za,0,none⟩=some (.slice qb Ma.length mb):=(ja ta.out 0).trans rfl;have Tx:wr.cell? ⟨za,1,none⟩=some (.int .i64 La):=(ja ta.out 1).trans rfl;have Rx:wr.cell? ⟨za,2,none⟩=some (.int .i64 Na):=(ja ta.out 2).trans rfl;have Qx:wr.cell? ⟨za,3,none⟩=some (.int .i64 Ka):=(ja ta.out 3).trans rfl;have Px:wr.cell? ⟨za,4,none⟩=some (.slice Lb Fa.length Fb):=(ja ta.out 4).trans rfl;have Dx:=aa ta.out 0;have Cx:=aa ta.out 1;have Bx:=aa ta.out 2;have Ax:=aa ta.out 3;have zx:=aa ta.out 4;go_wp2_with (first|((with_reducible refine zb (f:=81) rfl ?_);refine Pc (some 23) rfl rfl Try.func81 (by kernel_rfl) rfl #[.int .i64 (Ma.length:Int),.int .i64 1,.int .i64 4] rfl (by (try simp only [List.map_toArray,List.map_cons,List.map_nil]);first|done|rfl|(simp only [List.length_drop,List.length_take];rfl)) ?_;(with_reducible refine (Za.calls (Ma.length:Int) 1 4 true _ KZ.out).mono ?_);rintro e w' ⟨rfl,⟨nd,rfl⟩⟩;refine ⟨_,rfl,?_⟩)|(go_at_call 81;(with_reducible refine (Za.calls Na 0 20 true _ A13.out).mono ?_);rintro e w' ⟨rfl,⟨nd,rfl⟩⟩)|(go_at_call 81;(with_reducible refine (Za.calls La 0 6 false _ A15.out).mono ?_);rintro e w' ⟨rfl,⟨nd,rfl⟩⟩))
        go_meet
        case rel=>exact ⟨_,(true),(by first|rfl|(simp;done)|(simp [*];done)),H',⟨by have:=uf.out;first|omega|exact Nat.le_refl _⟩,⟨by (with_reducible repeat (first|refine Ca ?_ _|refine Ea ?_|refine Da ?_ _));exact ta.out⟩,⟨by repeat (first|(with_reducible first|exact HB.out|apply oa|apply ia|apply qa|refine ua ?_ Sa.out)|exact HB.out)⟩⟩
      ·replace Bs:=Bool.eq_false_iff.mpr Bs;subst Bs;have H1:(Xa.j1 k1 true Ma La Na Ka Fa)=some r:=by rw [if_neg (show ¬ (false=true) by decide)] at H;exact H
       clear H;have H:=H1;clear H1;have H':=ga.mk H;clear H;have Qu:wr.cell? ⟨za,0,none⟩=some (.slice qb Ma.length mb):=(ja ta.out 0).trans rfl;have Pu:wr.cell? ⟨za,1,none⟩=some (.int .i64 La):=(ja ta.out 1).trans rfl;have Ou:wr.cell? ⟨za,2,none⟩=some (.int .i64 Na):=(ja ta.out 2).trans rfl;have Nu:wr.cell? ⟨za,3,none⟩=some (.int .i64 Ka):=(ja ta.out 3).trans rfl;have Mu:wr.cell? ⟨za,4,none⟩=some (.slice Lb Fa.length Fb):=(ja ta.out 4).trans rfl;have Bu:=aa ta.out 0;have Au:=aa ta.out 1;have zu:=aa ta.out 2;have yu:=aa ta.out 3;have xu:=aa ta.out 4;go_wp2_with (first|((with_reducible refine zb (f:=81) rfl ?_);refine Pc (some 23) rfl rfl Try.func81 (by kernel_rfl) rfl #[.int .i64 (Ma.length:Int),.int .i64 1,.int .i64 4] rfl (by (try simp only [List.map_toArray,List.map_cons,List.map_nil]);first|done|rfl|(simp only [List.length_drop,List.length_take];rfl)) ?_;(with_reducible refine (Za.calls (Ma.length:Int) 1 4 true _ KZ.out).mono ?_);rintro e w' ⟨rfl,⟨nd,rfl⟩⟩;refine ⟨_,rfl,?_⟩)|(go_at_call 81;(with_reducible refine (Za.calls Na 0 20 false _ A13.out).mono ?_);rintro e w' ⟨rfl,⟨nd,rfl⟩⟩))
       go_meet
       case rel=>exact ⟨_,(true),(by first|rfl|(simp;done)|(simp [*];done)),H',⟨by have:=uf.out;first|omega|exact Nat.le_refl _⟩,⟨by (with_reducible repeat (first|refine Ca ?_ _|refine Ea ?_|refine Da ?_ _));exact ta.out⟩,⟨by repeat (first|(with_reducible first|exact HB.out|apply oa|apply ia|apply qa|refine ua ?_ Sa.out)|exact HB.out)⟩⟩
     ·replace Fq:=Bool.eq_false_iff.mpr Fq;subst Fq;have H1:(Xa.j1 k1 true Ma La Na Ka Fa)=some r:=by rw [if_neg (show ¬ (false=true) by decide)] at H;exact H
      clear H;have H:=H1;clear H1;have H':=ga.mk H;clear H;have Lu:wr.cell? ⟨za,0,none⟩=some (.slice qb Ma.length mb):=(ja ta.out 0).trans rfl;have Ku:wr.cell? ⟨za,1,none⟩=some (.int .i64 La):=(ja ta.out 1).trans rfl;have Ju:wr.cell? ⟨za,2,none⟩=some (.int .i64 Na):=(ja ta.out 2).trans rfl;have Iu:wr.cell? ⟨za,3,none⟩=some (.int .i64 Ka):=(ja ta.out 3).trans rfl;have Hu:wr.cell? ⟨za,4,none⟩=some (.slice Lb Fa.length Fb):=(ja ta.out 4).trans rfl;have wu:=aa ta.out 0;have vu:=aa ta.out 1;have uu:=aa ta.out 2;have tu:=aa ta.out 3;have su:=aa ta.out 4;go_wp2_with (first|((with_reducible refine zb (f:=81) rfl ?_);refine Pc (some 23) rfl rfl Try.func81 (by kernel_rfl) rfl #[.int .i64 (Ma.length:Int),.int .i64 1,.int .i64 4] rfl (by (try simp only [List.map_toArray,List.map_cons,List.map_nil]);first|done|rfl|(simp only [List.length_drop,List.length_take];rfl)) ?_;(with_reducible refine (Za.calls (Ma.length:Int) 1 4 false _ KZ.out).mono ?_);rintro e w' ⟨rfl,⟨nd,rfl⟩⟩;refine ⟨_,rfl,?_⟩))
      go_meet
      case rel=>exact ⟨_,(true),(by first|rfl|(simp;done)|(simp [*];done)),H',⟨by have:=uf.out;first|omega|exact Nat.le_refl _⟩,⟨by (with_reducible repeat (first|refine Ca ?_ _|refine Ea ?_|refine Da ?_ _));exact ta.out⟩,⟨by repeat (first|(with_reducible first|exact HB.out|apply oa|apply ia|apply qa|refine ua ?_ Sa.out)|exact HB.out)⟩⟩
    case rest =>
     clear HC9
     try clear c1
     try clear p1
     try clear q1
     try clear hx1
     try clear c2
     try clear p2
     try clear c3
     try clear dh
     try clear c4
     try clear Dk
     try clear c6
     try clear p6
     try clear c8
     try clear GC
     try clear EC
     try clear LO
     try clear Fq
     try clear Bs
     try clear jt
     try clear Xu
     try clear Xt
     try clear Jq
     try clear Wh
     try clear Vh
     try clear Uh
     try clear Th
     try clear Sh
     try clear Vu
     try clear Uu
     try clear Tu
     try clear Su
     try clear Ru
     try clear Zx
     try clear Yx
     try clear Xx
     try clear Wx
     try clear Vx
     try clear gq
     try clear fq
     try clear cq
     try clear bq
     try clear aq
     try clear Ux
     try clear Tx
     try clear Rx
     try clear Qx
     try clear Px
     try clear Qu
     try clear Pu
     try clear Ou
     try clear Nu
     try clear Mu
     try clear Lu
     try clear Ku
     try clear Ju
     try clear Iu
     try clear Hu
     try clear xF
     try clear wF
     try clear vF
     try clear uF
     try clear sF
     try clear cz
     try clear bz
     try clear az
     try clear Zy
     try clear Yy
     try clear Rh
     try clear Qh
     try clear Ph
     try clear Oh
     try clear Nh
     try clear Gu
     try clear Fu
     try clear Eu
     try clear Du
     try clear Cu
     try clear Ix
     try clear Hx
     try clear Gx
     try clear Fx
     try clear Ex
     try clear Tp
     try clear Sp
     try clear Rp
     try clear Qp
     try clear Pp
     try clear Dx
     try clear Cx
     try clear Bx
     try clear Ax
     try clear zx
     try clear Bu
     try clear Au
     try clear zu
     try clear yu
     try clear xu
     try clear wu
     try clear vu
     try clear uu
     try clear tu
     try clear su
     try clear sE
     try clear rE
     try clear qE
     try clear pE
     try clear nE
     try clear Xy
     try clear Wy
     try clear Vy
     try clear Uy
     try clear Ty
     try clear bf
     try clear zj
     try clear p2
     try clear xj
     obtain ⟨kq,jL,rfl,HA,HJ8,ta,HB⟩:=hcut;cases kq with
     | zero=>exact absurd HA.out (by simp [Xa.j1])
     | succ kj8 =>
      have H:=HA.out;clear HA;simp only [Xa.j1] at H
      by_cases fH:jL=true
      ·subst fH;have H1:(some false)=some r:=by rw [if_pos rfl] at H;exact H
       clear H;have H:=H1;clear H1;obtain rfl:=Option.some.inj H;go_wp2;go_ret;exact ⟨by first|rfl|(simp [Pa,Oa] <;> rfl)|(simp [*,Pa,Oa] <;> rfl),by repeat (first|(with_reducible first|exact HB.out|apply oa|apply ia|apply qa|refine ua ?_ Sa.out)|exact HB.out)⟩
      ·replace fH:=Bool.eq_false_iff.mpr fH;subst fH;have H1:(Xa.l1 kj8 0 0 Ma La Na Ka Fa)=some r:=by rw [if_neg (show ¬ (false=true) by decide)] at H;exact H
       clear H;have H:=H1;clear H1;have H':=ga.mk H;clear H;go_wp2
       go_loopg [4,5] kj8 (fun kq v4 v5 w'=>∃ (MD:Int) (kf:Int),v4 = .int .i64 MD∧v5 = .int .i64 kf∧ga (Xa.l1 kq MD kf Ma La Na Ka Fa=some r)∧ga (kq ≤ kj8)∧ga (w'.heap[za]? = some (.cells #[(.slice qb Ma.length mb),.int .i64 La,.int .i64 Na,.int .i64 Ka,(.slice Lb Fa.length Fb)] 45 (0,0)))∧ga (Below w.heap.size w w'))
       case atStart=>exact ⟨(0),(0),(by first|rfl|(simp;done)|(simp [*];done)),(by first|rfl|(simp;done)|(simp [*];done)),H',⟨Nat.le_refl _⟩,⟨by (with_reducible repeat (first|refine Ca ?_ _|refine Ea ?_|refine Da ?_ _));exact ta.out⟩,⟨by repeat (first|(with_reducible first|exact HB.out|apply oa|apply ia|apply qa|refine ua ?_ Sa.out)|exact HB.out)⟩⟩
       case round =>
        clear H'
        try clear c1
        try clear p1
        try clear q1
        try clear hx1
        try clear c2
        try clear p2
        try clear c3
        try clear dh
        try clear c4
        try clear Dk
        try clear c6
        try clear p6
        try clear c8
        try clear GC
        try clear EC
        try clear LO
        try clear Fq
        try clear Bs
        try clear jt
        try clear Xu
        try clear Xt
        try clear Jq
        try clear fH
        try clear Wh
        try clear Vh
        try clear Uh
        try clear Th
        try clear Sh
        try clear Vu
        try clear Uu
        try clear Tu
        try clear Su
        try clear Ru
        try clear Zx
        try clear Yx
        try clear Xx
        try clear Wx
        try clear Vx
        try clear gq
        try clear fq
        try clear cq
        try clear bq
        try clear aq
        try clear Ux
        try clear Tx
        try clear Rx
        try clear Qx
        try clear Px
        try clear Qu
        try clear Pu
        try clear Ou
        try clear Nu
        try clear Mu
        try clear Lu
        try clear Ku
        try clear Ju
        try clear Iu
        try clear Hu
        try clear xF
        try clear wF
        try clear vF
        try clear uF
        try clear sF
        try clear cz
        try clear bz
        try clear az
        try clear Zy
        try clear Yy
        try clear Rh
        try clear Qh
        try clear Ph
        try clear Oh
        try clear Nh
        try clear Gu
        try clear Fu
        try clear Eu
        try clear Du
        try clear Cu
        try clear Ix
        try clear Hx
        try clear Gx
        try clear Fx
        try clear Ex
        try clear Tp
        try clear Sp
        try clear Rp
        try clear Qp
        try clear Pp
        try clear Dx
        try clear Cx
        try clear Bx
        try clear Ax
        try clear zx
        try clear Bu
        try clear Au
        try clear zu
        try clear yu
        try clear xu
        try clear wu
        try clear vu
        try clear uu
        try clear tu
        try clear su
        try clear sE
        try clear rE
        try clear qE
        try clear pE
        try clear nE
        try clear Xy
        try clear Wy
        try clear Vy
        try clear Uy
        try clear Ty
        try clear bf
        try clear p1
        try clear GC
        try clear zj
        try clear p2
        try clear p6
        try clear q1
        try clear EC
        try clear xj
        (try clear HA);(try clear T7);(try clear ta);(try clear HB);obtain ⟨MD,kf,rfl,rfl,HA,T7,ta,HB⟩:=hrel;cases gk with
        | zero=>exact absurd HA.out (by simp [Xa.l1])
        | succ k3 =>
         have H:=HA.out;clear HA;simp only [Xa.l1] at H
         by_cases sy:kf < (Fa.length:Int)
         ·rw [if_pos sy] at H;have Nq:decide (kf < (Fa.length:Int))=true:=decide_eq_true sy;clear sy
          by_cases VA:0 ≤ kf
          ·rw [if_pos VA] at H;have ry:decide (0 ≤ kf)=true:=decide_eq_true VA;clear VA
           by_cases Ez:(wrap64 (MD + (((Ta Fa kf).f0).length:Int))) > 1000
           ·rw [if_pos Ez] at H;have uD:decide (1000 < (wrap64 (MD + (((Ta Fa kf).f0).length:Int))))=true:=decide_eq_true Ez;clear Ez;obtain rfl:=Option.some.inj H;have IA:wr.cell? ⟨za,0,none⟩=some (.slice qb Ma.length mb):=(ja ta.out 0).trans rfl;have GA:wr.cell? ⟨za,1,none⟩=some (.int .i64 La):=(ja ta.out 1).trans rfl;have FA:wr.cell? ⟨za,2,none⟩=some (.int .i64 Na):=(ja ta.out 2).trans rfl;have EA:wr.cell? ⟨za,3,none⟩=some (.int .i64 Ka):=(ja ta.out 3).trans rfl;have DA:wr.cell? ⟨za,4,none⟩=some (.slice Lb Fa.length Fb):=(ja ta.out 4).trans rfl;have kA:=aa ta.out 0;have jA:=aa ta.out 1;have iA:=aa ta.out 2;have gA:=aa ta.out 3;have fA:=aa ta.out 4;have yj:0 ≤ (kf:Int):=of_decide_eq_true (by first|(with_reducible assumption)|assumption);have wj:kf < (Fa.length:Int):=of_decide_eq_true (by first|(with_reducible assumption)|assumption);obtain ⟨Gg,cu,mw,iw,Lg,Mp,Lp,Kp,Jp,Og,Pg⟩:=Sk kg.out kf yj wj;cases iw;replace Lg:=Ra HB.out Lg;replace Mp:=Ra HB.out Mp;replace Lp:=Ra HB.out Lp;replace Kp:=Ra HB.out Kp;replace Jp:=Ra HB.out Jp;have cg:=ga.mk Pg;have Ls:=ga.mk Og;clear Pg Og;replace yj:=eq_true yj;replace wj:=eq_true wj
            try go_wp2
            have Eb:=ga.mk (Ea ta.out);have Ib:=ga.mk (qa HB.out);clear ta HB;have ta:=Eb;have HB:=Ib;clear Eb Ib;refine cl (n:=12) (S:=fun w'=>True) (ds:=[]) #[false,false,false,false,false,false,false,false,false,false,false,false] (by kernel_rfl) rfl rfl trivial (fun hHeld=>?_);refine qi Xa.EP Xa.MK (fun Wf Hs=>?_);generalize wr.drew=w32 at ta HB hHeld ⊢;refine Bd (i:=0) (N:=some 75) (v:=?_) (a':=?_) #[true,false,false,false,false,false,false,false,false,false,false,false] rfl rfl (Lc Wf.out (by kernel_rfl)) (fun _ _ _ h=>h) (Or.inl ⟨by rfl,?_⟩) ?_ ?_;rotate_left
            ·intro w';go_simp;with_reducible rfl
            rotate_left
            ·simp only [Act.put,List.setIfInBounds_toArray,List.set_cons_zero,List.set_cons_succ,fc,ic]
             rfl
            refine Bd (i:=1) (N:=some 76) (v:=?_) (a':=?_) #[true,true,false,false,false,false,false,false,false,false,false,false] rfl rfl (Lc Wf.out (by kernel_rfl)) (fun _ _ _ h=>h) (Or.inl ⟨by rfl,?_⟩) ?_ ?_;rotate_left
            ·intro w';go_simp;with_reducible rfl
            rotate_left
            ·simp only [Act.put,List.setIfInBounds_toArray,List.set_cons_zero,List.set_cons_succ,fc,ic]
             rfl
            refine Bd (i:=2) (N:=some 77) (v:=?_) (a':=?_) #[true,true,true,false,false,false,false,false,false,false,false,false] rfl rfl (Lc Wf.out (by kernel_rfl)) (fun _ _ _ h=>h) (Or.inl ⟨by rfl,?_⟩) ?_ ?_;rotate_left
            ·intro w';go_simp;with_reducible rfl
            rotate_left
            ·simp only [Act.put,List.setIfInBounds_toArray,List.set_cons_zero,List.set_cons_succ,fc,ic]
             rfl
            refine Bd (i:=3) (N:=some 78) (v:=undef) (a':=?_) #[true,true,true,true,false,false,false,false,false,false,false,false] rfl rfl (Lc Wf.out (by kernel_rfl)) (fun _ _ _ h=>h) (Or.inr ⟨by rfl,rfl⟩) ?_ ?_;rotate_left
            ·simp only [Act.put,List.setIfInBounds_toArray,List.set_cons_zero,List.set_cons_succ,fc,ic]
             rfl
            refine Bd (i:=4) (N:=some 79) (v:=undef) (a':=?_) #[true,true,true,true,true,false,false,false,false,false,false,false] rfl rfl (Lc Wf.out (by kernel_rfl)) (fun _ _ _ h=>h) (Or.inr ⟨by rfl,rfl⟩) ?_ ?_;rotate_left
            ·simp only [Act.put,List.setIfInBounds_toArray,List.set_cons_zero,List.set_cons_succ,fc,ic]
             rfl
            refine Bd (i:=5) (N:=some 80) (v:=undef) (a':=?_) #[true,true,true,true,true,true,false,false,false,false,false,false] rfl rfl (Lc Wf.out (by kernel_rfl)) (fun _ _ _ h=>h) (Or.inr ⟨by rfl,rfl⟩) ?_ ?_;rotate_left
            ·simp only [Act.put,List.setIfInBounds_toArray,List.set_cons_zero,List.set_cons_succ,fc,ic]
             rfl
            refine Bd (i:=6) (N:=some 81) (v:=undef) (a':=?_) #[true,true,true,true,true,true,true,false,false,false,false,false] rfl rfl (Lc Wf.out (by kernel_rfl)) (fun _ _ _ h=>h) (Or.inr ⟨by rfl,rfl⟩) ?_ ?_;rotate_left
            ·simp only [Act.put,List.setIfInBounds_toArray,List.set_cons_zero,List.set_cons_succ,fc,ic]
             rfl
            refine Bd (i:=7) (N:=some 82) (v:=undef) (a':=?_) #[true,true,true,true,true,true,true,true,false,false,false,false] rfl rfl (Lc Wf.out (by kernel_rfl)) (fun _ _ _ h=>h) (Or.inr ⟨by rfl,rfl⟩) ?_ ?_;rotate_left
            ·simp only [Act.put,List.setIfInBounds_toArray,List.set_cons_zero,List.set_cons_succ,fc,ic]
             rfl
            refine Bd (i:=8) (N:=some 83) (v:=undef) (a':=?_) #[true,true,true,true,true,true,true,true,true,false,false,false] rfl rfl (Lc Wf.out (by kernel_rfl)) (fun _ _ _ h=>h) (Or.inr ⟨by rfl,rfl⟩) ?_ ?_;rotate_left
            ·simp only [Act.put,List.setIfInBounds_toArray,List.set_cons_zero,List.set_cons_succ,fc,ic]
             rfl
            refine Bd (i:=9) (N:=some 84) (v:=undef) (a':=?_) #[true,true,true,true,true,true,true,true,true,true,false,false] rfl rfl (Lc Wf.out (by kernel_rfl)) (fun _ _ _ h=>h) (Or.inr ⟨by rfl,rfl⟩) ?_ ?_;rotate_left
            ·simp only [Act.put,List.setIfInBounds_toArray,List.set_cons_zero,List.set_cons_succ,fc,ic]
             rfl
            refine Bd (i:=10) (N:=some 85) (v:=undef) (a':=?_) #[true,true,true,true,true,true,true,true,true,true,true,false] rfl rfl (Lc Wf.out (by kernel_rfl)) (fun _ _ _ h=>h) (Or.inr ⟨by rfl,rfl⟩) ?_ ?_;rotate_left
            ·simp only [Act.put,List.setIfInBounds_toArray,List.set_cons_zero,List.set_cons_succ,fc,ic]
             rfl
            refine Bd (i:=11) (N:=some 86) (v:=?_) (a':=?_) #[true,true,true,true,true,true,true,true,true,true,true,true] rfl rfl (Lc Wf.out (by kernel_rfl)) (fun _ _ _ h=>h) (Or.inl ⟨by rfl,?_⟩) ?_ ?_;rotate_left
            ·intro w';go_simp;with_reducible rfl
            rotate_left
            ·simp only [Act.put,List.setIfInBounds_toArray,List.set_cons_zero,List.set_cons_succ,fc,ic]
             rfl
            refine pq (Jk Wf.out (by kernel_rfl)) ?_
            try go_wp2
            go_ret;exact ⟨by first|rfl|(simp [Pa,Oa] <;> rfl)|(simp [*,Pa,Oa] <;> rfl),by repeat (first|(with_reducible first|exact HB.out|apply oa|apply ia|apply qa|refine ua ?_ Sa.out)|exact HB.out)⟩
           ·rw [if_neg Ez] at H;have uD:decide (1000 < (wrap64 (MD + (((Ta Fa kf).f0).length:Int))))=false:=decide_eq_false Ez;clear Ez;replace H:=Option.bind_eq_some_iff.mp H;obtain ⟨t111,Zae,H⟩:=H;replace H:(if t111=true then (Xa.l1 k3 (wrap64 (MD + (((Ta Fa kf).f0).length:Int))) (wrap64 (kf + 1)) Ma La Na Ka Fa) else (some false))=some r:=H;have A33:=ga.mk Zae;clear Zae
            by_cases JI:t111=true
            ·subst JI;have H1:(Xa.l1 k3 (wrap64 (MD + (((Ta Fa kf).f0).length:Int))) (wrap64 (kf + 1)) Ma La Na Ka Fa)=some r:=by rw [if_pos rfl] at H;exact H
             clear H;have H:=H1;clear H1;have H':=ga.mk H;clear H;have qW:wr.cell? ⟨za,0,none⟩=some (.slice qb Ma.length mb):=(ja ta.out 0).trans rfl;have pW:wr.cell? ⟨za,1,none⟩=some (.int .i64 La):=(ja ta.out 1).trans rfl;have oW:wr.cell? ⟨za,2,none⟩=some (.int .i64 Na):=(ja ta.out 2).trans rfl;have nW:wr.cell? ⟨za,3,none⟩=some (.int .i64 Ka):=(ja ta.out 3).trans rfl;have mW:wr.cell? ⟨za,4,none⟩=some (.slice Lb Fa.length Fb):=(ja ta.out 4).trans rfl;have aV:=aa ta.out 0;have ZU:=aa ta.out 1;have YU:=aa ta.out 2;have XU:=aa ta.out 3;have WU:=aa ta.out 4;have yj:0 ≤ (kf:Int):=of_decide_eq_true (by first|(with_reducible assumption)|assumption);have wj:kf < (Fa.length:Int):=of_decide_eq_true (by first|(with_reducible assumption)|assumption);obtain ⟨Gg,cu,mw,iw,Lg,Mp,Lp,Kp,Jp,Og,Pg⟩:=Sk kg.out kf yj wj;cases iw;replace Lg:=Ra HB.out Lg;replace Mp:=Ra HB.out Mp;replace Lp:=Ra HB.out Lp;replace Kp:=Ra HB.out Kp;replace Jp:=Ra HB.out Jp;have cg:=ga.mk Pg;have Ls:=ga.mk Og;clear Pg Og;replace yj:=eq_true yj;replace wj:=eq_true wj
             try go_wp2
             have Eb:=ga.mk (Ea ta.out);have Ib:=ga.mk (qa HB.out);clear ta HB;have ta:=Eb;have HB:=Ib;clear Eb Ib;have Uj:0 ≤ (kf:Int):=of_decide_eq_true (by first|(with_reducible assumption)|assumption);have Tj:kf < (Fa.length:Int):=of_decide_eq_true (by first|(with_reducible assumption)|assumption);obtain ⟨Mv,tC,eC,Vt,Rg,xo,vo,uo,qo,jx,ux⟩:=Sk kg.out kf Uj Tj;have Pw:=qo;have Qw:=uo;have Rw:=vo;have Sw:=xo;have Tw:=Rg;obtain rfl:Gg=Mv:=(by injection Vt);replace Rg:=Ra HB.out Rg;replace xo:=Ra HB.out xo;replace vo:=Ra HB.out vo;replace uo:=Ra HB.out uo;replace qo:=Ra HB.out qo;have Dy:=ga.mk ux;have YG:=ga.mk jx;clear ux jx;replace Uj:=eq_true Uj;replace Tj:=eq_true Tj;refine cl (n:=12) (S:=fun w'=>w'.cell? ⟨za,0,none⟩=some (.slice qb Ma.length mb)∧w'.cell? ⟨za,1,none⟩=some (.int .i64 La)∧w'.cell? ⟨za,2,none⟩=some (.int .i64 Na)∧w'.cell? ⟨za,3,none⟩=some (.int .i64 Ka)∧w'.cell? ⟨za,4,none⟩=some (.slice (some Gg) Fa.length Fb)∧w'.cell? (Gg.add ((kf).toNat * 5))=some (.slice tC ((Ta Fa kf).f0).length eC)∧w'.cell? ⟨(Gg.add ((kf).toNat * 5)).block,(Gg.add ((kf).toNat * 5)).off + 1,none⟩=some (.int .i64 ((Ta Fa kf).f1))∧w'.cell? ⟨(Gg.add ((kf).toNat * 5)).block,(Gg.add ((kf).toNat * 5)).off + 2,none⟩=some (.int .i64 ((Ta Fa kf).f2))∧w'.cell? ⟨(Gg.add ((kf).toNat * 5)).block,(Gg.add ((kf).toNat * 5)).off + 3,none⟩=some (.int .i64 ((Ta Fa kf).f3))∧w'.cell? ⟨(Gg.add ((kf).toNat * 5)).block,(Gg.add ((kf).toNat * 5)).off + 4,none⟩=some (.int .i64 ((Ta Fa kf).f4))) (ds:=[]) #[false,false,false,false,false,false,false,false,false,false,false,false] (by kernel_rfl) rfl rfl ⟨(ja ta.out 0).trans rfl,(ja ta.out 1).trans rfl,(ja ta.out 2).trans rfl,(ja ta.out 3).trans rfl,(ja ta.out 4).trans rfl,(Ra HB.out Tw),(Ra HB.out Sw),(Ra HB.out Rw),(Ra HB.out Qw),(Ra HB.out Pw)⟩ (fun hHeld=>?_);refine qi Xa.EP Xa.MK (fun Wf Hs=>?_);generalize wr.drew=OD at ta HB Dy Rg xo vo uo qo hHeld ⊢;refine Bd (i:=0) (N:=some 75) (v:=?_) (a':=?_) #[true,false,false,false,false,false,false,false,false,false,false,false] rfl rfl (Lc Wf.out (by kernel_rfl)) (fun _ _ _ h=>h) (Or.inl ⟨by rfl,?_⟩) ?_ ?_;rotate_left
             ·intro w';go_simp;with_reducible rfl
             rotate_left
             ·simp only [Act.put,List.setIfInBounds_toArray,List.set_cons_zero,List.set_cons_succ,fc,ic]
              rfl
             refine Bd (i:=1) (N:=some 76) (v:=?_) (a':=?_) #[true,true,false,false,false,false,false,false,false,false,false,false] rfl rfl (Lc Wf.out (by kernel_rfl)) (fun _ _ _ h=>h) (Or.inl ⟨by rfl,?_⟩) ?_ ?_;rotate_left
             ·intro w';go_simp;with_reducible rfl
             rotate_left
             ·simp only [Act.put,List.setIfInBounds_toArray,List.set_cons_zero,List.set_cons_succ,fc,ic]
              rfl
             refine Bd (i:=2) (N:=some 77) (v:=?_) (a':=?_) #[true,true,true,false,false,false,false,false,false,false,false,false] rfl rfl (Lc Wf.out (by kernel_rfl)) (fun _ _ _ h=>h) (Or.inl ⟨by rfl,?_⟩) ?_ ?_;rotate_left
             ·intro w';go_simp;with_reducible rfl
             rotate_left
             ·simp only [Act.put,List.setIfInBounds_toArray,List.set_cons_zero,List.set_cons_succ,fc,ic]
              rfl
             refine Bd (i:=4) (N:=some 79) (v:=?_) (a':=?_) #[true,true,true,false,true,false,false,false,false,false,false,false] rfl rfl (Lc Wf.out (by kernel_rfl)) (fun _ _ _ h=>h) (Or.inl ⟨by rfl,?_⟩) ?_ ?_;rotate_left
             ·intro w';go_simp;with_reducible rfl
             rotate_left
             ·simp only [Act.put,List.setIfInBounds_toArray,List.set_cons_zero,List.set_cons_succ,fc,ic]
              rfl
             refine Bd (i:=6) (N:=some 81) (v:=?_) (a':=?_) #[true,true,true,false,true,false,true,false,false,false,false,false] rfl rfl (Lc Wf.out (by kernel_rfl)) (fun _ _ _ h=>h) (Or.inl ⟨by rfl,?_⟩) ?_ ?_;rotate_left
             ·intro w';go_simp;with_reducible rfl
             rotate_left
             ·simp only [Act.put,List.setIfInBounds_toArray,List.set_cons_zero,List.set_cons_succ,fc,ic]
              rfl
             refine th (i:=3) (N:=some 78) (v:=?_) (a':=?_) #[true,true,true,true,true,false,true,false,false,false,false,false] rfl rfl (Ze Wf.out Hs.out (by kernel_rfl)) (fun _ _ _ h=>h) (Or.inl ⟨by rfl,?_⟩) hHeld ?_ ?_;rotate_left
             ·rintro w' ⟨s0,s1,s2,s3,s4,s5,s6,s7,s8,s9⟩;go_simp;with_reducible rfl
             rotate_left
             ·simp only [Act.put,List.setIfInBounds_toArray,List.set_cons_zero,List.set_cons_succ,fc,ic]
              rfl
             refine th (i:=5) (N:=some 80) (v:=?_) (a':=?_) #[true,true,true,true,true,true,true,false,false,false,false,false] rfl rfl (Ze Wf.out Hs.out (by kernel_rfl)) (fun _ _ _ h=>h) (Or.inl ⟨by rfl,?_⟩) hHeld ?_ ?_;rotate_left
             ·rintro w' ⟨s0,s1,s2,s3,s4,s5,s6,s7,s8,s9⟩;go_simp;with_reducible rfl
             rotate_left
             ·simp only [Act.put,List.setIfInBounds_toArray,List.set_cons_zero,List.set_cons_succ,fc,ic]
              rfl
             refine Bd (i:=7) (N:=some 82) (v:=?_) (a':=?_) #[true,true,true,true,true,true,true,true,false,false,false,false] rfl rfl (Lc Wf.out (by kernel_rfl)) (fun _ _ _ h=>h) (Or.inl ⟨by rfl,?_⟩) ?_ ?_;rotate_left
             ·intro w';go_simp;with_reducible rfl
             rotate_left
             ·simp only [Act.put,List.setIfInBounds_toArray,List.set_cons_zero,List.set_cons_succ,fc,ic]
              rfl
             refine th (i:=8) (N:=some 83) (v:=?_) (a':=?_) #[true,true,true,true,true,true,true,true,true,false,false,false] rfl rfl (Ze Wf.out Hs.out (by kernel_rfl)) (fun _ _ _ h=>h) (Or.inl ⟨by rfl,?_⟩) hHeld ?_ ?_;rotate_left
             ·rintro w' ⟨s0,s1,s2,s3,s4,s5,s6,s7,s8,s9⟩;go_simp;with_reducible rfl
             rotate_left
             ·simp only [Act.put,List.setIfInBounds_toArray,List.set_cons_zero,List.set_cons_succ,fc,ic]
              rfl
             refine Dw (i:=9) (N:=some 84) #[true,true,true,true,true,true,true,true,true,true,false,false] rfl rfl (Ln Wf.out (by kernel_rfl)) (by decide) (fun K hK=>?_);refine Ts Try.func101 (by kernel_rfl) rfl #[.agg #[.slice qb Ma.length mb,.int .i64 La,.int .i64 Na,.int .i64 Ka,.slice (some Gg) Fa.length Fb],.agg #[.slice tC ((Ta Fa kf).f0).length eC,.int .i64 ((Ta Fa kf).f1),.int .i64 ((Ta Fa kf).f2),.int .i64 ((Ta Fa kf).f3),.int .i64 ((Ta Fa kf).f4)]] (by rfl) rfl rfl (by (try simp only [List.map_toArray,List.map_cons,List.map_nil]);first|done|rfl|(simp only [List.length_drop,List.length_take];rfl)) ?_;with_reducible refine (jc.calls k3 _ _ Ma La Na Ka _ _ Fa _ _ ((Ta Fa kf).f0) ((Ta Fa kf).f1) ((Ta Fa kf).f2) ((Ta Fa kf).f3) ((Ta Fa kf).f4) true _ ?Fc ?Ec ?Wd ?Vd ?xw ?vw A33.out).mono ?_
             (case Fc=>repeat (first|exact (Kd.Nb Ke.out HB.out)|(with_reducible refine Kd.Ub ?_ _)|(with_reducible refine Kd.Tb ?_ _)|(with_reducible refine Kd.mc ?_)))
             (case Ec=>exact Ve.out)
             (case Wd=>repeat (first|exact (Kd.Nb kg.out HB.out)|(with_reducible refine Kd.Ub ?_ _)|(with_reducible refine Kd.Tb ?_ _)|(with_reducible refine Kd.mc ?_)))
             (case Vd=>exact Tg.out)
             (case xw=>repeat (first|exact (Kd.Nb Dy.out HB.out)|(with_reducible refine Kd.Ub ?_ _)|(with_reducible refine Kd.Tb ?_ _)|(with_reducible refine Kd.mc ?_)))
             (case vw=>exact YG.out)
             rintro e OZ ⟨rfl,hb⟩;refine ⟨_,rfl,?_⟩;have Eb:=ga.mk (Wa (g:=za) (o:=.cells #[.slice qb Ma.length mb,.int .i64 La,.int .i64 Na,.int .i64 Ka,.slice (some Gg) Fa.length Fb] 45 (0,0)) (by (with_reducible repeat (first|refine Ca ?_ _|refine Ea ?_|refine Da ?_ _));exact ta.out) hb);have Ib:=ga.mk (Qa (by repeat (first|(with_reducible first|exact HB.out|apply oa|apply ia|apply qa|refine ua ?_ Sa.out)|exact HB.out)) hb);clear ta HB;have ta:=Eb;have HB:=Ib;clear Eb Ib;(try clear hb);(try clear Qj);(try clear hk);(try clear hi);refine hK.out _ _ ⟨(ja ta.out 0).trans rfl,(ja ta.out 1).trans rfl,(ja ta.out 2).trans rfl,(ja ta.out 3).trans rfl,(ja ta.out 4).trans rfl,(Ra HB.out Tw),(Ra HB.out Sw),(Ra HB.out Rw),(Ra HB.out Qw),(Ra HB.out Pw)⟩ (fun hHeld=>?_);clear hK K;refine Fp (a':=?_) ?_ ?_;rotate_left
             ·show Act.put _ (some 84) _=_
              simp only [Act.put,List.setIfInBounds_toArray,List.set_cons_zero,List.set_cons_succ,fc,ic]
              rfl
             refine Bd (i:=10) (N:=some 85) (v:=?_) (a':=?_) #[true,true,true,true,true,true,true,true,true,true,true,false] rfl rfl (Lc Wf.out (by kernel_rfl)) (fun _ _ _ h=>h) (Or.inl ⟨by rfl,?_⟩) ?_ ?_;rotate_left
             ·intro w';go_simp;with_reducible rfl
             rotate_left
             ·simp only [Act.put,List.setIfInBounds_toArray,List.set_cons_zero,List.set_cons_succ,fc,ic]
              rfl
             refine Bd (i:=11) (N:=some 86) (v:=?_) (a':=?_) #[true,true,true,true,true,true,true,true,true,true,true,true] rfl rfl (Lc Wf.out (by kernel_rfl)) (fun _ _ _ h=>h) (Or.inl ⟨by rfl,?_⟩) ?_ ?_;rotate_left
             ·intro w';go_simp;with_reducible rfl
             rotate_left
             ·simp only [Act.put,List.setIfInBounds_toArray,List.set_cons_zero,List.set_cons_succ,fc,ic]
              rfl
             refine pq (Jk Wf.out (by kernel_rfl)) ?_
             try go_wp2
             go_roundg k3
             case measure=>have:=uf.out;have:=HJ8.out;have:=T7.out;omega
             case rel=>exact ⟨(wrap64 (MD + (((Ta Fa kf).f0).length:Int))),(wrap64 (kf + 1)),(by first|rfl|(simp;done)|(simp [*];done)),(by first|rfl|(simp;done)|(simp [*];done)),H',⟨by have:=uf.out;have:=HJ8.out;have:=T7.out;omega⟩,⟨by (with_reducible repeat (first|refine Ca ?_ _|refine Ea ?_|refine Da ?_ _));exact ta.out⟩,⟨by repeat (first|(with_reducible first|exact HB.out|apply oa|apply ia|apply qa|refine ua ?_ Sa.out)|exact HB.out)⟩⟩
            ·replace JI:=Bool.eq_false_iff.mpr JI;subst JI;have H1:(some false)=some r:=by rw [if_neg (show ¬ (false=true) by decide)] at H;exact H
             clear H;have H:=H1;clear H1;obtain rfl:=Option.some.inj H;have JF:wr.cell? ⟨za,0,none⟩=some (.slice qb Ma.length mb):=(ja ta.out 0).trans rfl;have GF:wr.cell? ⟨za,1,none⟩=some (.int .i64 La):=(ja ta.out 1).trans rfl;have FF:wr.cell? ⟨za,2,none⟩=some (.int .i64 Na):=(ja ta.out 2).trans rfl;have EF:wr.cell? ⟨za,3,none⟩=some (.int .i64 Ka):=(ja ta.out 3).trans rfl;have DF:wr.cell? ⟨za,4,none⟩=some (.slice Lb Fa.length Fb):=(ja ta.out 4).trans rfl;have EE:=aa ta.out 0;have DE:=aa ta.out 1;have CE:=aa ta.out 2;have AE:=aa ta.out 3;have zE:=aa ta.out 4;have yj:0 ≤ (kf:Int):=of_decide_eq_true (by first|(with_reducible assumption)|assumption);have wj:kf < (Fa.length:Int):=of_decide_eq_true (by first|(with_reducible assumption)|assumption);obtain ⟨Gg,cu,mw,iw,Lg,Mp,Lp,Kp,Jp,Og,Pg⟩:=Sk kg.out kf yj wj;cases iw;replace Lg:=Ra HB.out Lg;replace Mp:=Ra HB.out Mp;replace Lp:=Ra HB.out Lp;replace Kp:=Ra HB.out Kp;replace Jp:=Ra HB.out Jp;have cg:=ga.mk Pg;have Ls:=ga.mk Og;clear Pg Og;replace yj:=eq_true yj;replace wj:=eq_true wj
             try go_wp2
             have Eb:=ga.mk (Ea ta.out);have Ib:=ga.mk (qa HB.out);clear ta HB;have ta:=Eb;have HB:=Ib;clear Eb Ib;have Uj:0 ≤ (kf:Int):=of_decide_eq_true (by first|(with_reducible assumption)|assumption);have Tj:kf < (Fa.length:Int):=of_decide_eq_true (by first|(with_reducible assumption)|assumption);obtain ⟨Mv,tC,eC,Vt,Rg,xo,vo,uo,qo,jx,ux⟩:=Sk kg.out kf Uj Tj;have Pw:=qo;have Qw:=uo;have Rw:=vo;have Sw:=xo;have Tw:=Rg;obtain rfl:Gg=Mv:=(by injection Vt);replace Rg:=Ra HB.out Rg;replace xo:=Ra HB.out xo;replace vo:=Ra HB.out vo;replace uo:=Ra HB.out uo;replace qo:=Ra HB.out qo;have Dy:=ga.mk ux;have YG:=ga.mk jx;clear ux jx;replace Uj:=eq_true Uj;replace Tj:=eq_true Tj;refine cl (n:=12) (S:=fun w'=>w'.cell? ⟨za,0,none⟩=some (.slice qb Ma.length mb)∧w'.cell? ⟨za,1,none⟩=some (.int .i64 La)∧w'.cell? ⟨za,2,none⟩=some (.int .i64 Na)∧w'.cell? ⟨za,3,none⟩=some (.int .i64 Ka)∧w'.cell? ⟨za,4,none⟩=some (.slice (some Gg) Fa.length Fb)∧w'.cell? (Gg.add ((kf).toNat * 5))=some (.slice tC ((Ta Fa kf).f0).length eC)∧w'.cell? ⟨(Gg.add ((kf).toNat * 5)).block,(Gg.add ((kf).toNat * 5)).off + 1,none⟩=some (.int .i64 ((Ta Fa kf).f1))∧w'.cell? ⟨(Gg.add ((kf).toNat * 5)).block,(Gg.add ((kf).toNat * 5)).off + 2,none⟩=some (.int .i64 ((Ta Fa kf).f2))∧w'.cell? ⟨(Gg.add ((kf).toNat * 5)).block,(Gg.add ((kf).toNat * 5)).off + 3,none⟩=some (.int .i64 ((Ta Fa kf).f3))∧w'.cell? ⟨(Gg.add ((kf).toNat * 5)).block,(Gg.add ((kf).toNat * 5)).off + 4,none⟩=some (.int .i64 ((Ta Fa kf).f4))) (ds:=[]) #[false,false,false,false,false,false,false,false,false,false,false,false] (by kernel_rfl) rfl rfl ⟨(ja ta.out 0).trans rfl,(ja ta.out 1).trans rfl,(ja ta.out 2).trans rfl,(ja ta.out 3).trans rfl,(ja ta.out 4).trans rfl,(Ra HB.out Tw),(Ra HB.out Sw),(Ra HB.out Rw),(Ra HB.out Qw),(Ra HB.out Pw)⟩ (fun hHeld=>?_);refine qi Xa.EP Xa.MK (fun Wf Hs=>?_);generalize wr.drew=w39 at ta HB Dy Rg xo vo uo qo hHeld ⊢;refine Bd (i:=0) (N:=some 75) (v:=?_) (a':=?_) #[true,false,false,false,false,false,false,false,false,false,false,false] rfl rfl (Lc Wf.out (by kernel_rfl)) (fun _ _ _ h=>h) (Or.inl ⟨by rfl,?_⟩) ?_ ?_;rotate_left
             ·intro w';go_simp;with_reducible rfl
             rotate_left
             ·simp only [Act.put,List.setIfInBounds_toArray,List.set_cons_zero,List.set_cons_succ,fc,ic]
              rfl
             refine Bd (i:=1) (N:=some 76) (v:=?_) (a':=?_) #[true,true,false,false,false,false,false,false,false,false,false,false] rfl rfl (Lc Wf.out (by kernel_rfl)) (fun _ _ _ h=>h) (Or.inl ⟨by rfl,?_⟩) ?_ ?_;rotate_left
             ·intro w';go_simp;with_reducible rfl
             rotate_left
             ·simp only [Act.put,List.setIfInBounds_toArray,List.set_cons_zero,List.set_cons_succ,fc,ic]
              rfl
             refine Bd (i:=2) (N:=some 77) (v:=?_) (a':=?_) #[true,true,true,false,false,false,false,false,false,false,false,false] rfl rfl (Lc Wf.out (by kernel_rfl)) (fun _ _ _ h=>h) (Or.inl ⟨by rfl,?_⟩) ?_ ?_;rotate_left
             ·intro w';go_simp;with_reducible rfl
             rotate_left
             ·simp only [Act.put,List.setIfInBounds_toArray,List.set_cons_zero,List.set_cons_succ,fc,ic]
              rfl
             refine Bd (i:=4) (N:=some 79) (v:=?_) (a':=?_) #[true,true,true,false,true,false,false,false,false,false,false,false] rfl rfl (Lc Wf.out (by kernel_rfl)) (fun _ _ _ h=>h) (Or.inl ⟨by rfl,?_⟩) ?_ ?_;rotate_left
             ·intro w';go_simp;with_reducible rfl
             rotate_left
             ·simp only [Act.put,List.setIfInBounds_toArray,List.set_cons_zero,List.set_cons_succ,fc,ic]
              rfl
             refine Bd (i:=6) (N:=some 81) (v:=?_) (a':=?_) #[true,true,true,false,true,false,true,false,false,false,false,false] rfl rfl (Lc Wf.out (by kernel_rfl)) (fun _ _ _ h=>h) (Or.inl ⟨by rfl,?_⟩) ?_ ?_;rotate_left
             ·intro w';go_simp;with_reducible rfl
             rotate_left
             ·simp only [Act.put,List.setIfInBounds_toArray,List.set_cons_zero,List.set_cons_succ,fc,ic]
              rfl
             refine th (i:=3) (N:=some 78) (v:=?_) (a':=?_) #[true,true,true,true,true,false,true,false,false,false,false,false] rfl rfl (Ze Wf.out Hs.out (by kernel_rfl)) (fun _ _ _ h=>h) (Or.inl ⟨by rfl,?_⟩) hHeld ?_ ?_;rotate_left
             ·rintro w' ⟨s0,s1,s2,s3,s4,s5,s6,s7,s8,s9⟩;go_simp;with_reducible rfl
             rotate_left
             ·simp only [Act.put,List.setIfInBounds_toArray,List.set_cons_zero,List.set_cons_succ,fc,ic]
              rfl
             refine th (i:=5) (N:=some 80) (v:=?_) (a':=?_) #[true,true,true,true,true,true,true,false,false,false,false,false] rfl rfl (Ze Wf.out Hs.out (by kernel_rfl)) (fun _ _ _ h=>h) (Or.inl ⟨by rfl,?_⟩) hHeld ?_ ?_;rotate_left
             ·rintro w' ⟨s0,s1,s2,s3,s4,s5,s6,s7,s8,s9⟩;go_simp;with_reducible rfl
             rotate_left
             ·simp only [Act.put,List.setIfInBounds_toArray,List.set_cons_zero,List.set_cons_succ,fc,ic]
              rfl
             refine Bd (i:=7) (N:=some 82) (v:=?_) (a':=?_) #[true,true,true,true,true,true,true,true,false,false,false,false] rfl rfl (Lc Wf.out (by kernel_rfl)) (fun _ _ _ h=>h) (Or.inl ⟨by rfl,?_⟩) ?_ ?_;rotate_left
             ·intro w';go_simp;with_reducible rfl
             rotate_left
             ·simp only [Act.put,List.setIfInBounds_toArray,List.set_cons_zero,List.set_cons_succ,fc,ic]
              rfl
             refine th (i:=8) (N:=some 83) (v:=?_) (a':=?_) #[true,true,true,true,true,true,true,true,true,false,false,false] rfl rfl (Ze Wf.out Hs.out (by kernel_rfl)) (fun _ _ _ h=>h) (Or.inl ⟨by rfl,?_⟩) hHeld ?_ ?_;rotate_left
             ·rintro w' ⟨s0,s1,s2,s3,s4,s5,s6,s7,s8,s9⟩;go_simp;with_reducible rfl
             rotate_left
             ·simp only [Act.put,List.setIfInBounds_toArray,List.set_cons_zero,List.set_cons_succ,fc,ic]
              rfl
             refine Dw (i:=9) (N:=some 84) #[true,true,true,true,true,true,true,true,true,true,false,false] rfl rfl (Ln Wf.out (by kernel_rfl)) (by decide) (fun K hK=>?_);refine Ts Try.func101 (by kernel_rfl) rfl #[.agg #[.slice qb Ma.length mb,.int .i64 La,.int .i64 Na,.int .i64 Ka,.slice (some Gg) Fa.length Fb],.agg #[.slice tC ((Ta Fa kf).f0).length eC,.int .i64 ((Ta Fa kf).f1),.int .i64 ((Ta Fa kf).f2),.int .i64 ((Ta Fa kf).f3),.int .i64 ((Ta Fa kf).f4)]] (by rfl) rfl rfl (by (try simp only [List.map_toArray,List.map_cons,List.map_nil]);first|done|rfl|(simp only [List.length_drop,List.length_take];rfl)) ?_;with_reducible refine (jc.calls k3 _ _ Ma La Na Ka _ _ Fa _ _ ((Ta Fa kf).f0) ((Ta Fa kf).f1) ((Ta Fa kf).f2) ((Ta Fa kf).f3) ((Ta Fa kf).f4) false _ ?Fc ?Ec ?Wd ?Vd ?xw ?vw A33.out).mono ?_
             (case Fc=>repeat (first|exact (Kd.Nb Ke.out HB.out)|(with_reducible refine Kd.Ub ?_ _)|(with_reducible refine Kd.Tb ?_ _)|(with_reducible refine Kd.mc ?_)))
             (case Ec=>exact Ve.out)
             (case Wd=>repeat (first|exact (Kd.Nb kg.out HB.out)|(with_reducible refine Kd.Ub ?_ _)|(with_reducible refine Kd.Tb ?_ _)|(with_reducible refine Kd.mc ?_)))
             (case Vd=>exact Tg.out)
             (case xw=>repeat (first|exact (Kd.Nb Dy.out HB.out)|(with_reducible refine Kd.Ub ?_ _)|(with_reducible refine Kd.Tb ?_ _)|(with_reducible refine Kd.mc ?_)))
             (case vw=>exact YG.out)
             rintro e w40 ⟨rfl,hb⟩;refine ⟨_,rfl,?_⟩;have Eb:=ga.mk (Wa (g:=za) (o:=.cells #[.slice qb Ma.length mb,.int .i64 La,.int .i64 Na,.int .i64 Ka,.slice (some Gg) Fa.length Fb] 45 (0,0)) (by (with_reducible repeat (first|refine Ca ?_ _|refine Ea ?_|refine Da ?_ _));exact ta.out) hb);have Ib:=ga.mk (Qa (by repeat (first|(with_reducible first|exact HB.out|apply oa|apply ia|apply qa|refine ua ?_ Sa.out)|exact HB.out)) hb);clear ta HB;have ta:=Eb;have HB:=Ib;clear Eb Ib;(try clear hb);(try clear Qj);(try clear hk);(try clear hi);refine hK.out _ _ ⟨(ja ta.out 0).trans rfl,(ja ta.out 1).trans rfl,(ja ta.out 2).trans rfl,(ja ta.out 3).trans rfl,(ja ta.out 4).trans rfl,(Ra HB.out Tw),(Ra HB.out Sw),(Ra HB.out Rw),(Ra HB.out Qw),(Ra HB.out Pw)⟩ (fun hHeld=>?_);clear hK K;refine Fp (a':=?_) ?_ ?_;rotate_left
             ·show Act.put _ (some 84) _=_
              simp only [Act.put,List.setIfInBounds_toArray,List.set_cons_zero,List.set_cons_succ,fc,ic]
              rfl
             refine Bd (i:=10) (N:=some 85) (v:=?_) (a':=?_) #[true,true,true,true,true,true,true,true,true,true,true,false] rfl rfl (Lc Wf.out (by kernel_rfl)) (fun _ _ _ h=>h) (Or.inl ⟨by rfl,?_⟩) ?_ ?_;rotate_left
             ·intro w';go_simp;with_reducible rfl
             rotate_left
             ·simp only [Act.put,List.setIfInBounds_toArray,List.set_cons_zero,List.set_cons_succ,fc,ic]
              rfl
             refine Bd (i:=11) (N:=some 86) (v:=?_) (a':=?_) #[true,true,true,true,true,true,true,true,true,true,true,true] rfl rfl (Lc Wf.out (by kernel_rfl)) (fun _ _ _ h=>h) (Or.inl ⟨by rfl,?_⟩) ?_ ?_;rotate_left
             ·intro w';go_simp;with_reducible rfl
             rotate_left
             ·simp only [Act.put,List.setIfInBounds_toArray,List.set_cons_zero,List.set_cons_succ,fc,ic]
              rfl
             refine pq (Jk Wf.out (by kernel_rfl)) ?_
             try go_wp2
             go_ret;exact ⟨by first|rfl|(simp [Pa,Oa] <;> rfl)|(simp [*,Pa,Oa] <;> rfl),by repeat (first|(with_reducible first|exact HB.out|apply oa|apply ia|apply qa|refine ua ?_ Sa.out)|exact HB.out)⟩
          ·rw [if_neg VA] at H;exact absurd H (by simp)
         ·rw [if_neg sy] at H;have Nq:decide (kf < (Fa.length:Int))=false:=decide_eq_false sy;clear sy;obtain rfl:=Option.some.inj H;have dW:wr.cell? ⟨za,0,none⟩=some (.slice qb Ma.length mb):=(ja ta.out 0).trans rfl;have cW:wr.cell? ⟨za,1,none⟩=some (.int .i64 La):=(ja ta.out 1).trans rfl;have bW:wr.cell? ⟨za,2,none⟩=some (.int .i64 Na):=(ja ta.out 2).trans rfl;have aW:wr.cell? ⟨za,3,none⟩=some (.int .i64 Ka):=(ja ta.out 3).trans rfl;have ZV:wr.cell? ⟨za,4,none⟩=some (.slice Lb Fa.length Fb):=(ja ta.out 4).trans rfl;have OU:=aa ta.out 0;have NU:=aa ta.out 1;have MU:=aa ta.out 2;have LU:=aa ta.out 3;have KU:=aa ta.out 4;go_wp2;go_ret;exact ⟨by first|rfl|(simp [Pa,Oa] <;> rfl)|(simp [*,Pa,Oa] <;> rfl),by repeat (first|(with_reducible first|exact HB.out|apply oa|apply ia|apply qa|refine ua ?_ Sa.out)|exact HB.out)⟩
end Go.Proofs.Ytoomcmaifgkkfaa.P
end
