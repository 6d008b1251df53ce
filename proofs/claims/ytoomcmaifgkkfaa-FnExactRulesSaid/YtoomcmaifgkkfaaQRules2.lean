import Derived.Test.YtoomcmaifgkkfaaQRules1
set_option maxHeartbeats 8000000
set_option maxRecDepth 100000
section
namespace Go.Proofs.Ytoomcmaifgkkfaa.P
open Go.RowKit Go.Proofs.Ia.Qb Go.Proofs.Ia.Od Go.Proofs.Ia.Re
set_option linter.unusedVariables false
set_option linter.unusedSimpArgs false
attribute [local go_sem] Wh Uh Fj Ej oh nh Vh Th
def ic.l0:Nat→Int→List Int→Int→Int→Int→List (zf)→List (Vc)→Int→Int→Int→Int→Option (Bool)
 | 0,_,_,_,_,_,_,_,_,_,_,_=>none
 | k + 1,x5,Tc,Uc,Sc,Rc,Zb,dg,Dj,Tj,ej,cj=>if x5 < (dg.length:Int) then (if 0 ≤ x5 then ((mb.f k Tc Uc Sc Rc Zb ((Ba dg x5).f0) ((Ba dg x5).f1) ((Ba dg x5).f2) ((Ba dg x5).f3) ((Ba dg x5).f4) ((Ba dg x5).f5) ((Ba dg x5).f6)).bind fun t104=>(if t104=true then (ic.l0 k (wrap64 (x5 + 1)) Tc Uc Sc Rc Zb dg Dj Tj ej cj) else (some false))) else (none)) else ((Za.f ej 0 (wrap64 ((Zb.length:Int) - 1))).bind fun t105=>((Za.f Tj 0 (wrap64 (Rc - 1))).bind fun t106=>(if Dj=0 then (if t105=true then (if Tj=0 then (some (cj == 0)) else (some false)) else (some false)) else (if Dj=1 then (if t105=true then (if t106=true then ((Za.f cj 0 (wrap64 ((Zb.length:Int) - 1))).bind fun t107=>(some t107)) else (some false)) else (some false)) else (if Dj=2 then (if t106=true then (if ej=0 then (some (cj == 0)) else (some false)) else (some false)) else (some false))))))
def ic.f (k:Nat) (Oa:List Int) (La:Int) (Pa:Int) (Ja:Int) (Fa:List (zf)) (Mc:List (Vc)) (Ub:Int) (Nb:Int) (Ob:Int) (oc:Int):Option (Bool):=ic.l0 k 0 Oa La Pa Ja Fa Mc Ub Nb Ob oc
def ic.T4:Bool × List (List Nat × List Nat):=(true,[([],[]),([],[]),([1],[1]),([],[]),([2,3],[2,3]),([4],[4]),([0,5],[0,5]),([6],[6])])
def ic.B4:List Nat:=[0,0,2,0,14,30,63,127]
theorem ic.uR:yl .any (opsOf Try.f101 4)=ic.T4:=by kernel_rfl
theorem ic.XL:vk ic.T4.2 ic.B4=true:=by kernel_rfl
theorem ic.calls (k:Nat) (xb:Option Addr) (qb:Nat) (Oa:List Int) (La:Int) (Pa:Int) (Ja:Int) (Pb:Option Addr) (Gb:Nat) (Fa:List (zf)) (Ff:Option Addr) (tf:Nat) (Mc:List (Vc)) (Ub:Int) (Nb:Int) (Ob:Int) (oc:Int) (r:Bool) (w:World) (xe:Kd.C (Kd.int .i64) w xb Oa.length Oa) (we:Oa.length ≤ qb) (Wf:Kd.C Bp w Pb Fa.length Fa) (Uf:Fa.length ≤ Gb) (Vt:Kd.C Pf w Ff Mc.length Mc) (Xt:Mc.length ≤ tf) (h:ic.f k Oa La Pa Ja Fa Mc Ub Nb Ob oc=some r) :
  Calls Try.prog 101 #[.agg #[.slice xb Oa.length qb,.int .i64 La,.int .i64 Pa,.int .i64 Ja,.slice Pb Fa.length Gb],.agg #[.slice Ff Mc.length tf,.int .i64 Ub,.int .i64 Nb,.int .i64 Ob,.int .i64 oc]] w fun e w'=>e = .returned (.bool r)∧Below w.heap.size w w':=by
 have mA:=Try.underlying45;have kA:=Try.underlying83;have gG:=Try.underlying122;have Ue:=ga.mk xe;have af:=ga.mk we;clear xe we;have ng:=ga.mk Wf;have Xg:=ga.mk Uf;clear Wf Uf;have Jm:=ga.mk Vt;have lp:=ga.mk Xt;clear Vt Xt;have HB:=ga.mk (Below.refl w.heap.size w);have H:(ic.l0 k 0 Oa La Pa Ja Fa Mc Ub Nb Ob oc)=some r:=h;clear h;have H':=ga.mk H;clear H;go_enter Try.func101,Try.ntmps101;go_wp2_with (first|((with_reducible refine Db (N:=2) rfl ?_);(try (refine Oi (by rfl) ?_;dsimp only));refine Jb ?hg (N:=2) ?hd (cs:=#[.slice xb Oa.length qb,.int .i64 La,.int .i64 Pa,.int .i64 Ja,.slice Pb Fa.length Gb]) (t:=45) ?hr ?_;(case hd=>rfl);(case hg=>rfl);(case hr=>first|(go_simp;done)|(go_simp;rfl));intro za hg w3 Wb hb;have Fb:=ga.mk (Qa (by repeat (first|(with_reducible first|exact HB.out|apply oa|apply ia|apply qa)|exact HB.out)) hb);have Lb:=ga.mk (Wb);have Vb:=ga.mk ((by rw [hg];exact (Ka (by repeat (first|(with_reducible first|exact HB.out|apply oa|apply ia|apply qa)|exact HB.out))):w.heap.size ≤ za));have Bc:=ga.mk ((by rw [hg];exact (Ka (by repeat (first|(with_reducible first|exact HB.out|apply oa|apply ia|apply qa)|exact HB.out))):w.heap.size ≤ za));clear HB;have HB:=Fb;have ta:=Lb;have ye:=Vb;have Sa:=Bc;clear Fb Lb Vb Bc hb Wb hg)|((with_reducible refine Db (N:=3) rfl ?_);(try (refine Oi (by rfl) ?_;dsimp only));refine Jb ?hg (N:=3) ?hd (cs:=#[.slice Ff Mc.length tf,.int .i64 Ub,.int .i64 Nb,.int .i64 Ob,.int .i64 oc]) (t:=83) ?hr ?_;(case hd=>rfl);(case hg=>rfl);(case hr=>first|(go_simp;done)|(go_simp;rfl));intro Ga hg w4 Wb hb;have Fb:=ga.mk (Va (g:=za) (o:=.cells #[.slice xb Oa.length qb,.int .i64 La,.int .i64 Pa,.int .i64 Ja,.slice Pb Fa.length Gb] 45 (0,0)) (by (with_reducible repeat (first|refine Ca ?_ _|refine Ea ?_|refine Da ?_ _));exact ta.out) hb);have Lb:=ga.mk (Qa (by repeat (first|(with_reducible first|exact HB.out|apply oa|apply ia|apply qa|refine ua ?_ Sa.out)|exact HB.out)) hb);have Vb:=ga.mk (Wb);have Bc:=ga.mk ((by rw [hg];exact (Ka (by repeat (first|(with_reducible first|exact HB.out|apply oa|apply ia|apply qa|refine ua ?_ Sa.out)|exact HB.out))):w.heap.size ≤ Ga));have Ge:=ga.mk ((by rw [hg];exact (Ka (by repeat (first|(with_reducible first|exact HB.out|apply oa|apply ia|apply qa|refine ua ?_ Sa.out)|exact HB.out))):w.heap.size ≤ Ga));have Zf:=ga.mk ((by rw [hg];exact Nat.ne_of_lt (Qc (g:=za) (o:=.cells #[.slice xb Oa.length qb,.int .i64 La,.int .i64 Pa,.int .i64 Ja,.slice Pb Fa.length Gb] 45 (0,0)) (by (with_reducible repeat (first|refine Ca ?_ _|refine Ea ?_|refine Da ?_ _));exact ta.out)):za ≠ Ga));have Dh:=ga.mk ((by rw [hg];exact Nat.ne_of_gt (Qc (g:=za) (o:=.cells #[.slice xb Oa.length qb,.int .i64 La,.int .i64 Pa,.int .i64 Ja,.slice Pb Fa.length Gb] 45 (0,0)) (by (with_reducible repeat (first|refine Ca ?_ _|refine Ea ?_|refine Da ?_ _));exact ta.out)):Ga ≠ za));clear ta HB;have ta:=Fb;have HB:=Lb;have ya:=Vb;have qj:=Bc;have qc:=Ge;have Cb:=Zf;have Bb:=Dh;clear Fb Lb Vb Bc Ge Zf Dh hb Wb hg))
 go_loopg [5] k (fun kq v5 w'=>∃ (Aa:Int),v5 = .int .i64 Aa∧ga (ic.l0 kq Aa Oa La Pa Ja Fa Mc Ub Nb Ob oc=some r)∧ga (kq ≤ k)∧ga (w'.heap[za]? = some (.cells #[(.slice xb Oa.length qb),.int .i64 La,.int .i64 Pa,.int .i64 Ja,(.slice Pb Fa.length Gb)] 45 (0,0)))∧ga (w'.heap[Ga]? = some (.cells #[(.slice Ff Mc.length tf),.int .i64 Ub,.int .i64 Nb,.int .i64 Ob,.int .i64 oc] 83 (0,0)))∧ga (Below w.heap.size w w'))
 case atStart=>exact ⟨(0),(by first|rfl|(simp;done)|(simp [*];done)),H',⟨Nat.le_refl _⟩,⟨by (with_reducible repeat (first|refine Ca ?_ _|refine Ea ?_|refine Da ?_ _));exact ta.out⟩,⟨by (with_reducible repeat (first|refine Ca ?_ _|refine Ea ?_|refine Da ?_ _));exact ya.out⟩,⟨by repeat (first|(with_reducible first|exact HB.out|apply oa|apply ia|apply qa|refine ua ?_ Sa.out|refine ua ?_ qc.out)|exact HB.out)⟩⟩
 case round =>
  clear H'
  try clear c1
  try clear p2
  (try clear HA);(try clear Gf);(try clear ta);(try clear ya);(try clear HB);obtain ⟨Aa,rfl,HA,Gf,ta,ya,HB⟩:=hrel;cases gk with
  | zero=>exact absurd HA.out (by simp [ic.l0])
  | succ k1 =>
   have H:=HA.out;clear HA;simp only [ic.l0] at H
   by_cases c5:Aa < (Mc.length:Int)
   ·rw [if_pos c5] at H;have Al:decide (Aa < (Mc.length:Int))=true:=decide_eq_true c5;clear c5
    by_cases c6:0 ≤ Aa
    ·rw [if_pos c6] at H;have Yl:decide (0 ≤ Aa)=true:=decide_eq_true c6;clear c6;replace H:=Option.bind_eq_some_iff.mp H;obtain ⟨t104,LH,H⟩:=H;replace H:(if t104=true then (ic.l0 k1 (wrap64 (Aa + 1)) Oa La Pa Ja Fa Mc Ub Nb Ob oc) else (some false))=some r:=H;have A7:=ga.mk LH;clear LH
     by_cases c8:t104=true
     ·subst c8;have H1:(ic.l0 k1 (wrap64 (Aa + 1)) Oa La Pa Ja Fa Mc Ub Nb Ob oc)=some r:=by rw [if_pos rfl] at H;exact H
      clear H;have H:=H1;clear H1;have H':=ga.mk H;clear H;have Nam:=Bb.out;have zam:=Cb.out;have Ni:wr.cell? ⟨Ga,0,none⟩=some (.slice Ff Mc.length tf):=(ja ya.out 0).trans rfl;have Mi:wr.cell? ⟨Ga,1,none⟩=some (.int .i64 Ub):=(ja ya.out 1).trans rfl;have Li:wr.cell? ⟨Ga,2,none⟩=some (.int .i64 Nb):=(ja ya.out 2).trans rfl;have Ki:wr.cell? ⟨Ga,3,none⟩=some (.int .i64 Ob):=(ja ya.out 3).trans rfl;have Ji:wr.cell? ⟨Ga,4,none⟩=some (.int .i64 oc):=(ja ya.out 4).trans rfl;have Ii:=aa ya.out 0;have Hi:=aa ya.out 1;have Gi:=aa ya.out 2;have Fi:=aa ya.out 3;have Ei:=aa ya.out 4
      try go_wp2
      have Fb:=ga.mk (Ea ta.out);have Lb:=ga.mk (Ea ya.out);have Vb:=ga.mk (qa HB.out);clear ta ya HB;have ta:=Fb;have ya:=Lb;have HB:=Vb;clear Fb Lb Vb;have pI:0 ≤ (Aa:Int):=of_decide_eq_true (by first|(with_reducible assumption)|assumption);have jI:Aa < (Mc.length:Int):=of_decide_eq_true (by first|(with_reducible assumption)|assumption);obtain ⟨wh,K0,bn,Zm,Ym,Xm,Wm,Vm,Um⟩:=Cq Jm.out Aa pI jI;have Fv:=Um;have Gv:=Vm;have Hv:=Wm;have Iv:=Xm;have Jv:=Ym;have Kv:=Zm;have Lv:=bn;cases K0;replace bn:=Ra HB.out bn;replace Zm:=Ra HB.out Zm;replace Ym:=Ra HB.out Ym;replace Xm:=Ra HB.out Xm;replace Wm:=Ra HB.out Wm;replace Vm:=Ra HB.out Vm;replace Um:=Ra HB.out Um;replace pI:=eq_true pI;replace jI:=eq_true jI;refine xk (n:=8) (S:=fun w'=>w'.cell? ⟨za,0,none⟩=some (.slice xb Oa.length qb)∧w'.cell? ⟨za,1,none⟩=some (.int .i64 La)∧w'.cell? ⟨za,2,none⟩=some (.int .i64 Pa)∧w'.cell? ⟨za,3,none⟩=some (.int .i64 Ja)∧w'.cell? ⟨za,4,none⟩=some (.slice Pb Fa.length Gb)∧w'.cell? ⟨Ga,0,none⟩=some (.slice (some wh) Mc.length tf)∧w'.cell? ⟨Ga,1,none⟩=some (.int .i64 Ub)∧w'.cell? ⟨Ga,2,none⟩=some (.int .i64 Nb)∧w'.cell? ⟨Ga,3,none⟩=some (.int .i64 Ob)∧w'.cell? ⟨Ga,4,none⟩=some (.int .i64 oc)∧w'.cell? (wh.add ((Aa).toNat * 7))=some (.int .i64 ((Ba Mc Aa).f0))∧w'.cell? ⟨(wh.add ((Aa).toNat * 7)).block,(wh.add ((Aa).toNat * 7)).off + 1,none⟩=some (.int .i64 ((Ba Mc Aa).f1))∧w'.cell? ⟨(wh.add ((Aa).toNat * 7)).block,(wh.add ((Aa).toNat * 7)).off + 2,none⟩=some (.int .i64 ((Ba Mc Aa).f2))∧w'.cell? ⟨(wh.add ((Aa).toNat * 7)).block,(wh.add ((Aa).toNat * 7)).off + 3,none⟩=some (.int .i64 ((Ba Mc Aa).f3))∧w'.cell? ⟨(wh.add ((Aa).toNat * 7)).block,(wh.add ((Aa).toNat * 7)).off + 4,none⟩=some (.int .i64 ((Ba Mc Aa).f4))∧w'.cell? ⟨(wh.add ((Aa).toNat * 7)).block,(wh.add ((Aa).toNat * 7)).off + 5,none⟩=some (.int .i64 ((Ba Mc Aa).f5))∧w'.cell? ⟨(wh.add ((Aa).toNat * 7)).block,(wh.add ((Aa).toNat * 7)).off + 6,none⟩=some (.string ((Ba Mc Aa).f6))) (ds:=[]) #[false,false,false,false,false,false,false,false] (by kernel_rfl) rfl rfl ⟨(ja ta.out 0).trans rfl,(ja ta.out 1).trans rfl,(ja ta.out 2).trans rfl,(ja ta.out 3).trans rfl,(ja ta.out 4).trans rfl,(ja ya.out 0).trans rfl,(ja ya.out 1).trans rfl,(ja ya.out 2).trans rfl,(ja ya.out 3).trans rfl,(ja ya.out 4).trans rfl,(Ra HB.out Lv),(Ra HB.out Kv),(Ra HB.out Jv),(Ra HB.out Iv),(Ra HB.out Hv),(Ra HB.out Gv),(Ra HB.out Fv)⟩ (fun hHeld=>?_);refine Kh ic.uR ic.XL (fun Kf Hq=>?_);generalize wr.drew=gj at ta ya HB bn Zm Ym Xm Wm Vm Um hHeld ⊢;refine od (i:=1) (N:=some 16) (v:=?_) (a':=?_) #[false,true,false,false,false,false,false,false] rfl rfl (Cc Kf.out (by kernel_rfl)) (fun _ _ _ h=>h) (Or.inl ⟨by rfl,?_⟩) ?_ ?_;rotate_left
      ·intro w';go_simp;with_reducible rfl
      rotate_left
      ·simp only [Act.put,List.setIfInBounds_toArray,List.set_cons_zero,List.set_cons_succ,dc,ec]
       rfl
      refine od (i:=3) (N:=some 18) (v:=?_) (a':=?_) #[false,true,false,true,false,false,false,false] rfl rfl (Cc Kf.out (by kernel_rfl)) (fun _ _ _ h=>h) (Or.inl ⟨by rfl,?_⟩) ?_ ?_;rotate_left
      ·intro w';go_simp;with_reducible rfl
      rotate_left
      ·simp only [Act.put,List.setIfInBounds_toArray,List.set_cons_zero,List.set_cons_succ,dc,ec]
       rfl
      refine Ug (i:=0) (N:=some 15) (v:=?_) (a':=?_) #[true,true,false,true,false,false,false,false] rfl rfl (Te Kf.out Hq.out (by kernel_rfl)) (fun _ _ _ h=>h) (Or.inl ⟨by rfl,?_⟩) hHeld ?_ ?_;rotate_left
      ·rintro w' ⟨s0,s1,s2,s3,s4,s5,s6,s7,s8,s9,YH,yR,xR,wR,R5,Q5,P5⟩;go_simp;with_reducible rfl
      rotate_left
      ·simp only [Act.put,List.setIfInBounds_toArray,List.set_cons_zero,List.set_cons_succ,dc,ec]
       rfl
      refine Ug (i:=2) (N:=some 17) (v:=?_) (a':=?_) #[true,true,true,true,false,false,false,false] rfl rfl (Te Kf.out Hq.out (by kernel_rfl)) (fun _ _ _ h=>h) (Or.inl ⟨by rfl,?_⟩) hHeld ?_ ?_;rotate_left
      ·rintro w' ⟨s0,s1,s2,s3,s4,s5,s6,s7,s8,s9,YH,yR,xR,wR,R5,Q5,P5⟩;go_simp;with_reducible rfl
      rotate_left
      ·simp only [Act.put,List.setIfInBounds_toArray,List.set_cons_zero,List.set_cons_succ,dc,ec]
       rfl
      refine od (i:=4) (N:=some 19) (v:=?_) (a':=?_) #[true,true,true,true,true,false,false,false] rfl rfl (Cc Kf.out (by kernel_rfl)) (fun _ _ _ h=>h) (Or.inl ⟨by rfl,?_⟩) ?_ ?_;rotate_left
      ·intro w';go_simp;with_reducible rfl
      rotate_left
      ·simp only [Act.put,List.setIfInBounds_toArray,List.set_cons_zero,List.set_cons_succ,dc,ec]
       rfl
      refine Ug (i:=5) (N:=some 20) (v:=?_) (a':=?_) #[true,true,true,true,true,true,false,false] rfl rfl (Te Kf.out Hq.out (by kernel_rfl)) (fun _ _ _ h=>h) (Or.inl ⟨by rfl,?_⟩) hHeld ?_ ?_;rotate_left
      ·rintro w' ⟨s0,s1,s2,s3,s4,s5,s6,s7,s8,s9,YH,yR,xR,wR,R5,Q5,P5⟩;go_simp;with_reducible rfl
      rotate_left
      ·simp only [Act.put,List.setIfInBounds_toArray,List.set_cons_zero,List.set_cons_succ,dc,ec]
       rfl
      refine Yu (i:=6) (N:=some 21) #[true,true,true,true,true,true,true,false] rfl rfl (qm Kf.out (by kernel_rfl)) (by decide) (fun K hK=>?_);refine Nq Try.func121 (by kernel_rfl) rfl #[.agg #[.slice xb Oa.length qb,.int .i64 La,.int .i64 Pa,.int .i64 Ja,.slice Pb Fa.length Gb],.agg #[.int .i64 ((Ba Mc Aa).f0),.int .i64 ((Ba Mc Aa).f1),.int .i64 ((Ba Mc Aa).f2),.int .i64 ((Ba Mc Aa).f3),.int .i64 ((Ba Mc Aa).f4),.int .i64 ((Ba Mc Aa).f5),.string ((Ba Mc Aa).f6)]] (by rfl) rfl rfl (by (try simp only [List.map_toArray,List.map_cons,List.map_nil]);first|done|rfl|(simp only [List.length_drop,List.length_take];rfl)) ?_;with_reducible refine (mb.calls k1 _ _ Oa La Pa Ja _ _ Fa ((Ba Mc Aa).f0) ((Ba Mc Aa).f1) ((Ba Mc Aa).f2) ((Ba Mc Aa).f3) ((Ba Mc Aa).f4) ((Ba Mc Aa).f5) ((Ba Mc Aa).f6) true _ ?yc ?uc ?Ad ?yd A7.out).mono ?_
      (case yc=>repeat (first|exact (Kd.Mb Ue.out HB.out)|(with_reducible refine Kd.Sb ?_ _)|(with_reducible refine Kd.Rb ?_ _)|(with_reducible refine Kd.jc ?_)))
      (case uc=>exact af.out)
      (case Ad=>repeat (first|exact (Kd.Mb ng.out HB.out)|(with_reducible refine Kd.Sb ?_ _)|(with_reducible refine Kd.Rb ?_ _)|(with_reducible refine Kd.jc ?_)))
      (case yd=>exact Xg.out)
      rintro e dx ⟨rfl,hb⟩;refine ⟨_,rfl,?_⟩;have Fb:=ga.mk (Va (g:=za) (o:=.cells #[.slice xb Oa.length qb,.int .i64 La,.int .i64 Pa,.int .i64 Ja,.slice Pb Fa.length Gb] 45 (0,0)) (by (with_reducible repeat (first|refine Ca ?_ _|refine Ea ?_|refine Da ?_ _));exact ta.out) hb);have Lb:=ga.mk (Va (g:=Ga) (o:=.cells #[.slice (some wh) Mc.length tf,.int .i64 Ub,.int .i64 Nb,.int .i64 Ob,.int .i64 oc] 83 (0,0)) (by (with_reducible repeat (first|refine Ca ?_ _|refine Ea ?_|refine Da ?_ _));exact ya.out) hb);have Vb:=ga.mk (Qa (by repeat (first|(with_reducible first|exact HB.out|apply oa|apply ia|apply qa|refine ua ?_ Sa.out|refine ua ?_ qc.out)|exact HB.out)) hb);clear ta ya HB;have ta:=Fb;have ya:=Lb;have HB:=Vb;clear Fb Lb Vb;(try clear hb);(try clear Jj);(try clear hk);(try clear hi);refine hK.out _ _ ⟨(ja ta.out 0).trans rfl,(ja ta.out 1).trans rfl,(ja ta.out 2).trans rfl,(ja ta.out 3).trans rfl,(ja ta.out 4).trans rfl,(ja ya.out 0).trans rfl,(ja ya.out 1).trans rfl,(ja ya.out 2).trans rfl,(ja ya.out 3).trans rfl,(ja ya.out 4).trans rfl,(Ra HB.out Lv),(Ra HB.out Kv),(Ra HB.out Jv),(Ra HB.out Iv),(Ra HB.out Hv),(Ra HB.out Gv),(Ra HB.out Fv)⟩ (fun hHeld=>?_);clear hK K;refine Wn (a':=?_) ?_ ?_;rotate_left
      ·show Act.put _ (some 21) _=_
       simp only [Act.put,List.setIfInBounds_toArray,List.set_cons_zero,List.set_cons_succ,dc,ec]
       rfl
      refine od (i:=7) (N:=some 22) (v:=?_) (a':=?_) #[true,true,true,true,true,true,true,true] rfl rfl (Cc Kf.out (by kernel_rfl)) (fun _ _ _ h=>h) (Or.inl ⟨by rfl,?_⟩) ?_ ?_;rotate_left
      ·intro w';go_simp;with_reducible rfl
      rotate_left
      ·simp only [Act.put,List.setIfInBounds_toArray,List.set_cons_zero,List.set_cons_succ,dc,ec]
       rfl
      refine Wo (Vj Kf.out (by kernel_rfl)) ?_
      try go_wp2
      go_roundg k1
      case measure=>have:=Gf.out;omega
      case rel=>exact ⟨(wrap64 (Aa + 1)),(by first|rfl|(simp;done)|(simp [*];done)),H',⟨by have:=Gf.out;omega⟩,⟨by (with_reducible repeat (first|refine Ca ?_ _|refine Ea ?_|refine Da ?_ _));exact ta.out⟩,⟨by (with_reducible repeat (first|refine Ca ?_ _|refine Ea ?_|refine Da ?_ _));exact ya.out⟩,⟨by repeat (first|(with_reducible first|exact HB.out|apply oa|apply ia|apply qa|refine ua ?_ Sa.out|refine ua ?_ qc.out)|exact HB.out)⟩⟩
     ·replace c8:=Bool.eq_false_iff.mpr c8;subst c8;have H1:(some false)=some r:=by rw [if_neg (show ¬ (false=true) by decide)] at H;exact H
      clear H;have H:=H1;clear H1;obtain rfl:=Option.some.inj H;have aas:=Bb.out;have qar:=Cb.out;have rq:wr.cell? ⟨Ga,0,none⟩=some (.slice Ff Mc.length tf):=(ja ya.out 0).trans rfl;have qq:wr.cell? ⟨Ga,1,none⟩=some (.int .i64 Ub):=(ja ya.out 1).trans rfl;have pq:wr.cell? ⟨Ga,2,none⟩=some (.int .i64 Nb):=(ja ya.out 2).trans rfl;have oq:wr.cell? ⟨Ga,3,none⟩=some (.int .i64 Ob):=(ja ya.out 3).trans rfl;have mq:wr.cell? ⟨Ga,4,none⟩=some (.int .i64 oc):=(ja ya.out 4).trans rfl;have cq:=aa ya.out 0;have bq:=aa ya.out 1;have aq:=aa ya.out 2;have Zp:=aa ya.out 3;have Yp:=aa ya.out 4
      try go_wp2
      have Fb:=ga.mk (Ea ta.out);have Lb:=ga.mk (Ea ya.out);have Vb:=ga.mk (qa HB.out);clear ta ya HB;have ta:=Fb;have ya:=Lb;have HB:=Vb;clear Fb Lb Vb;have pI:0 ≤ (Aa:Int):=of_decide_eq_true (by first|(with_reducible assumption)|assumption);have jI:Aa < (Mc.length:Int):=of_decide_eq_true (by first|(with_reducible assumption)|assumption);obtain ⟨wh,K0,bn,Zm,Ym,Xm,Wm,Vm,Um⟩:=Cq Jm.out Aa pI jI;have Fv:=Um;have Gv:=Vm;have Hv:=Wm;have Iv:=Xm;have Jv:=Ym;have Kv:=Zm;have Lv:=bn;cases K0;replace bn:=Ra HB.out bn;replace Zm:=Ra HB.out Zm;replace Ym:=Ra HB.out Ym;replace Xm:=Ra HB.out Xm;replace Wm:=Ra HB.out Wm;replace Vm:=Ra HB.out Vm;replace Um:=Ra HB.out Um;replace pI:=eq_true pI;replace jI:=eq_true jI;refine xk (n:=8) (S:=fun w'=>w'.cell? ⟨za,0,none⟩=some (.slice xb Oa.length qb)∧w'.cell? ⟨za,1,none⟩=some (.int .i64 La)∧w'.cell? ⟨za,2,none⟩=some (.int .i64 Pa)∧w'.cell? ⟨za,3,none⟩=some (.int .i64 Ja)∧w'.cell? ⟨za,4,none⟩=some (.slice Pb Fa.length Gb)∧w'.cell? ⟨Ga,0,none⟩=some (.slice (some wh) Mc.length tf)∧w'.cell? ⟨Ga,1,none⟩=some (.int .i64 Ub)∧w'.cell? ⟨Ga,2,none⟩=some (.int .i64 Nb)∧w'.cell? ⟨Ga,3,none⟩=some (.int .i64 Ob)∧w'.cell? ⟨Ga,4,none⟩=some (.int .i64 oc)∧w'.cell? (wh.add ((Aa).toNat * 7))=some (.int .i64 ((Ba Mc Aa).f0))∧w'.cell? ⟨(wh.add ((Aa).toNat * 7)).block,(wh.add ((Aa).toNat * 7)).off + 1,none⟩=some (.int .i64 ((Ba Mc Aa).f1))∧w'.cell? ⟨(wh.add ((Aa).toNat * 7)).block,(wh.add ((Aa).toNat * 7)).off + 2,none⟩=some (.int .i64 ((Ba Mc Aa).f2))∧w'.cell? ⟨(wh.add ((Aa).toNat * 7)).block,(wh.add ((Aa).toNat * 7)).off + 3,none⟩=some (.int .i64 ((Ba Mc Aa).f3))∧w'.cell? ⟨(wh.add ((Aa).toNat * 7)).block,(wh.add ((Aa).toNat * 7)).off + 4,none⟩=some (.int .i64 ((Ba Mc Aa).f4))∧w'.cell? ⟨(wh.add ((Aa).toNat * 7)).block,(wh.add ((Aa).toNat * 7)).off + 5,none⟩=some (.int .i64 ((Ba Mc Aa).f5))∧w'.cell? ⟨(wh.add ((Aa).toNat * 7)).block,(wh.add ((Aa).toNat * 7)).off + 6,none⟩=some (.string ((Ba Mc Aa).f6))) (ds:=[]) #[false,false,false,false,false,false,false,false] (by kernel_rfl) rfl rfl ⟨(ja ta.out 0).trans rfl,(ja ta.out 1).trans rfl,(ja ta.out 2).trans rfl,(ja ta.out 3).trans rfl,(ja ta.out 4).trans rfl,(ja ya.out 0).trans rfl,(ja ya.out 1).trans rfl,(ja ya.out 2).trans rfl,(ja ya.out 3).trans rfl,(ja ya.out 4).trans rfl,(Ra HB.out Lv),(Ra HB.out Kv),(Ra HB.out Jv),(Ra HB.out Iv),(Ra HB.out Hv),(Ra HB.out Gv),(Ra HB.out Fv)⟩ (fun hHeld=>?_);refine Kh ic.uR ic.XL (fun Kf Hq=>?_);generalize wr.drew=Gp at ta ya HB bn Zm Ym Xm Wm Vm Um hHeld ⊢;refine od (i:=1) (N:=some 16) (v:=?_) (a':=?_) #[false,true,false,false,false,false,false,false] rfl rfl (Cc Kf.out (by kernel_rfl)) (fun _ _ _ h=>h) (Or.inl ⟨by rfl,?_⟩) ?_ ?_;rotate_left
      ·intro w';go_simp;with_reducible rfl
      rotate_left
      ·simp only [Act.put,List.setIfInBounds_toArray,List.set_cons_zero,List.set_cons_succ,dc,ec]
       rfl
      refine od (i:=3) (N:=some 18) (v:=?_) (a':=?_) #[false,true,false,true,false,false,false,false] rfl rfl (Cc Kf.out (by kernel_rfl)) (fun _ _ _ h=>h) (Or.inl ⟨by rfl,?_⟩) ?_ ?_;rotate_left
      ·intro w';go_simp;with_reducible rfl
      rotate_left
      ·simp only [Act.put,List.setIfInBounds_toArray,List.set_cons_zero,List.set_cons_succ,dc,ec]
       rfl
      refine Ug (i:=0) (N:=some 15) (v:=?_) (a':=?_) #[true,true,false,true,false,false,false,false] rfl rfl (Te Kf.out Hq.out (by kernel_rfl)) (fun _ _ _ h=>h) (Or.inl ⟨by rfl,?_⟩) hHeld ?_ ?_;rotate_left
      ·rintro w' ⟨s0,s1,s2,s3,s4,s5,s6,s7,s8,s9,YH,yR,xR,wR,R5,Q5,P5⟩;go_simp;with_reducible rfl
      rotate_left
      ·simp only [Act.put,List.setIfInBounds_toArray,List.set_cons_zero,List.set_cons_succ,dc,ec]
       rfl
      refine Ug (i:=2) (N:=some 17) (v:=?_) (a':=?_) #[true,true,true,true,false,false,false,false] rfl rfl (Te Kf.out Hq.out (by kernel_rfl)) (fun _ _ _ h=>h) (Or.inl ⟨by rfl,?_⟩) hHeld ?_ ?_;rotate_left
      ·rintro w' ⟨s0,s1,s2,s3,s4,s5,s6,s7,s8,s9,YH,yR,xR,wR,R5,Q5,P5⟩;go_simp;with_reducible rfl
      rotate_left
      ·simp only [Act.put,List.setIfInBounds_toArray,List.set_cons_zero,List.set_cons_succ,dc,ec]
       rfl
      refine od (i:=4) (N:=some 19) (v:=?_) (a':=?_) #[true,true,true,true,true,false,false,false] rfl rfl (Cc Kf.out (by kernel_rfl)) (fun _ _ _ h=>h) (Or.inl ⟨by rfl,?_⟩) ?_ ?_;rotate_left
      ·intro w';go_simp;with_reducible rfl
      rotate_left
      ·simp only [Act.put,List.setIfInBounds_toArray,List.set_cons_zero,List.set_cons_succ,dc,ec]
       rfl
      refine Ug (i:=5) (N:=some 20) (v:=?_) (a':=?_) #[true,true,true,true,true,true,false,false] rfl rfl (Te Kf.out Hq.out (by kernel_rfl)) (fun _ _ _ h=>h) (Or.inl ⟨by rfl,?_⟩) hHeld ?_ ?_;rotate_left
      ·rintro w' ⟨s0,s1,s2,s3,s4,s5,s6,s7,s8,s9,YH,yR,xR,wR,R5,Q5,P5⟩;go_simp;with_reducible rfl
      rotate_left
      ·simp only [Act.put,List.setIfInBounds_toArray,List.set_cons_zero,List.set_cons_succ,dc,ec]
       rfl
      refine Yu (i:=6) (N:=some 21) #[true,true,true,true,true,true,true,false] rfl rfl (qm Kf.out (by kernel_rfl)) (by decide) (fun K hK=>?_);refine Nq Try.func121 (by kernel_rfl) rfl #[.agg #[.slice xb Oa.length qb,.int .i64 La,.int .i64 Pa,.int .i64 Ja,.slice Pb Fa.length Gb],.agg #[.int .i64 ((Ba Mc Aa).f0),.int .i64 ((Ba Mc Aa).f1),.int .i64 ((Ba Mc Aa).f2),.int .i64 ((Ba Mc Aa).f3),.int .i64 ((Ba Mc Aa).f4),.int .i64 ((Ba Mc Aa).f5),.string ((Ba Mc Aa).f6)]] (by rfl) rfl rfl (by (try simp only [List.map_toArray,List.map_cons,List.map_nil]);first|done|rfl|(simp only [List.length_drop,List.length_take];rfl)) ?_;with_reducible refine (mb.calls k1 _ _ Oa La Pa Ja _ _ Fa ((Ba Mc Aa).f0) ((Ba Mc Aa).f1) ((Ba Mc Aa).f2) ((Ba Mc Aa).f3) ((Ba Mc Aa).f4) ((Ba Mc Aa).f5) ((Ba Mc Aa).f6) false _ ?yc ?uc ?Ad ?yd A7.out).mono ?_
      (case yc=>repeat (first|exact (Kd.Mb Ue.out HB.out)|(with_reducible refine Kd.Sb ?_ _)|(with_reducible refine Kd.Rb ?_ _)|(with_reducible refine Kd.jc ?_)))
      (case uc=>exact af.out)
      (case Ad=>repeat (first|exact (Kd.Mb ng.out HB.out)|(with_reducible refine Kd.Sb ?_ _)|(with_reducible refine Kd.Rb ?_ _)|(with_reducible refine Kd.jc ?_)))
      (case yd=>exact Xg.out)
      rintro e wB ⟨rfl,hb⟩;refine ⟨_,rfl,?_⟩;have Fb:=ga.mk (Va (g:=za) (o:=.cells #[.slice xb Oa.length qb,.int .i64 La,.int .i64 Pa,.int .i64 Ja,.slice Pb Fa.length Gb] 45 (0,0)) (by (with_reducible repeat (first|refine Ca ?_ _|refine Ea ?_|refine Da ?_ _));exact ta.out) hb);have Lb:=ga.mk (Va (g:=Ga) (o:=.cells #[.slice (some wh) Mc.length tf,.int .i64 Ub,.int .i64 Nb,.int .i64 Ob,.int .i64 oc] 83 (0,0)) (by (with_reducible repeat (first|refine Ca ?_ _|refine Ea ?_|refine Da ?_ _));exact ya.out) hb);have Vb:=ga.mk (Qa (by repeat (first|(with_reducible first|exact HB.out|apply oa|apply ia|apply qa|refine ua ?_ Sa.out|refine ua ?_ qc.out)|exact HB.out)) hb);clear ta ya HB;have ta:=Fb;have ya:=Lb;have HB:=Vb;clear Fb Lb Vb;(try clear hb);(try clear Jj);(try clear hk);(try clear hi);refine hK.out _ _ ⟨(ja ta.out 0).trans rfl,(ja ta.out 1).trans rfl,(ja ta.out 2).trans rfl,(ja ta.out 3).trans rfl,(ja ta.out 4).trans rfl,(ja ya.out 0).trans rfl,(ja ya.out 1).trans rfl,(ja ya.out 2).trans rfl,(ja ya.out 3).trans rfl,(ja ya.out 4).trans rfl,(Ra HB.out Lv),(Ra HB.out Kv),(Ra HB.out Jv),(Ra HB.out Iv),(Ra HB.out Hv),(Ra HB.out Gv),(Ra HB.out Fv)⟩ (fun hHeld=>?_);clear hK K;refine Wn (a':=?_) ?_ ?_;rotate_left
      ·show Act.put _ (some 21) _=_
       simp only [Act.put,List.setIfInBounds_toArray,List.set_cons_zero,List.set_cons_succ,dc,ec]
       rfl
      refine od (i:=7) (N:=some 22) (v:=?_) (a':=?_) #[true,true,true,true,true,true,true,true] rfl rfl (Cc Kf.out (by kernel_rfl)) (fun _ _ _ h=>h) (Or.inl ⟨by rfl,?_⟩) ?_ ?_;rotate_left
      ·intro w';go_simp;with_reducible rfl
      rotate_left
      ·simp only [Act.put,List.setIfInBounds_toArray,List.set_cons_zero,List.set_cons_succ,dc,ec]
       rfl
      refine Wo (Vj Kf.out (by kernel_rfl)) ?_
      try go_wp2
      go_ret;exact ⟨by first|rfl|(simp [Na,Ma] <;> rfl)|(simp [*,Na,Ma] <;> rfl),by repeat (first|(with_reducible first|exact HB.out|apply oa|apply ia|apply qa|refine ua ?_ Sa.out|refine ua ?_ qc.out)|exact HB.out)⟩
    ·rw [if_neg c6] at H;exact absurd H (by simp)
   ·rw [if_neg c5] at H;have Al:decide (Aa < (Mc.length:Int))=false:=decide_eq_false c5;clear c5;replace H:=Option.bind_eq_some_iff.mp H;obtain ⟨t105,WQ,H⟩:=H;replace H:((Za.f Nb 0 (wrap64 (Ja - 1))).bind fun t106=>(if Ub=0 then (if t105=true then (if Nb=0 then (some (oc == 0)) else (some false)) else (some false)) else (if Ub=1 then (if t105=true then (if t106=true then ((Za.f oc 0 (wrap64 ((Fa.length:Int) - 1))).bind fun t107=>(some t107)) else (some false)) else (some false)) else (if Ub=2 then (if t106=true then (if Ob=0 then (some (oc == 0)) else (some false)) else (some false)) else (some false)))))=some r:=H;have yN:=ga.mk WQ;clear WQ;replace H:=Option.bind_eq_some_iff.mp H;obtain ⟨t106,Dad,H⟩:=H;replace H:(if Ub=0 then (if t105=true then (if Nb=0 then (some (oc == 0)) else (some false)) else (some false)) else (if Ub=1 then (if t105=true then (if t106=true then ((Za.f oc 0 (wrap64 ((Fa.length:Int) - 1))).bind fun t107=>(some t107)) else (some false)) else (some false)) else (if Ub=2 then (if t106=true then (if Ob=0 then (some (oc == 0)) else (some false)) else (some false)) else (some false))))=some r:=H;have pR:=ga.mk Dad;clear Dad
    by_cases Mt:Ub=0
    ·rw [if_pos Mt] at H;have FA:(Ub == 0)=true:=beq_iff_eq.mpr Mt;have UL:(Ub != 0)=false:=bne_eq_false_iff_eq.mpr Mt;clear Mt
     by_cases bx:t105=true
     ·subst bx;have H1:(if Nb=0 then (some (oc == 0)) else (some false))=some r:=by rw [if_pos rfl] at H;exact H
      clear H;have H:=H1;clear H1
      by_cases Yx:Nb=0
      ·rw [if_pos Yx] at H;have fH:(Nb == 0)=true:=beq_iff_eq.mpr Yx;have rab:(Nb != 0)=false:=bne_eq_false_iff_eq.mpr Yx;clear Yx;obtain rfl:=Option.some.inj H;have U6:=Bb.out;have J6:=Cb.out;have Oo:wr.cell? ⟨Ga,0,none⟩=some (.slice Ff Mc.length tf):=(ja ya.out 0).trans rfl;have Mo:wr.cell? ⟨Ga,1,none⟩=some (.int .i64 Ub):=(ja ya.out 1).trans rfl;have Lo:wr.cell? ⟨Ga,2,none⟩=some (.int .i64 Nb):=(ja ya.out 2).trans rfl;have Ko:wr.cell? ⟨Ga,3,none⟩=some (.int .i64 Ob):=(ja ya.out 3).trans rfl;have Jo:wr.cell? ⟨Ga,4,none⟩=some (.int .i64 oc):=(ja ya.out 4).trans rfl;have Bo:=aa ya.out 0;have zo:=aa ya.out 1;have yo:=aa ya.out 2;have xo:=aa ya.out 3;have vo:=aa ya.out 4;have Ew:wr.cell? ⟨za,0,none⟩=some (.slice xb Oa.length qb):=(ja ta.out 0).trans rfl;have Dw:wr.cell? ⟨za,1,none⟩=some (.int .i64 La):=(ja ta.out 1).trans rfl;have Cw:wr.cell? ⟨za,2,none⟩=some (.int .i64 Pa):=(ja ta.out 2).trans rfl;have Bw:wr.cell? ⟨za,3,none⟩=some (.int .i64 Ja):=(ja ta.out 3).trans rfl;have Aw:wr.cell? ⟨za,4,none⟩=some (.slice Pb Fa.length Gb):=(ja ta.out 4).trans rfl;have jw:=aa ta.out 0;have iw:=aa ta.out 1;have gw:=aa ta.out 2;have ew:=aa ta.out 3;have dw:=aa ta.out 4;go_wp2_with (first|((with_reducible refine zb (f:=81) rfl ?_);refine Dc (some 29) rfl rfl Try.func81 (by kernel_rfl) rfl #[.int .i64 Ob,.int .i64 0,.int .i64 (wrap64 ((Fa.length:Int) - 1))] rfl (by (try simp only [List.map_toArray,List.map_cons,List.map_nil]);first|done|rfl|(simp only [List.length_drop,List.length_take];rfl)) ?_;(with_reducible refine (Za.calls Ob 0 (wrap64 ((Fa.length:Int) - 1)) true _ yN.out).mono ?_);rintro e w' ⟨rfl,⟨nd,rfl⟩⟩;refine ⟨_,rfl,?_⟩)|((with_reducible refine zb (f:=81) rfl ?_);refine Dc (some 35) rfl rfl Try.func81 (by kernel_rfl) rfl #[.int .i64 Nb,.int .i64 0,.int .i64 (wrap64 (Ja - 1))] rfl (by (try simp only [List.map_toArray,List.map_cons,List.map_nil]);first|done|rfl|(simp only [List.length_drop,List.length_take];rfl)) ?_;(with_reducible refine (Za.calls Nb 0 (wrap64 (Ja - 1)) t106 _ pR.out).mono ?_);rintro e w' ⟨rfl,⟨nd,rfl⟩⟩;refine ⟨_,rfl,?_⟩));go_ret;exact ⟨by first|rfl|(simp [Na,Ma] <;> rfl)|(simp [*,Na,Ma] <;> rfl),by repeat (first|(with_reducible first|exact HB.out|apply oa|apply ia|apply qa|refine ua ?_ Sa.out|refine ua ?_ qc.out)|exact HB.out)⟩
      ·rw [if_neg Yx] at H;have fH:(Nb == 0)=false:=beq_eq_false_iff_ne.mpr Yx;have rab:(Nb != 0)=true:=bne_iff_ne.mpr Yx;obtain rfl:=Option.some.inj H;have R6:=Bb.out;have H6:=Cb.out;have zw:wr.cell? ⟨Ga,0,none⟩=some (.slice Ff Mc.length tf):=(ja ya.out 0).trans rfl;have yw:wr.cell? ⟨Ga,1,none⟩=some (.int .i64 Ub):=(ja ya.out 1).trans rfl;have xw:wr.cell? ⟨Ga,2,none⟩=some (.int .i64 Nb):=(ja ya.out 2).trans rfl;have vw:wr.cell? ⟨Ga,3,none⟩=some (.int .i64 Ob):=(ja ya.out 3).trans rfl;have uw:wr.cell? ⟨Ga,4,none⟩=some (.int .i64 oc):=(ja ya.out 4).trans rfl;have cw:=aa ya.out 0;have bw:=aa ya.out 1;have Zv:=aa ya.out 2;have Yv:=aa ya.out 3;have Xv:=aa ya.out 4;have Bz:wr.cell? ⟨za,0,none⟩=some (.slice xb Oa.length qb):=(ja ta.out 0).trans rfl;have Az:wr.cell? ⟨za,1,none⟩=some (.int .i64 La):=(ja ta.out 1).trans rfl;have zz:wr.cell? ⟨za,2,none⟩=some (.int .i64 Pa):=(ja ta.out 2).trans rfl;have yz:wr.cell? ⟨za,3,none⟩=some (.int .i64 Ja):=(ja ta.out 3).trans rfl;have xz:wr.cell? ⟨za,4,none⟩=some (.slice Pb Fa.length Gb):=(ja ta.out 4).trans rfl;have bz:=aa ta.out 0;have az:=aa ta.out 1;have Zy:=aa ta.out 2;have Yy:=aa ta.out 3;have Xy:=aa ta.out 4;go_wp2_with (first|((with_reducible refine zb (f:=81) rfl ?_);refine Dc (some 29) rfl rfl Try.func81 (by kernel_rfl) rfl #[.int .i64 Ob,.int .i64 0,.int .i64 (wrap64 ((Fa.length:Int) - 1))] rfl (by (try simp only [List.map_toArray,List.map_cons,List.map_nil]);first|done|rfl|(simp only [List.length_drop,List.length_take];rfl)) ?_;(with_reducible refine (Za.calls Ob 0 (wrap64 ((Fa.length:Int) - 1)) true _ yN.out).mono ?_);rintro e w' ⟨rfl,⟨nd,rfl⟩⟩;refine ⟨_,rfl,?_⟩)|((with_reducible refine zb (f:=81) rfl ?_);refine Dc (some 35) rfl rfl Try.func81 (by kernel_rfl) rfl #[.int .i64 Nb,.int .i64 0,.int .i64 (wrap64 (Ja - 1))] rfl (by (try simp only [List.map_toArray,List.map_cons,List.map_nil]);first|done|rfl|(simp only [List.length_drop,List.length_take];rfl)) ?_;(with_reducible refine (Za.calls Nb 0 (wrap64 (Ja - 1)) t106 _ pR.out).mono ?_);rintro e w' ⟨rfl,⟨nd,rfl⟩⟩;refine ⟨_,rfl,?_⟩));go_ret;exact ⟨by first|rfl|(simp [Na,Ma] <;> rfl)|(simp [*,Na,Ma] <;> rfl),by repeat (first|(with_reducible first|exact HB.out|apply oa|apply ia|apply qa|refine ua ?_ Sa.out|refine ua ?_ qc.out)|exact HB.out)⟩
     ·replace bx:=Bool.eq_false_iff.mpr bx;subst bx;have H1:(some false)=some r:=by rw [if_neg (show ¬ (false=true) by decide)] at H;exact H
      clear H;have H:=H1;clear H1;obtain rfl:=Option.some.inj H;have Sar:=Bb.out;have iar:=Cb.out;have EL:wr.cell? ⟨Ga,0,none⟩=some (.slice Ff Mc.length tf):=(ja ya.out 0).trans rfl;have DL:wr.cell? ⟨Ga,1,none⟩=some (.int .i64 Ub):=(ja ya.out 1).trans rfl;have CL:wr.cell? ⟨Ga,2,none⟩=some (.int .i64 Nb):=(ja ya.out 2).trans rfl;have BL:wr.cell? ⟨Ga,3,none⟩=some (.int .i64 Ob):=(ja ya.out 3).trans rfl;have AL:wr.cell? ⟨Ga,4,none⟩=some (.int .i64 oc):=(ja ya.out 4).trans rfl;have PK:=aa ya.out 0;have OK:=aa ya.out 1;have NK:=aa ya.out 2;have MK:=aa ya.out 3;have LK:=aa ya.out 4;have wz:wr.cell? ⟨za,0,none⟩=some (.slice xb Oa.length qb):=(ja ta.out 0).trans rfl;have uz:wr.cell? ⟨za,1,none⟩=some (.int .i64 La):=(ja ta.out 1).trans rfl;have rz:wr.cell? ⟨za,2,none⟩=some (.int .i64 Pa):=(ja ta.out 2).trans rfl;have qz:wr.cell? ⟨za,3,none⟩=some (.int .i64 Ja):=(ja ta.out 3).trans rfl;have pz:wr.cell? ⟨za,4,none⟩=some (.slice Pb Fa.length Gb):=(ja ta.out 4).trans rfl;have Wy:=aa ta.out 0;have Vy:=aa ta.out 1;have Uy:=aa ta.out 2;have Ty:=aa ta.out 3;have Sy:=aa ta.out 4;go_wp2_with (first|((with_reducible refine zb (f:=81) rfl ?_);refine Dc (some 29) rfl rfl Try.func81 (by kernel_rfl) rfl #[.int .i64 Ob,.int .i64 0,.int .i64 (wrap64 ((Fa.length:Int) - 1))] rfl (by (try simp only [List.map_toArray,List.map_cons,List.map_nil]);first|done|rfl|(simp only [List.length_drop,List.length_take];rfl)) ?_;(with_reducible refine (Za.calls Ob 0 (wrap64 ((Fa.length:Int) - 1)) false _ yN.out).mono ?_);rintro e w' ⟨rfl,⟨nd,rfl⟩⟩;refine ⟨_,rfl,?_⟩)|((with_reducible refine zb (f:=81) rfl ?_);refine Dc (some 35) rfl rfl Try.func81 (by kernel_rfl) rfl #[.int .i64 Nb,.int .i64 0,.int .i64 (wrap64 (Ja - 1))] rfl (by (try simp only [List.map_toArray,List.map_cons,List.map_nil]);first|done|rfl|(simp only [List.length_drop,List.length_take];rfl)) ?_;(with_reducible refine (Za.calls Nb 0 (wrap64 (Ja - 1)) t106 _ pR.out).mono ?_);rintro e w' ⟨rfl,⟨nd,rfl⟩⟩;refine ⟨_,rfl,?_⟩));go_ret;exact ⟨by first|rfl|(simp [Na,Ma] <;> rfl)|(simp [*,Na,Ma] <;> rfl),by repeat (first|(with_reducible first|exact HB.out|apply oa|apply ia|apply qa|refine ua ?_ Sa.out|refine ua ?_ qc.out)|exact HB.out)⟩
    ·rw [if_neg Mt] at H;have FA:(Ub == 0)=false:=beq_eq_false_iff_ne.mpr Mt;have UL:(Ub != 0)=true:=bne_iff_ne.mpr Mt
     by_cases TL:Ub=1
     ·rw [if_pos TL] at H;have gQ:(Ub == 1)=true:=beq_iff_eq.mpr TL;have oab:(Ub != 1)=false:=bne_eq_false_iff_eq.mpr TL;clear TL
      by_cases jN:t105=true
      ·subst jN;have H1:(if t106=true then ((Za.f oc 0 (wrap64 ((Fa.length:Int) - 1))).bind fun t107=>(some t107)) else (some false))=some r:=by rw [if_pos rfl] at H;exact H
       clear H;have H:=H1;clear H1
       by_cases dH:t106=true
       ·subst dH;have H1:((Za.f oc 0 (wrap64 ((Fa.length:Int) - 1))).bind fun t107=>(some t107))=some r:=by rw [if_pos rfl] at H;exact H
        clear H;have H:=H1;clear H1;replace H:=Option.bind_eq_some_iff.mp H;obtain ⟨t107,vad,H⟩:=H;replace H:(some t107)=some r:=H;have A34:=ga.mk vad;clear vad;obtain rfl:=Option.some.inj H;have P6:=Bb.out;have F6:=Cb.out;have fE:wr.cell? ⟨Ga,0,none⟩=some (.slice Ff Mc.length tf):=(ja ya.out 0).trans rfl;have eE:wr.cell? ⟨Ga,1,none⟩=some (.int .i64 Ub):=(ja ya.out 1).trans rfl;have cE:wr.cell? ⟨Ga,2,none⟩=some (.int .i64 Nb):=(ja ya.out 2).trans rfl;have bE:wr.cell? ⟨Ga,3,none⟩=some (.int .i64 Ob):=(ja ya.out 3).trans rfl;have aE:wr.cell? ⟨Ga,4,none⟩=some (.int .i64 oc):=(ja ya.out 4).trans rfl;have eD:=aa ya.out 0;have dD:=aa ya.out 1;have cD:=aa ya.out 2;have bD:=aa ya.out 3;have aD:=aa ya.out 4;have CU:wr.cell? ⟨za,0,none⟩=some (.slice xb Oa.length qb):=(ja ta.out 0).trans rfl;have BU:wr.cell? ⟨za,1,none⟩=some (.int .i64 La):=(ja ta.out 1).trans rfl;have AU:wr.cell? ⟨za,2,none⟩=some (.int .i64 Pa):=(ja ta.out 2).trans rfl;have zU:wr.cell? ⟨za,3,none⟩=some (.int .i64 Ja):=(ja ta.out 3).trans rfl;have yU:wr.cell? ⟨za,4,none⟩=some (.slice Pb Fa.length Gb):=(ja ta.out 4).trans rfl;have fT:=aa ta.out 0;have eT:=aa ta.out 1;have cT:=aa ta.out 2;have bT:=aa ta.out 3;have aT:=aa ta.out 4;go_wp2_with (first|((with_reducible refine zb (f:=81) rfl ?_);refine Dc (some 29) rfl rfl Try.func81 (by kernel_rfl) rfl #[.int .i64 Ob,.int .i64 0,.int .i64 (wrap64 ((Fa.length:Int) - 1))] rfl (by (try simp only [List.map_toArray,List.map_cons,List.map_nil]);first|done|rfl|(simp only [List.length_drop,List.length_take];rfl)) ?_;(with_reducible refine (Za.calls Ob 0 (wrap64 ((Fa.length:Int) - 1)) true _ yN.out).mono ?_);rintro e w' ⟨rfl,⟨nd,rfl⟩⟩;refine ⟨_,rfl,?_⟩)|((with_reducible refine zb (f:=81) rfl ?_);refine Dc (some 35) rfl rfl Try.func81 (by kernel_rfl) rfl #[.int .i64 Nb,.int .i64 0,.int .i64 (wrap64 (Ja - 1))] rfl (by (try simp only [List.map_toArray,List.map_cons,List.map_nil]);first|done|rfl|(simp only [List.length_drop,List.length_take];rfl)) ?_;(with_reducible refine (Za.calls Nb 0 (wrap64 (Ja - 1)) true _ pR.out).mono ?_);rintro e w' ⟨rfl,⟨nd,rfl⟩⟩;refine ⟨_,rfl,?_⟩)|(go_at_call 81;(with_reducible refine (Za.calls oc 0 (wrap64 ((Fa.length:Int) - 1)) t107 _ A34.out).mono ?_);rintro e w' ⟨rfl,⟨nd,rfl⟩⟩));go_ret;exact ⟨by first|rfl|(simp [Na,Ma] <;> rfl)|(simp [*,Na,Ma] <;> rfl),by repeat (first|(with_reducible first|exact HB.out|apply oa|apply ia|apply qa|refine ua ?_ Sa.out|refine ua ?_ qc.out)|exact HB.out)⟩
       ·replace dH:=Bool.eq_false_iff.mpr dH;subst dH;have H1:(some false)=some r:=by rw [if_neg (show ¬ (false=true) by decide)] at H;exact H
        clear H;have H:=H1;clear H1;obtain rfl:=Option.some.inj H;have Lar:=Bb.out;have aar:=Cb.out;have qL:wr.cell? ⟨Ga,0,none⟩=some (.slice Ff Mc.length tf):=(ja ya.out 0).trans rfl;have pL:wr.cell? ⟨Ga,1,none⟩=some (.int .i64 Ub):=(ja ya.out 1).trans rfl;have oL:wr.cell? ⟨Ga,2,none⟩=some (.int .i64 Nb):=(ja ya.out 2).trans rfl;have nL:wr.cell? ⟨Ga,3,none⟩=some (.int .i64 Ob):=(ja ya.out 3).trans rfl;have mL:wr.cell? ⟨Ga,4,none⟩=some (.int .i64 oc):=(ja ya.out 4).trans rfl;have zK:=aa ya.out 0;have yK:=aa ya.out 1;have xK:=aa ya.out 2;have wK:=aa ya.out 3;have vK:=aa ya.out 4;have gz:wr.cell? ⟨za,0,none⟩=some (.slice xb Oa.length qb):=(ja ta.out 0).trans rfl;have fz:wr.cell? ⟨za,1,none⟩=some (.int .i64 La):=(ja ta.out 1).trans rfl;have ez:wr.cell? ⟨za,2,none⟩=some (.int .i64 Pa):=(ja ta.out 2).trans rfl;have dz:wr.cell? ⟨za,3,none⟩=some (.int .i64 Ja):=(ja ta.out 3).trans rfl;have cz:wr.cell? ⟨za,4,none⟩=some (.slice Pb Fa.length Gb):=(ja ta.out 4).trans rfl;have My:=aa ta.out 0;have Ky:=aa ta.out 1;have Jy:=aa ta.out 2;have Iy:=aa ta.out 3;have Hy:=aa ta.out 4;go_wp2_with (first|((with_reducible refine zb (f:=81) rfl ?_);refine Dc (some 29) rfl rfl Try.func81 (by kernel_rfl) rfl #[.int .i64 Ob,.int .i64 0,.int .i64 (wrap64 ((Fa.length:Int) - 1))] rfl (by (try simp only [List.map_toArray,List.map_cons,List.map_nil]);first|done|rfl|(simp only [List.length_drop,List.length_take];rfl)) ?_;(with_reducible refine (Za.calls Ob 0 (wrap64 ((Fa.length:Int) - 1)) true _ yN.out).mono ?_);rintro e w' ⟨rfl,⟨nd,rfl⟩⟩;refine ⟨_,rfl,?_⟩)|((with_reducible refine zb (f:=81) rfl ?_);refine Dc (some 35) rfl rfl Try.func81 (by kernel_rfl) rfl #[.int .i64 Nb,.int .i64 0,.int .i64 (wrap64 (Ja - 1))] rfl (by (try simp only [List.map_toArray,List.map_cons,List.map_nil]);first|done|rfl|(simp only [List.length_drop,List.length_take];rfl)) ?_;(with_reducible refine (Za.calls Nb 0 (wrap64 (Ja - 1)) false _ pR.out).mono ?_);rintro e w' ⟨rfl,⟨nd,rfl⟩⟩;refine ⟨_,rfl,?_⟩));go_ret;exact ⟨by first|rfl|(simp [Na,Ma] <;> rfl)|(simp [*,Na,Ma] <;> rfl),by repeat (first|(with_reducible first|exact HB.out|apply oa|apply ia|apply qa|refine ua ?_ Sa.out|refine ua ?_ qc.out)|exact HB.out)⟩
      ·replace jN:=Bool.eq_false_iff.mpr jN;subst jN;have H1:(some false)=some r:=by rw [if_neg (show ¬ (false=true) by decide)] at H;exact H
       clear H;have H:=H1;clear H1;obtain rfl:=Option.some.inj H;have M6:=Bb.out;have C6:=Cb.out;have kL:wr.cell? ⟨Ga,0,none⟩=some (.slice Ff Mc.length tf):=(ja ya.out 0).trans rfl;have jL:wr.cell? ⟨Ga,1,none⟩=some (.int .i64 Ub):=(ja ya.out 1).trans rfl;have iL:wr.cell? ⟨Ga,2,none⟩=some (.int .i64 Nb):=(ja ya.out 2).trans rfl;have gL:wr.cell? ⟨Ga,3,none⟩=some (.int .i64 Ob):=(ja ya.out 3).trans rfl;have fL:wr.cell? ⟨Ga,4,none⟩=some (.int .i64 oc):=(ja ya.out 4).trans rfl;have uK:=aa ya.out 0;have tK:=aa ya.out 1;have sK:=aa ya.out 2;have rK:=aa ya.out 3;have qK:=aa ya.out 4;have oU:wr.cell? ⟨za,0,none⟩=some (.slice xb Oa.length qb):=(ja ta.out 0).trans rfl;have nU:wr.cell? ⟨za,1,none⟩=some (.int .i64 La):=(ja ta.out 1).trans rfl;have mU:wr.cell? ⟨za,2,none⟩=some (.int .i64 Pa):=(ja ta.out 2).trans rfl;have lU:wr.cell? ⟨za,3,none⟩=some (.int .i64 Ja):=(ja ta.out 3).trans rfl;have kU:wr.cell? ⟨za,4,none⟩=some (.slice Pb Fa.length Gb):=(ja ta.out 4).trans rfl;have QS:=aa ta.out 0;have PS:=aa ta.out 1;have OS:=aa ta.out 2;have NS:=aa ta.out 3;have MS:=aa ta.out 4;go_wp2_with (first|((with_reducible refine zb (f:=81) rfl ?_);refine Dc (some 29) rfl rfl Try.func81 (by kernel_rfl) rfl #[.int .i64 Ob,.int .i64 0,.int .i64 (wrap64 ((Fa.length:Int) - 1))] rfl (by (try simp only [List.map_toArray,List.map_cons,List.map_nil]);first|done|rfl|(simp only [List.length_drop,List.length_take];rfl)) ?_;(with_reducible refine (Za.calls Ob 0 (wrap64 ((Fa.length:Int) - 1)) false _ yN.out).mono ?_);rintro e w' ⟨rfl,⟨nd,rfl⟩⟩;refine ⟨_,rfl,?_⟩)|((with_reducible refine zb (f:=81) rfl ?_);refine Dc (some 35) rfl rfl Try.func81 (by kernel_rfl) rfl #[.int .i64 Nb,.int .i64 0,.int .i64 (wrap64 (Ja - 1))] rfl (by (try simp only [List.map_toArray,List.map_cons,List.map_nil]);first|done|rfl|(simp only [List.length_drop,List.length_take];rfl)) ?_;(with_reducible refine (Za.calls Nb 0 (wrap64 (Ja - 1)) t106 _ pR.out).mono ?_);rintro e w' ⟨rfl,⟨nd,rfl⟩⟩;refine ⟨_,rfl,?_⟩));go_ret;exact ⟨by first|rfl|(simp [Na,Ma] <;> rfl)|(simp [*,Na,Ma] <;> rfl),by repeat (first|(with_reducible first|exact HB.out|apply oa|apply ia|apply qa|refine ua ?_ Sa.out|refine ua ?_ qc.out)|exact HB.out)⟩
     ·rw [if_neg TL] at H;have gQ:(Ub == 1)=false:=beq_eq_false_iff_ne.mpr TL;have oab:(Ub != 1)=true:=bne_iff_ne.mpr TL
      by_cases CA:Ub=2
      ·rw [if_pos CA] at H;have bH:(Ub == 2)=true:=beq_iff_eq.mpr CA;have aH:(Ub != 2)=false:=bne_eq_false_iff_eq.mpr CA;clear CA
       by_cases YE:t106=true
       ·subst YE;have H1:(if Ob=0 then (some (oc == 0)) else (some false))=some r:=by rw [if_pos rfl] at H;exact H
        clear H;have H:=H1;clear H1
        by_cases QB:Ob=0
        ·rw [if_pos QB] at H;have RL:(Ob == 0)=true:=beq_iff_eq.mpr QB;have dQ:(Ob != 0)=false:=bne_eq_false_iff_eq.mpr QB;clear QB;obtain rfl:=Option.some.inj H;have pW:=Bb.out;have nW:=Cb.out;have TD:wr.cell? ⟨Ga,0,none⟩=some (.slice Ff Mc.length tf):=(ja ya.out 0).trans rfl;have SD:wr.cell? ⟨Ga,1,none⟩=some (.int .i64 Ub):=(ja ya.out 1).trans rfl;have RD:wr.cell? ⟨Ga,2,none⟩=some (.int .i64 Nb):=(ja ya.out 2).trans rfl;have QD:wr.cell? ⟨Ga,3,none⟩=some (.int .i64 Ob):=(ja ya.out 3).trans rfl;have PD:wr.cell? ⟨Ga,4,none⟩=some (.int .i64 oc):=(ja ya.out 4).trans rfl;have UC:=aa ya.out 0;have TC:=aa ya.out 1;have SC:=aa ya.out 2;have RC:=aa ya.out 3;have QC:=aa ya.out 4;have bU:wr.cell? ⟨za,0,none⟩=some (.slice xb Oa.length qb):=(ja ta.out 0).trans rfl;have aU:wr.cell? ⟨za,1,none⟩=some (.int .i64 La):=(ja ta.out 1).trans rfl;have ZT:wr.cell? ⟨za,2,none⟩=some (.int .i64 Pa):=(ja ta.out 2).trans rfl;have YT:wr.cell? ⟨za,3,none⟩=some (.int .i64 Ja):=(ja ta.out 3).trans rfl;have XT:wr.cell? ⟨za,4,none⟩=some (.slice Pb Fa.length Gb):=(ja ta.out 4).trans rfl;have BS:=aa ta.out 0;have zS:=aa ta.out 1;have yS:=aa ta.out 2;have xS:=aa ta.out 3;have wS:=aa ta.out 4;go_wp2_with (first|((with_reducible refine zb (f:=81) rfl ?_);refine Dc (some 29) rfl rfl Try.func81 (by kernel_rfl) rfl #[.int .i64 Ob,.int .i64 0,.int .i64 (wrap64 ((Fa.length:Int) - 1))] rfl (by (try simp only [List.map_toArray,List.map_cons,List.map_nil]);first|done|rfl|(simp only [List.length_drop,List.length_take];rfl)) ?_;(with_reducible refine (Za.calls Ob 0 (wrap64 ((Fa.length:Int) - 1)) t105 _ yN.out).mono ?_);rintro e w' ⟨rfl,⟨nd,rfl⟩⟩;refine ⟨_,rfl,?_⟩)|((with_reducible refine zb (f:=81) rfl ?_);refine Dc (some 35) rfl rfl Try.func81 (by kernel_rfl) rfl #[.int .i64 Nb,.int .i64 0,.int .i64 (wrap64 (Ja - 1))] rfl (by (try simp only [List.map_toArray,List.map_cons,List.map_nil]);first|done|rfl|(simp only [List.length_drop,List.length_take];rfl)) ?_;(with_reducible refine (Za.calls Nb 0 (wrap64 (Ja - 1)) true _ pR.out).mono ?_);rintro e w' ⟨rfl,⟨nd,rfl⟩⟩;refine ⟨_,rfl,?_⟩));go_ret;exact ⟨by first|rfl|(simp [Na,Ma] <;> rfl)|(simp [*,Na,Ma] <;> rfl),by repeat (first|(with_reducible first|exact HB.out|apply oa|apply ia|apply qa|refine ua ?_ Sa.out|refine ua ?_ qc.out)|exact HB.out)⟩
        ·rw [if_neg QB] at H;have RL:(Ob == 0)=false:=beq_eq_false_iff_ne.mpr QB;have dQ:(Ob != 0)=true:=bne_iff_ne.mpr QB;obtain rfl:=Option.some.inj H;have Har:=Bb.out;have Waq:=Cb.out;have Jaj:wr.cell? ⟨Ga,0,none⟩=some (.slice Ff Mc.length tf):=(ja ya.out 0).trans rfl;have Iaj:wr.cell? ⟨Ga,1,none⟩=some (.int .i64 Ub):=(ja ya.out 1).trans rfl;have Haj:wr.cell? ⟨Ga,2,none⟩=some (.int .i64 Nb):=(ja ya.out 2).trans rfl;have Gaj:wr.cell? ⟨Ga,3,none⟩=some (.int .i64 Ob):=(ja ya.out 3).trans rfl;have Faj:wr.cell? ⟨Ga,4,none⟩=some (.int .i64 oc):=(ja ya.out 4).trans rfl;have oag:=aa ya.out 0;have nag:=aa ya.out 1;have lag:=aa ya.out 2;have kag:=aa ya.out 3;have jag:=aa ya.out 4;have dL:wr.cell? ⟨za,0,none⟩=some (.slice xb Oa.length qb):=(ja ta.out 0).trans rfl;have cL:wr.cell? ⟨za,1,none⟩=some (.int .i64 La):=(ja ta.out 1).trans rfl;have bL:wr.cell? ⟨za,2,none⟩=some (.int .i64 Pa):=(ja ta.out 2).trans rfl;have ZK:wr.cell? ⟨za,3,none⟩=some (.int .i64 Ja):=(ja ta.out 3).trans rfl;have YK:wr.cell? ⟨za,4,none⟩=some (.slice Pb Fa.length Gb):=(ja ta.out 4).trans rfl;have pK:=aa ta.out 0;have oK:=aa ta.out 1;have nK:=aa ta.out 2;have mK:=aa ta.out 3;have lK:=aa ta.out 4;go_wp2_with (first|((with_reducible refine zb (f:=81) rfl ?_);refine Dc (some 29) rfl rfl Try.func81 (by kernel_rfl) rfl #[.int .i64 Ob,.int .i64 0,.int .i64 (wrap64 ((Fa.length:Int) - 1))] rfl (by (try simp only [List.map_toArray,List.map_cons,List.map_nil]);first|done|rfl|(simp only [List.length_drop,List.length_take];rfl)) ?_;(with_reducible refine (Za.calls Ob 0 (wrap64 ((Fa.length:Int) - 1)) t105 _ yN.out).mono ?_);rintro e w' ⟨rfl,⟨nd,rfl⟩⟩;refine ⟨_,rfl,?_⟩)|((with_reducible refine zb (f:=81) rfl ?_);refine Dc (some 35) rfl rfl Try.func81 (by kernel_rfl) rfl #[.int .i64 Nb,.int .i64 0,.int .i64 (wrap64 (Ja - 1))] rfl (by (try simp only [List.map_toArray,List.map_cons,List.map_nil]);first|done|rfl|(simp only [List.length_drop,List.length_take];rfl)) ?_;(with_reducible refine (Za.calls Nb 0 (wrap64 (Ja - 1)) true _ pR.out).mono ?_);rintro e w' ⟨rfl,⟨nd,rfl⟩⟩;refine ⟨_,rfl,?_⟩));go_ret;exact ⟨by first|rfl|(simp [Na,Ma] <;> rfl)|(simp [*,Na,Ma] <;> rfl),by repeat (first|(with_reducible first|exact HB.out|apply oa|apply ia|apply qa|refine ua ?_ Sa.out|refine ua ?_ qc.out)|exact HB.out)⟩
       ·replace YE:=Bool.eq_false_iff.mpr YE;subst YE;have H1:(some false)=some r:=by rw [if_neg (show ¬ (false=true) by decide)] at H;exact H
        clear H;have H:=H1;clear H1;obtain rfl:=Option.some.inj H;have Gar:=Bb.out;have Vaq:=Cb.out;have xaj:wr.cell? ⟨Ga,0,none⟩=some (.slice Ff Mc.length tf):=(ja ya.out 0).trans rfl;have waj:wr.cell? ⟨Ga,1,none⟩=some (.int .i64 Ub):=(ja ya.out 1).trans rfl;have vaj:wr.cell? ⟨Ga,2,none⟩=some (.int .i64 Nb):=(ja ya.out 2).trans rfl;have uaj:wr.cell? ⟨Ga,3,none⟩=some (.int .i64 Ob):=(ja ya.out 3).trans rfl;have taj:wr.cell? ⟨Ga,4,none⟩=some (.int .i64 oc):=(ja ya.out 4).trans rfl;have bag:=aa ya.out 0;have aag:=aa ya.out 1;have Zaf:=aa ya.out 2;have Yaf:=aa ya.out 3;have Xaf:=aa ya.out 4;have saj:wr.cell? ⟨za,0,none⟩=some (.slice xb Oa.length qb):=(ja ta.out 0).trans rfl;have raj:wr.cell? ⟨za,1,none⟩=some (.int .i64 La):=(ja ta.out 1).trans rfl;have qaj:wr.cell? ⟨za,2,none⟩=some (.int .i64 Pa):=(ja ta.out 2).trans rfl;have paj:wr.cell? ⟨za,3,none⟩=some (.int .i64 Ja):=(ja ta.out 3).trans rfl;have oaj:wr.cell? ⟨za,4,none⟩=some (.slice Pb Fa.length Gb):=(ja ta.out 4).trans rfl;have Waf:=aa ta.out 0;have Vaf:=aa ta.out 1;have Uaf:=aa ta.out 2;have Taf:=aa ta.out 3;have Saf:=aa ta.out 4;go_wp2_with (first|((with_reducible refine zb (f:=81) rfl ?_);refine Dc (some 29) rfl rfl Try.func81 (by kernel_rfl) rfl #[.int .i64 Ob,.int .i64 0,.int .i64 (wrap64 ((Fa.length:Int) - 1))] rfl (by (try simp only [List.map_toArray,List.map_cons,List.map_nil]);first|done|rfl|(simp only [List.length_drop,List.length_take];rfl)) ?_;(with_reducible refine (Za.calls Ob 0 (wrap64 ((Fa.length:Int) - 1)) t105 _ yN.out).mono ?_);rintro e w' ⟨rfl,⟨nd,rfl⟩⟩;refine ⟨_,rfl,?_⟩)|((with_reducible refine zb (f:=81) rfl ?_);refine Dc (some 35) rfl rfl Try.func81 (by kernel_rfl) rfl #[.int .i64 Nb,.int .i64 0,.int .i64 (wrap64 (Ja - 1))] rfl (by (try simp only [List.map_toArray,List.map_cons,List.map_nil]);first|done|rfl|(simp only [List.length_drop,List.length_take];rfl)) ?_;(with_reducible refine (Za.calls Nb 0 (wrap64 (Ja - 1)) false _ pR.out).mono ?_);rintro e w' ⟨rfl,⟨nd,rfl⟩⟩;refine ⟨_,rfl,?_⟩));go_ret;exact ⟨by first|rfl|(simp [Na,Ma] <;> rfl)|(simp [*,Na,Ma] <;> rfl),by repeat (first|(with_reducible first|exact HB.out|apply oa|apply ia|apply qa|refine ua ?_ Sa.out|refine ua ?_ qc.out)|exact HB.out)⟩
      ·rw [if_neg CA] at H;have bH:(Ub == 2)=false:=beq_eq_false_iff_ne.mpr CA;have aH:(Ub != 2)=true:=bne_iff_ne.mpr CA;obtain rfl:=Option.some.inj H;have Far:=Bb.out;have Uaq:=Cb.out;have naj:wr.cell? ⟨Ga,0,none⟩=some (.slice Ff Mc.length tf):=(ja ya.out 0).trans rfl;have maj:wr.cell? ⟨Ga,1,none⟩=some (.int .i64 Ub):=(ja ya.out 1).trans rfl;have laj:wr.cell? ⟨Ga,2,none⟩=some (.int .i64 Nb):=(ja ya.out 2).trans rfl;have kaj:wr.cell? ⟨Ga,3,none⟩=some (.int .i64 Ob):=(ja ya.out 3).trans rfl;have jaj:wr.cell? ⟨Ga,4,none⟩=some (.int .i64 oc):=(ja ya.out 4).trans rfl;have Raf:=aa ya.out 0;have Qaf:=aa ya.out 1;have Paf:=aa ya.out 2;have Oaf:=aa ya.out 3;have Naf:=aa ya.out 4;have QT:wr.cell? ⟨za,0,none⟩=some (.slice xb Oa.length qb):=(ja ta.out 0).trans rfl;have PT:wr.cell? ⟨za,1,none⟩=some (.int .i64 La):=(ja ta.out 1).trans rfl;have OT:wr.cell? ⟨za,2,none⟩=some (.int .i64 Pa):=(ja ta.out 2).trans rfl;have NT:wr.cell? ⟨za,3,none⟩=some (.int .i64 Ja):=(ja ta.out 3).trans rfl;have MT:wr.cell? ⟨za,4,none⟩=some (.slice Pb Fa.length Gb):=(ja ta.out 4).trans rfl;have pS:=aa ta.out 0;have nS:=aa ta.out 1;have mS:=aa ta.out 2;have lS:=aa ta.out 3;have kS:=aa ta.out 4;go_wp2_with (first|((with_reducible refine zb (f:=81) rfl ?_);refine Dc (some 29) rfl rfl Try.func81 (by kernel_rfl) rfl #[.int .i64 Ob,.int .i64 0,.int .i64 (wrap64 ((Fa.length:Int) - 1))] rfl (by (try simp only [List.map_toArray,List.map_cons,List.map_nil]);first|done|rfl|(simp only [List.length_drop,List.length_take];rfl)) ?_;(with_reducible refine (Za.calls Ob 0 (wrap64 ((Fa.length:Int) - 1)) t105 _ yN.out).mono ?_);rintro e w' ⟨rfl,⟨nd,rfl⟩⟩;refine ⟨_,rfl,?_⟩)|((with_reducible refine zb (f:=81) rfl ?_);refine Dc (some 35) rfl rfl Try.func81 (by kernel_rfl) rfl #[.int .i64 Nb,.int .i64 0,.int .i64 (wrap64 (Ja - 1))] rfl (by (try simp only [List.map_toArray,List.map_cons,List.map_nil]);first|done|rfl|(simp only [List.length_drop,List.length_take];rfl)) ?_;(with_reducible refine (Za.calls Nb 0 (wrap64 (Ja - 1)) t106 _ pR.out).mono ?_);rintro e w' ⟨rfl,⟨nd,rfl⟩⟩;refine ⟨_,rfl,?_⟩));go_ret;exact ⟨by first|rfl|(simp [Na,Ma] <;> rfl)|(simp [*,Na,Ma] <;> rfl),by repeat (first|(with_reducible first|exact HB.out|apply oa|apply ia|apply qa|refine ua ?_ Sa.out|refine ua ?_ qc.out)|exact HB.out)⟩
mutual
def Ua.l0:Nat→Int→List Int→Int→Int→Int→List (zf)→Option (Bool)
 | 0,_,_,_,_,_,_=>none
 | k + 1,x3,Tc,Uc,Sc,Rc,Zb=>if x3 < (Tc.length:Int) then (if 0 ≤ x3 then ((Za.f (rd Tc x3) 1 16).bind fun t103=>(if t103=true then (Ua.l0 k (wrap64 (x3 + 1)) Tc Uc Sc Rc Zb) else (some false))) else (none)) else ((Za.f (Tc.length:Int) 1 4).bind fun t104=>(if t104=true then ((Za.f Sc 0 20).bind fun t105=>(if t105=true then ((Za.f Uc 0 6).bind fun t106=>(if t106=true then (if Uc > Sc then (Ua.j1 k true Tc Uc Sc Rc Zb) else ((Za.f Rc Sc 1000).bind fun t107=>(if t107=true then ((Za.f (Zb.length:Int) 1 300).bind fun t108=>(Ua.j1 k (!t108) Tc Uc Sc Rc Zb)) else (Ua.j1 k true Tc Uc Sc Rc Zb)))) else (Ua.j1 k true Tc Uc Sc Rc Zb))) else (Ua.j1 k true Tc Uc Sc Rc Zb))) else (Ua.j1 k true Tc Uc Sc Rc Zb)))
def Ua.j1:Nat→Bool→List Int→Int→Int→Int→List (zf)→Option (Bool)
 | 0,_,_,_,_,_,_=>none
 | k + 1,x58,Tc,Uc,Sc,Rc,Zb=>if x58=true then (some false) else (Ua.l1 k 0 0 Tc Uc Sc Rc Zb)
def Ua.l1:Nat→Int→Int→List Int→Int→Int→Int→List (zf)→Option (Bool)
 | 0,_,_,_,_,_,_,_=>none
 | k + 1,x4,x5,Tc,Uc,Sc,Rc,Zb=>if x5 < (Zb.length:Int) then (if 0 ≤ x5 then (if (wrap64 (x4 + (((Ta Zb x5).f0).length:Int))) > 1000 then (some false) else ((ic.f k Tc Uc Sc Rc Zb ((Ta Zb x5).f0) ((Ta Zb x5).f1) ((Ta Zb x5).f2) ((Ta Zb x5).f3) ((Ta Zb x5).f4)).bind fun t111=>(if t111=true then (Ua.l1 k (wrap64 (x4 + (((Ta Zb x5).f0).length:Int))) (wrap64 (x5 + 1)) Tc Uc Sc Rc Zb) else (some false)))) else (none)) else (some true)
end
def Ua.f (k:Nat) (Oa:List Int) (La:Int) (Pa:Int) (Ja:Int) (Fa:List (zf)):Option (Bool):=Ua.l0 k 0 Oa La Pa Ja Fa
def Ua.T13:Bool × List (List Nat × List Nat):=(true,[([],[]),([0],[0]),([1],[1]),([2],[2]),([2],[2]),([4,2],[2,4]),([2],[2]),([5,6,2],[2,5,6]),([7,2],[2,7]),([3,8,2,2],[2,3,8]),([9,2],[2,9]),([2,10],[2,10])])
def Ua.B13:List Nat:=[0,1,3,7,7,23,7,119,247,511,1023,2047]
theorem Ua.KN:yl .any (opsOf Try.f66 13)=Ua.T13:=by kernel_rfl
theorem Ua.jJ:vk Ua.T13.2 Ua.B13=true:=by kernel_rfl
theorem Ua.calls (k:Nat) (xb:Option Addr) (qb:Nat) (Oa:List Int) (La:Int) (Pa:Int) (Ja:Int) (Pb:Option Addr) (Gb:Nat) (Fa:List (zf)) (r:Bool) (w:World) (xe:Kd.C (Kd.int .i64) w xb Oa.length Oa) (we:Oa.length ≤ qb) (Wf:Kd.C Bp w Pb Fa.length Fa) (Uf:Fa.length ≤ Gb) (h:Ua.f k Oa La Pa Ja Fa=some r) :
  Calls Try.prog 66 #[.agg #[.slice xb Oa.length qb,.int .i64 La,.int .i64 Pa,.int .i64 Ja,.slice Pb Fa.length Gb]] w fun e w'=>e = .returned (.bool r)∧Below w.heap.size w w':=by
 have mA:=Try.underlying45;have kA:=Try.underlying83;have Ue:=ga.mk xe;have af:=ga.mk we;clear xe we;have ng:=ga.mk Wf;have Xg:=ga.mk Uf;clear Wf Uf;have HB:=ga.mk (Below.refl w.heap.size w);have H:(Ua.l0 k 0 Oa La Pa Ja Fa)=some r:=h;clear h;have H':=ga.mk H;clear H;go_enter Try.func66,Try.ntmps66;go_wp2_with (first|((with_reducible refine Db (N:=1) rfl ?_);(try (refine Oi (by rfl) ?_;dsimp only));refine Jb ?hg (N:=1) ?hd (cs:=#[.slice xb Oa.length qb,.int .i64 La,.int .i64 Pa,.int .i64 Ja,.slice Pb Fa.length Gb]) (t:=45) ?hr ?_;(case hd=>rfl);(case hg=>rfl);(case hr=>first|(go_simp;done)|(go_simp;rfl));intro za hg w2 Wb hb;have Fb:=ga.mk (Qa (by repeat (first|(with_reducible first|exact HB.out|apply oa|apply ia|apply qa)|exact HB.out)) hb);have Lb:=ga.mk (Wb);have Vb:=ga.mk ((by rw [hg];exact (Ka (by repeat (first|(with_reducible first|exact HB.out|apply oa|apply ia|apply qa)|exact HB.out))):w.heap.size ≤ za));have Bc:=ga.mk ((by rw [hg];exact (Ka (by repeat (first|(with_reducible first|exact HB.out|apply oa|apply ia|apply qa)|exact HB.out))):w.heap.size ≤ za));clear HB;have HB:=Fb;have ta:=Lb;have ye:=Vb;have Sa:=Bc;clear Fb Lb Vb Bc hb Wb hg))
 go_loopg [3] k (fun kq v3 w'=>∃ (Fc:Int),v3 = .int .i64 Fc∧ga (Ua.l0 kq Fc Oa La Pa Ja Fa=some r)∧ga (kq ≤ k)∧ga (w'.heap[za]? = some (.cells #[(.slice xb Oa.length qb),.int .i64 La,.int .i64 Pa,.int .i64 Ja,(.slice Pb Fa.length Gb)] 45 (0,0)))∧ga (Below w.heap.size w w'))
 case atStart=>exact ⟨(0),(by first|rfl|(simp;done)|(simp [*];done)),H',⟨Nat.le_refl _⟩,⟨by (with_reducible repeat (first|refine Ca ?_ _|refine Ea ?_|refine Da ?_ _));exact ta.out⟩,⟨by repeat (first|(with_reducible first|exact HB.out|apply oa|apply ia|apply qa|refine ua ?_ Sa.out)|exact HB.out)⟩⟩
 case round =>
  clear H'
  try clear p2
  (try clear HA);(try clear Gf);(try clear ta);(try clear HB);obtain ⟨Fc,rfl,HA,Gf,ta,HB⟩:=hrel;cases gk with
  | zero=>exact absurd HA.out (by simp [Ua.l0])
  | succ k1 =>
   have H:=HA.out;clear HA;simp only [Ua.l0] at H
   by_cases c3:Fc < (Oa.length:Int)
   ·rw [if_pos c3] at H;have Cg:decide (Fc < (Oa.length:Int))=true:=decide_eq_true c3;clear c3
    by_cases c4:0 ≤ Fc
    ·rw [if_pos c4] at H;have Aj:decide (0 ≤ Fc)=true:=decide_eq_true c4;clear c4;replace H:=Option.bind_eq_some_iff.mp H;obtain ⟨t103,cY,H⟩:=H;replace H:(if t103=true then (Ua.l0 k1 (wrap64 (Fc + 1)) Oa La Pa Ja Fa) else (some false))=some r:=H;have A5:=ga.mk cY;clear cY
     by_cases c6:t103=true
     ·subst c6;have H1:(Ua.l0 k1 (wrap64 (Fc + 1)) Oa La Pa Ja Fa)=some r:=by rw [if_pos rfl] at H;exact H
      clear H;have H:=H1;clear H1;have H':=ga.mk H;clear H;have OD:wr.cell? ⟨za,0,none⟩=some (.slice xb Oa.length qb):=(ja ta.out 0).trans rfl;have ND:wr.cell? ⟨za,1,none⟩=some (.int .i64 La):=(ja ta.out 1).trans rfl;have MD:wr.cell? ⟨za,2,none⟩=some (.int .i64 Pa):=(ja ta.out 2).trans rfl;have LD:wr.cell? ⟨za,3,none⟩=some (.int .i64 Ja):=(ja ta.out 3).trans rfl;have KD:wr.cell? ⟨za,4,none⟩=some (.slice Pb Fa.length Gb):=(ja ta.out 4).trans rfl;have PC:=aa ta.out 0;have OC:=aa ta.out 1;have NC:=aa ta.out 2;have MC:=aa ta.out 3;have LC:=aa ta.out 4;have Fh:0 ≤ (Fc:Int):=of_decide_eq_true (by first|(with_reducible assumption)|assumption);have Eh:Fc < (Oa.length:Int):=of_decide_eq_true (by first|(with_reducible assumption)|assumption);obtain ⟨Ye,Dp,Ke⟩:=Kd.Ef Ue.out Fc Fh Eh;cases Dp;replace Ke:=Ra HB.out Ke;replace Fh:=eq_true Fh;replace Eh:=eq_true Eh;go_wp2_with (first|((with_reducible refine zb (f:=81) rfl ?_);refine Dc (some 18) rfl rfl Try.func81 (by kernel_rfl) rfl #[.int .i64 (rd Oa Fc),.int .i64 1,.int .i64 16] rfl (by (try simp only [List.map_toArray,List.map_cons,List.map_nil]);first|done|rfl|(simp only [List.length_drop,List.length_take];rfl)) ?_;(with_reducible refine (Za.calls (rd Oa Fc) 1 16 true _ A5.out).mono ?_);rintro e w' ⟨rfl,⟨nd,rfl⟩⟩;refine ⟨_,rfl,?_⟩))
      go_roundg k1
      case measure=>have:=Gf.out;omega
      case rel=>exact ⟨(wrap64 (Fc + 1)),(by first|rfl|(simp;done)|(simp [*];done)),H',⟨by have:=Gf.out;omega⟩,⟨by (with_reducible repeat (first|refine Ca ?_ _|refine Ea ?_|refine Da ?_ _));exact ta.out⟩,⟨by repeat (first|(with_reducible first|exact HB.out|apply oa|apply ia|apply qa|refine ua ?_ Sa.out)|exact HB.out)⟩⟩
     ·replace c6:=Bool.eq_false_iff.mpr c6;subst c6;have H1:(some false)=some r:=by rw [if_neg (show ¬ (false=true) by decide)] at H;exact H
      clear H;have H:=H1;clear H1;obtain rfl:=Option.some.inj H;have Bu:wr.cell? ⟨za,0,none⟩=some (.slice xb Oa.length qb):=(ja ta.out 0).trans rfl;have Au:wr.cell? ⟨za,1,none⟩=some (.int .i64 La):=(ja ta.out 1).trans rfl;have zu:wr.cell? ⟨za,2,none⟩=some (.int .i64 Pa):=(ja ta.out 2).trans rfl;have yu:wr.cell? ⟨za,3,none⟩=some (.int .i64 Ja):=(ja ta.out 3).trans rfl;have xu:wr.cell? ⟨za,4,none⟩=some (.slice Pb Fa.length Gb):=(ja ta.out 4).trans rfl;have ru:=aa ta.out 0;have qu:=aa ta.out 1;have ou:=aa ta.out 2;have nu:=aa ta.out 3;have lu:=aa ta.out 4;have Fh:0 ≤ (Fc:Int):=of_decide_eq_true (by first|(with_reducible assumption)|assumption);have Eh:Fc < (Oa.length:Int):=of_decide_eq_true (by first|(with_reducible assumption)|assumption);obtain ⟨Ye,Dp,Ke⟩:=Kd.Ef Ue.out Fc Fh Eh;cases Dp;replace Ke:=Ra HB.out Ke;replace Fh:=eq_true Fh;replace Eh:=eq_true Eh;go_wp2_with (first|((with_reducible refine zb (f:=81) rfl ?_);refine Dc (some 18) rfl rfl Try.func81 (by kernel_rfl) rfl #[.int .i64 (rd Oa Fc),.int .i64 1,.int .i64 16] rfl (by (try simp only [List.map_toArray,List.map_cons,List.map_nil]);first|done|rfl|(simp only [List.length_drop,List.length_take];rfl)) ?_;(with_reducible refine (Za.calls (rd Oa Fc) 1 16 false _ A5.out).mono ?_);rintro e w' ⟨rfl,⟨nd,rfl⟩⟩;refine ⟨_,rfl,?_⟩));go_ret;exact ⟨by first|rfl|(simp [Na,Ma] <;> rfl)|(simp [*,Na,Ma] <;> rfl),by repeat (first|(with_reducible first|exact HB.out|apply oa|apply ia|apply qa|refine ua ?_ Sa.out)|exact HB.out)⟩
    ·rw [if_neg c4] at H;exact absurd H (by simp)
   ·rw [if_neg c3] at H;have Cg:decide (Fc < (Oa.length:Int))=false:=decide_eq_false c3;clear c3;have HC9:=ga.mk H;clear H;have Ni:wr.cell? ⟨za,0,none⟩=some (.slice xb Oa.length qb):=(ja ta.out 0).trans rfl;have Mi:wr.cell? ⟨za,1,none⟩=some (.int .i64 La):=(ja ta.out 1).trans rfl;have Li:wr.cell? ⟨za,2,none⟩=some (.int .i64 Pa):=(ja ta.out 2).trans rfl;have Ki:wr.cell? ⟨za,3,none⟩=some (.int .i64 Ja):=(ja ta.out 3).trans rfl;have Ji:wr.cell? ⟨za,4,none⟩=some (.slice Pb Fa.length Gb):=(ja ta.out 4).trans rfl;have Ii:=aa ta.out 0;have Hi:=aa ta.out 1;have Gi:=aa ta.out 2;have Fi:=aa ta.out 3;have Ei:=aa ta.out 4
    go_upto_region 6 with (fail)
    go_cut [58] (fun v58 wc=>∃ (kq:Nat) (BJ:Bool),v58 = .bool BJ∧ga (Ua.j1 kq BJ Oa La Pa Ja Fa=some r)∧ga (kq ≤ k1)∧ga (wc.heap[za]? = some (.cells #[(.slice xb Oa.length qb),.int .i64 La,.int .i64 Pa,.int .i64 Ja,(.slice Pb Fa.length Gb)] 45 (0,0)))∧ga (Below w.heap.size w wc))
    case first =>
     have H:=HC9.out;clear HC9;replace H:=Option.bind_eq_some_iff.mp H;obtain ⟨t104,YQ,H⟩:=H;replace H:(if t104=true then ((Za.f Pa 0 20).bind fun t105=>(if t105=true then ((Za.f La 0 6).bind fun t106=>(if t106=true then (if La > Pa then (Ua.j1 k1 true Oa La Pa Ja Fa) else ((Za.f Ja Pa 1000).bind fun t107=>(if t107=true then ((Za.f (Fa.length:Int) 1 300).bind fun t108=>(Ua.j1 k1 (!t108) Oa La Pa Ja Fa)) else (Ua.j1 k1 true Oa La Pa Ja Fa)))) else (Ua.j1 k1 true Oa La Pa Ja Fa))) else (Ua.j1 k1 true Oa La Pa Ja Fa))) else (Ua.j1 k1 true Oa La Pa Ja Fa))=some r:=H;have eY:=ga.mk YQ;clear YQ
     by_cases Zq:t104=true
     ·subst Zq;have H1:((Za.f Pa 0 20).bind fun t105=>(if t105=true then ((Za.f La 0 6).bind fun t106=>(if t106=true then (if La > Pa then (Ua.j1 k1 true Oa La Pa Ja Fa) else ((Za.f Ja Pa 1000).bind fun t107=>(if t107=true then ((Za.f (Fa.length:Int) 1 300).bind fun t108=>(Ua.j1 k1 (!t108) Oa La Pa Ja Fa)) else (Ua.j1 k1 true Oa La Pa Ja Fa)))) else (Ua.j1 k1 true Oa La Pa Ja Fa))) else (Ua.j1 k1 true Oa La Pa Ja Fa)))=some r:=by rw [if_pos rfl] at H;exact H
      clear H;have H:=H1;clear H1;replace H:=Option.bind_eq_some_iff.mp H;obtain ⟨t105,Gad,H⟩:=H;replace H:(if t105=true then ((Za.f La 0 6).bind fun t106=>(if t106=true then (if La > Pa then (Ua.j1 k1 true Oa La Pa Ja Fa) else ((Za.f Ja Pa 1000).bind fun t107=>(if t107=true then ((Za.f (Fa.length:Int) 1 300).bind fun t108=>(Ua.j1 k1 (!t108) Oa La Pa Ja Fa)) else (Ua.j1 k1 true Oa La Pa Ja Fa)))) else (Ua.j1 k1 true Oa La Pa Ja Fa))) else (Ua.j1 k1 true Oa La Pa Ja Fa))=some r:=H;have A13:=ga.mk Gad;clear Gad
      by_cases yy:t105=true
      ·subst yy;have H1:((Za.f La 0 6).bind fun t106=>(if t106=true then (if La > Pa then (Ua.j1 k1 true Oa La Pa Ja Fa) else ((Za.f Ja Pa 1000).bind fun t107=>(if t107=true then ((Za.f (Fa.length:Int) 1 300).bind fun t108=>(Ua.j1 k1 (!t108) Oa La Pa Ja Fa)) else (Ua.j1 k1 true Oa La Pa Ja Fa)))) else (Ua.j1 k1 true Oa La Pa Ja Fa)))=some r:=by rw [if_pos rfl] at H;exact H
       clear H;have H:=H1;clear H1;replace H:=Option.bind_eq_some_iff.mp H;obtain ⟨t106,Ead,H⟩:=H;replace H:(if t106=true then (if La > Pa then (Ua.j1 k1 true Oa La Pa Ja Fa) else ((Za.f Ja Pa 1000).bind fun t107=>(if t107=true then ((Za.f (Fa.length:Int) 1 300).bind fun t108=>(Ua.j1 k1 (!t108) Oa La Pa Ja Fa)) else (Ua.j1 k1 true Oa La Pa Ja Fa)))) else (Ua.j1 k1 true Oa La Pa Ja Fa))=some r:=H;have A15:=ga.mk Ead;clear Ead
       by_cases xy:t106=true
       ·subst xy;have H1:(if La > Pa then (Ua.j1 k1 true Oa La Pa Ja Fa) else ((Za.f Ja Pa 1000).bind fun t107=>(if t107=true then ((Za.f (Fa.length:Int) 1 300).bind fun t108=>(Ua.j1 k1 (!t108) Oa La Pa Ja Fa)) else (Ua.j1 k1 true Oa La Pa Ja Fa))))=some r:=by rw [if_pos rfl] at H;exact H
        clear H;have H:=H1;clear H1
        by_cases Ez:La > Pa
        ·rw [if_pos Ez] at H;have Sw:decide (Pa < La)=true:=decide_eq_true Ez;clear Ez;(first|rw [Sw]|(simp only [dc,ec];rw [Sw])|skip);have H':=ga.mk H;clear H;have nt:wr.cell? ⟨za,0,none⟩=some (.slice xb Oa.length qb):=(ja ta.out 0).trans rfl;have jt:wr.cell? ⟨za,1,none⟩=some (.int .i64 La):=(ja ta.out 1).trans rfl;have bt:wr.cell? ⟨za,2,none⟩=some (.int .i64 Pa):=(ja ta.out 2).trans rfl;have Zs:wr.cell? ⟨za,3,none⟩=some (.int .i64 Ja):=(ja ta.out 3).trans rfl;have Ys:wr.cell? ⟨za,4,none⟩=some (.slice Pb Fa.length Gb):=(ja ta.out 4).trans rfl;have Ls:=aa ta.out 0;have Ks:=aa ta.out 1;have Js:=aa ta.out 2;have Hs:=aa ta.out 3;have Gs:=aa ta.out 4;go_wp2_with (first|((with_reducible refine zb (f:=81) rfl ?_);refine Dc (some 23) rfl rfl Try.func81 (by kernel_rfl) rfl #[.int .i64 (Oa.length:Int),.int .i64 1,.int .i64 4] rfl (by (try simp only [List.map_toArray,List.map_cons,List.map_nil]);first|done|rfl|(simp only [List.length_drop,List.length_take];rfl)) ?_;(with_reducible refine (Za.calls (Oa.length:Int) 1 4 true _ eY.out).mono ?_);rintro e w' ⟨rfl,⟨nd,rfl⟩⟩;refine ⟨_,rfl,?_⟩)|(go_at_call 81;(with_reducible refine (Za.calls Pa 0 20 true _ A13.out).mono ?_);rintro e w' ⟨rfl,⟨nd,rfl⟩⟩)|(go_at_call 81;(with_reducible refine (Za.calls La 0 6 true _ A15.out).mono ?_);rintro e w' ⟨rfl,⟨nd,rfl⟩⟩))
         go_meet
         case rel=>exact ⟨_,(true),(by first|rfl|(simp;done)|(simp [*];done)),H',⟨by have:=Gf.out;first|omega|exact Nat.le_refl _⟩,⟨by (with_reducible repeat (first|refine Ca ?_ _|refine Ea ?_|refine Da ?_ _));exact ta.out⟩,⟨by repeat (first|(with_reducible first|exact HB.out|apply oa|apply ia|apply qa|refine ua ?_ Sa.out)|exact HB.out)⟩⟩
        ·rw [if_neg Ez] at H;have Sw:decide (Pa < La)=false:=decide_eq_false Ez;clear Ez;(first|rw [Sw]|(simp only [dc,ec];rw [Sw])|skip);replace H:=Option.bind_eq_some_iff.mp H;obtain ⟨t107,Cad,H⟩:=H;replace H:(if t107=true then ((Za.f (Fa.length:Int) 1 300).bind fun t108=>(Ua.j1 k1 (!t108) Oa La Pa Ja Fa)) else (Ua.j1 k1 true Oa La Pa Ja Fa))=some r:=H;have A19:=ga.mk Cad;clear Cad
         by_cases bx:t107=true
         ·subst bx;have H1:((Za.f (Fa.length:Int) 1 300).bind fun t108=>(Ua.j1 k1 (!t108) Oa La Pa Ja Fa))=some r:=by rw [if_pos rfl] at H;exact H
          clear H;have H:=H1;clear H1;replace H:=Option.bind_eq_some_iff.mp H;obtain ⟨t108,Aad,H⟩:=H;replace H:(Ua.j1 k1 (!t108) Oa La Pa Ja Fa)=some r:=H;have A21:=ga.mk Aad;clear Aad;have H':=ga.mk H;clear H;have Jw:wr.cell? ⟨za,0,none⟩=some (.slice xb Oa.length qb):=(ja ta.out 0).trans rfl;have Iw:wr.cell? ⟨za,1,none⟩=some (.int .i64 La):=(ja ta.out 1).trans rfl;have Hw:wr.cell? ⟨za,2,none⟩=some (.int .i64 Pa):=(ja ta.out 2).trans rfl;have Gw:wr.cell? ⟨za,3,none⟩=some (.int .i64 Ja):=(ja ta.out 3).trans rfl;have Fw:wr.cell? ⟨za,4,none⟩=some (.slice Pb Fa.length Gb):=(ja ta.out 4).trans rfl;have sw:=aa ta.out 0;have qw:=aa ta.out 1;have ow:=aa ta.out 2;have nw:=aa ta.out 3;have mw:=aa ta.out 4;go_wp2_with (first|((with_reducible refine zb (f:=81) rfl ?_);refine Dc (some 23) rfl rfl Try.func81 (by kernel_rfl) rfl #[.int .i64 (Oa.length:Int),.int .i64 1,.int .i64 4] rfl (by (try simp only [List.map_toArray,List.map_cons,List.map_nil]);first|done|rfl|(simp only [List.length_drop,List.length_take];rfl)) ?_;(with_reducible refine (Za.calls (Oa.length:Int) 1 4 true _ eY.out).mono ?_);rintro e w' ⟨rfl,⟨nd,rfl⟩⟩;refine ⟨_,rfl,?_⟩)|(go_at_call 81;(with_reducible refine (Za.calls Pa 0 20 true _ A13.out).mono ?_);rintro e w' ⟨rfl,⟨nd,rfl⟩⟩)|(go_at_call 81;(with_reducible refine (Za.calls La 0 6 true _ A15.out).mono ?_);rintro e w' ⟨rfl,⟨nd,rfl⟩⟩)|(go_at_call 81;(with_reducible refine (Za.calls Ja Pa 1000 true _ A19.out).mono ?_);rintro e w' ⟨rfl,⟨nd,rfl⟩⟩)|(go_at_call 81;(with_reducible refine (Za.calls (Fa.length:Int) 1 300 t108 _ A21.out).mono ?_);rintro e w' ⟨rfl,⟨nd,rfl⟩⟩))
          go_meet
          case rel=>exact ⟨_,(!t108),(by first|rfl|(simp;done)|(simp [*];done)),H',⟨by have:=Gf.out;first|omega|exact Nat.le_refl _⟩,⟨by (with_reducible repeat (first|refine Ca ?_ _|refine Ea ?_|refine Da ?_ _));exact ta.out⟩,⟨by repeat (first|(with_reducible first|exact HB.out|apply oa|apply ia|apply qa|refine ua ?_ Sa.out)|exact HB.out)⟩⟩
         ·replace bx:=Bool.eq_false_iff.mpr bx;subst bx;have H1:(Ua.j1 k1 true Oa La Pa Ja Fa)=some r:=by rw [if_neg (show ¬ (false=true) by decide)] at H;exact H
          clear H;have H:=H1;clear H1;have H':=ga.mk H;clear H;have Oo:wr.cell? ⟨za,0,none⟩=some (.slice xb Oa.length qb):=(ja ta.out 0).trans rfl;have Mo:wr.cell? ⟨za,1,none⟩=some (.int .i64 La):=(ja ta.out 1).trans rfl;have Lo:wr.cell? ⟨za,2,none⟩=some (.int .i64 Pa):=(ja ta.out 2).trans rfl;have Ko:wr.cell? ⟨za,3,none⟩=some (.int .i64 Ja):=(ja ta.out 3).trans rfl;have Jo:wr.cell? ⟨za,4,none⟩=some (.slice Pb Fa.length Gb):=(ja ta.out 4).trans rfl;have Bo:=aa ta.out 0;have zo:=aa ta.out 1;have yo:=aa ta.out 2;have xo:=aa ta.out 3;have vo:=aa ta.out 4;go_wp2_with (first|((with_reducible refine zb (f:=81) rfl ?_);refine Dc (some 23) rfl rfl Try.func81 (by kernel_rfl) rfl #[.int .i64 (Oa.length:Int),.int .i64 1,.int .i64 4] rfl (by (try simp only [List.map_toArray,List.map_cons,List.map_nil]);first|done|rfl|(simp only [List.length_drop,List.length_take];rfl)) ?_;(with_reducible refine (Za.calls (Oa.length:Int) 1 4 true _ eY.out).mono ?_);rintro e w' ⟨rfl,⟨nd,rfl⟩⟩;refine ⟨_,rfl,?_⟩)|(go_at_call 81;(with_reducible refine (Za.calls Pa 0 20 true _ A13.out).mono ?_);rintro e w' ⟨rfl,⟨nd,rfl⟩⟩)|(go_at_call 81;(with_reducible refine (Za.calls La 0 6 true _ A15.out).mono ?_);rintro e w' ⟨rfl,⟨nd,rfl⟩⟩)|(go_at_call 81;(with_reducible refine (Za.calls Ja Pa 1000 false _ A19.out).mono ?_);rintro e w' ⟨rfl,⟨nd,rfl⟩⟩))
          go_meet
          case rel=>exact ⟨_,(true),(by first|rfl|(simp;done)|(simp [*];done)),H',⟨by have:=Gf.out;first|omega|exact Nat.le_refl _⟩,⟨by (with_reducible repeat (first|refine Ca ?_ _|refine Ea ?_|refine Da ?_ _));exact ta.out⟩,⟨by repeat (first|(with_reducible first|exact HB.out|apply oa|apply ia|apply qa|refine ua ?_ Sa.out)|exact HB.out)⟩⟩
       ·replace xy:=Bool.eq_false_iff.mpr xy;subst xy;have H1:(Ua.j1 k1 true Oa La Pa Ja Fa)=some r:=by rw [if_neg (show ¬ (false=true) by decide)] at H;exact H
        clear H;have H:=H1;clear H1;have H':=ga.mk H;clear H;have Ew:wr.cell? ⟨za,0,none⟩=some (.slice xb Oa.length qb):=(ja ta.out 0).trans rfl;have Dw:wr.cell? ⟨za,1,none⟩=some (.int .i64 La):=(ja ta.out 1).trans rfl;have Cw:wr.cell? ⟨za,2,none⟩=some (.int .i64 Pa):=(ja ta.out 2).trans rfl;have Bw:wr.cell? ⟨za,3,none⟩=some (.int .i64 Ja):=(ja ta.out 3).trans rfl;have Aw:wr.cell? ⟨za,4,none⟩=some (.slice Pb Fa.length Gb):=(ja ta.out 4).trans rfl;have jw:=aa ta.out 0;have iw:=aa ta.out 1;have gw:=aa ta.out 2;have ew:=aa ta.out 3;have dw:=aa ta.out 4;go_wp2_with (first|((with_reducible refine zb (f:=81) rfl ?_);refine Dc (some 23) rfl rfl Try.func81 (by kernel_rfl) rfl #[.int .i64 (Oa.length:Int),.int .i64 1,.int .i64 4] rfl (by (try simp only [List.map_toArray,List.map_cons,List.map_nil]);first|done|rfl|(simp only [List.length_drop,List.length_take];rfl)) ?_;(with_reducible refine (Za.calls (Oa.length:Int) 1 4 true _ eY.out).mono ?_);rintro e w' ⟨rfl,⟨nd,rfl⟩⟩;refine ⟨_,rfl,?_⟩)|(go_at_call 81;(with_reducible refine (Za.calls Pa 0 20 true _ A13.out).mono ?_);rintro e w' ⟨rfl,⟨nd,rfl⟩⟩)|(go_at_call 81;(with_reducible refine (Za.calls La 0 6 false _ A15.out).mono ?_);rintro e w' ⟨rfl,⟨nd,rfl⟩⟩))
        go_meet
        case rel=>exact ⟨_,(true),(by first|rfl|(simp;done)|(simp [*];done)),H',⟨by have:=Gf.out;first|omega|exact Nat.le_refl _⟩,⟨by (with_reducible repeat (first|refine Ca ?_ _|refine Ea ?_|refine Da ?_ _));exact ta.out⟩,⟨by repeat (first|(with_reducible first|exact HB.out|apply oa|apply ia|apply qa|refine ua ?_ Sa.out)|exact HB.out)⟩⟩
      ·replace yy:=Bool.eq_false_iff.mpr yy;subst yy;have H1:(Ua.j1 k1 true Oa La Pa Ja Fa)=some r:=by rw [if_neg (show ¬ (false=true) by decide)] at H;exact H
       clear H;have H:=H1;clear H1;have H':=ga.mk H;clear H;have Xs:wr.cell? ⟨za,0,none⟩=some (.slice xb Oa.length qb):=(ja ta.out 0).trans rfl;have Ws:wr.cell? ⟨za,1,none⟩=some (.int .i64 La):=(ja ta.out 1).trans rfl;have Vs:wr.cell? ⟨za,2,none⟩=some (.int .i64 Pa):=(ja ta.out 2).trans rfl;have Us:wr.cell? ⟨za,3,none⟩=some (.int .i64 Ja):=(ja ta.out 3).trans rfl;have Ts:wr.cell? ⟨za,4,none⟩=some (.slice Pb Fa.length Gb):=(ja ta.out 4).trans rfl;have Fs:=aa ta.out 0;have Es:=aa ta.out 1;have Ds:=aa ta.out 2;have Cs:=aa ta.out 3;have Bs:=aa ta.out 4;go_wp2_with (first|((with_reducible refine zb (f:=81) rfl ?_);refine Dc (some 23) rfl rfl Try.func81 (by kernel_rfl) rfl #[.int .i64 (Oa.length:Int),.int .i64 1,.int .i64 4] rfl (by (try simp only [List.map_toArray,List.map_cons,List.map_nil]);first|done|rfl|(simp only [List.length_drop,List.length_take];rfl)) ?_;(with_reducible refine (Za.calls (Oa.length:Int) 1 4 true _ eY.out).mono ?_);rintro e w' ⟨rfl,⟨nd,rfl⟩⟩;refine ⟨_,rfl,?_⟩)|(go_at_call 81;(with_reducible refine (Za.calls Pa 0 20 false _ A13.out).mono ?_);rintro e w' ⟨rfl,⟨nd,rfl⟩⟩))
       go_meet
       case rel=>exact ⟨_,(true),(by first|rfl|(simp;done)|(simp [*];done)),H',⟨by have:=Gf.out;first|omega|exact Nat.le_refl _⟩,⟨by (with_reducible repeat (first|refine Ca ?_ _|refine Ea ?_|refine Da ?_ _));exact ta.out⟩,⟨by repeat (first|(with_reducible first|exact HB.out|apply oa|apply ia|apply qa|refine ua ?_ Sa.out)|exact HB.out)⟩⟩
     ·replace Zq:=Bool.eq_false_iff.mpr Zq;subst Zq;have H1:(Ua.j1 k1 true Oa La Pa Ja Fa)=some r:=by rw [if_neg (show ¬ (false=true) by decide)] at H;exact H
      clear H;have H:=H1;clear H1;have H':=ga.mk H;clear H;have zw:wr.cell? ⟨za,0,none⟩=some (.slice xb Oa.length qb):=(ja ta.out 0).trans rfl;have yw:wr.cell? ⟨za,1,none⟩=some (.int .i64 La):=(ja ta.out 1).trans rfl;have xw:wr.cell? ⟨za,2,none⟩=some (.int .i64 Pa):=(ja ta.out 2).trans rfl;have vw:wr.cell? ⟨za,3,none⟩=some (.int .i64 Ja):=(ja ta.out 3).trans rfl;have uw:wr.cell? ⟨za,4,none⟩=some (.slice Pb Fa.length Gb):=(ja ta.out 4).trans rfl;have cw:=aa ta.out 0;have bw:=aa ta.out 1;have Zv:=aa ta.out 2;have Yv:=aa ta.out 3;have Xv:=aa ta.out 4;go_wp2_with (first|((with_reducible refine zb (f:=81) rfl ?_);refine Dc (some 23) rfl rfl Try.func81 (by kernel_rfl) rfl #[.int .i64 (Oa.length:Int),.int .i64 1,.int .i64 4] rfl (by (try simp only [List.map_toArray,List.map_cons,List.map_nil]);first|done|rfl|(simp only [List.length_drop,List.length_take];rfl)) ?_;(with_reducible refine (Za.calls (Oa.length:Int) 1 4 false _ eY.out).mono ?_);rintro e w' ⟨rfl,⟨nd,rfl⟩⟩;refine ⟨_,rfl,?_⟩))
      go_meet
      case rel=>exact ⟨_,(true),(by first|rfl|(simp;done)|(simp [*];done)),H',⟨by have:=Gf.out;first|omega|exact Nat.le_refl _⟩,⟨by (with_reducible repeat (first|refine Ca ?_ _|refine Ea ?_|refine Da ?_ _));exact ta.out⟩,⟨by repeat (first|(with_reducible first|exact HB.out|apply oa|apply ia|apply qa|refine ua ?_ Sa.out)|exact HB.out)⟩⟩
    case rest =>
     clear HC9
     try clear c1
     try clear p1
     try clear q1
     try clear hx1
     try clear c2
     try clear p2
     try clear c3
     try clear Cg
     try clear c4
     try clear Aj
     try clear c6
     try clear p6
     try clear c8
     try clear AB
     try clear zB
     try clear FO
     try clear Zq
     try clear yy
     try clear xy
     try clear Ez
     try clear Sw
     try clear bx
     try clear Ni
     try clear Mi
     try clear Li
     try clear Ki
     try clear Ji
     try clear nt
     try clear jt
     try clear bt
     try clear Zs
     try clear Ys
     try clear Jw
     try clear Iw
     try clear Hw
     try clear Gw
     try clear Fw
     try clear Oo
     try clear Mo
     try clear Lo
     try clear Ko
     try clear Jo
     try clear Ew
     try clear Dw
     try clear Cw
     try clear Bw
     try clear Aw
     try clear Xs
     try clear Ws
     try clear Vs
     try clear Us
     try clear Ts
     try clear zw
     try clear yw
     try clear xw
     try clear vw
     try clear uw
     try clear OD
     try clear ND
     try clear MD
     try clear LD
     try clear KD
     try clear Bu
     try clear Au
     try clear zu
     try clear yu
     try clear xu
     try clear Ii
     try clear Hi
     try clear Gi
     try clear Fi
     try clear Ei
     try clear Ls
     try clear Ks
     try clear Js
     try clear Hs
     try clear Gs
     try clear sw
     try clear qw
     try clear ow
     try clear nw
     try clear mw
     try clear Bo
     try clear zo
     try clear yo
     try clear xo
     try clear vo
     try clear jw
     try clear iw
     try clear gw
     try clear ew
     try clear dw
     try clear Fs
     try clear Es
     try clear Ds
     try clear Cs
     try clear Bs
     try clear cw
     try clear bw
     try clear Zv
     try clear Yv
     try clear Xv
     try clear PC
     try clear OC
     try clear NC
     try clear MC
     try clear LC
     try clear ru
     try clear qu
     try clear ou
     try clear nu
     try clear lu
     try clear Ke
     try clear Fh
     try clear p2
     try clear Eh
     obtain ⟨kq,BJ,rfl,HA,HJ8,ta,HB⟩:=hcut;cases kq with
     | zero=>exact absurd HA.out (by simp [Ua.j1])
     | succ kj8 =>
      have H:=HA.out;clear HA;simp only [Ua.j1] at H
      by_cases wF:BJ=true
      ·subst wF;have H1:(some false)=some r:=by rw [if_pos rfl] at H;exact H
       clear H;have H:=H1;clear H1;obtain rfl:=Option.some.inj H;go_wp2;go_ret;exact ⟨by first|rfl|(simp [Na,Ma] <;> rfl)|(simp [*,Na,Ma] <;> rfl),by repeat (first|(with_reducible first|exact HB.out|apply oa|apply ia|apply qa|refine ua ?_ Sa.out)|exact HB.out)⟩
      ·replace wF:=Bool.eq_false_iff.mpr wF;subst wF;have H1:(Ua.l1 kj8 0 0 Oa La Pa Ja Fa)=some r:=by rw [if_neg (show ¬ (false=true) by decide)] at H;exact H
       clear H;have H:=H1;clear H1;have H':=ga.mk H;clear H;go_wp2
       go_loopg [4,5] kj8 (fun kq v4 v5 w'=>∃ (fC:Int) (bf:Int),v4 = .int .i64 fC∧v5 = .int .i64 bf∧ga (Ua.l1 kq fC bf Oa La Pa Ja Fa=some r)∧ga (kq ≤ kj8)∧ga (w'.heap[za]? = some (.cells #[(.slice xb Oa.length qb),.int .i64 La,.int .i64 Pa,.int .i64 Ja,(.slice Pb Fa.length Gb)] 45 (0,0)))∧ga (Below w.heap.size w w'))
       case atStart=>exact ⟨(0),(0),(by first|rfl|(simp;done)|(simp [*];done)),(by first|rfl|(simp;done)|(simp [*];done)),H',⟨Nat.le_refl _⟩,⟨by (with_reducible repeat (first|refine Ca ?_ _|refine Ea ?_|refine Da ?_ _));exact ta.out⟩,⟨by repeat (first|(with_reducible first|exact HB.out|apply oa|apply ia|apply qa|refine ua ?_ Sa.out)|exact HB.out)⟩⟩
       case round =>
        clear H'
        try clear c1
        try clear p1
        try clear q1
        try clear hx1
        try clear c2
        try clear p2
        try clear c3
        try clear Cg
        try clear c4
        try clear Aj
        try clear c6
        try clear p6
        try clear c8
        try clear AB
        try clear zB
        try clear FO
        try clear Zq
        try clear yy
        try clear xy
        try clear Ez
        try clear Sw
        try clear bx
        try clear wF
        try clear Ni
        try clear Mi
        try clear Li
        try clear Ki
        try clear Ji
        try clear nt
        try clear jt
        try clear bt
        try clear Zs
        try clear Ys
        try clear Jw
        try clear Iw
        try clear Hw
        try clear Gw
        try clear Fw
        try clear Oo
        try clear Mo
        try clear Lo
        try clear Ko
        try clear Jo
        try clear Ew
        try clear Dw
        try clear Cw
        try clear Bw
        try clear Aw
        try clear Xs
        try clear Ws
        try clear Vs
        try clear Us
        try clear Ts
        try clear zw
        try clear yw
        try clear xw
        try clear vw
        try clear uw
        try clear OD
        try clear ND
        try clear MD
        try clear LD
        try clear KD
        try clear Bu
        try clear Au
        try clear zu
        try clear yu
        try clear xu
        try clear Ii
        try clear Hi
        try clear Gi
        try clear Fi
        try clear Ei
        try clear Ls
        try clear Ks
        try clear Js
        try clear Hs
        try clear Gs
        try clear sw
        try clear qw
        try clear ow
        try clear nw
        try clear mw
        try clear Bo
        try clear zo
        try clear yo
        try clear xo
        try clear vo
        try clear jw
        try clear iw
        try clear gw
        try clear ew
        try clear dw
        try clear Fs
        try clear Es
        try clear Ds
        try clear Cs
        try clear Bs
        try clear cw
        try clear bw
        try clear Zv
        try clear Yv
        try clear Xv
        try clear PC
        try clear OC
        try clear NC
        try clear MC
        try clear LC
        try clear ru
        try clear qu
        try clear ou
        try clear nu
        try clear lu
        try clear Ke
        try clear p1
        try clear AB
        try clear Fh
        try clear p2
        try clear p6
        try clear q1
        try clear zB
        try clear Eh
        (try clear HA);(try clear B5);(try clear ta);(try clear HB);obtain ⟨fC,bf,rfl,rfl,HA,B5,ta,HB⟩:=hrel;cases gk with
        | zero=>exact absurd HA.out (by simp [Ua.l1])
        | succ k3 =>
         have H:=HA.out;clear HA;simp only [Ua.l1] at H
         by_cases Qw:bf < (Fa.length:Int)
         ·rw [if_pos Qw] at H;have Ip:decide (bf < (Fa.length:Int))=true:=decide_eq_true Qw;clear Qw
          by_cases Dz:0 ≤ bf
          ·rw [if_pos Dz] at H;have Pw:decide (0 ≤ bf)=true:=decide_eq_true Dz;clear Dz
           by_cases Xx:(wrap64 (fC + (((Ta Fa bf).f0).length:Int))) > 1000
           ·rw [if_pos Xx] at H;have RB:decide (1000 < (wrap64 (fC + (((Ta Fa bf).f0).length:Int))))=true:=decide_eq_true Xx;clear Xx;obtain rfl:=Option.some.inj H;have oz:wr.cell? ⟨za,0,none⟩=some (.slice xb Oa.length qb):=(ja ta.out 0).trans rfl;have mz:wr.cell? ⟨za,1,none⟩=some (.int .i64 La):=(ja ta.out 1).trans rfl;have kz:wr.cell? ⟨za,2,none⟩=some (.int .i64 Pa):=(ja ta.out 2).trans rfl;have jz:wr.cell? ⟨za,3,none⟩=some (.int .i64 Ja):=(ja ta.out 3).trans rfl;have iz:wr.cell? ⟨za,4,none⟩=some (.slice Pb Fa.length Gb):=(ja ta.out 4).trans rfl;have Ry:=aa ta.out 0;have Qy:=aa ta.out 1;have Py:=aa ta.out 2;have Oy:=aa ta.out 3;have Ny:=aa ta.out 4;have bA:0 ≤ (bf:Int):=of_decide_eq_true (by first|(with_reducible assumption)|assumption);have Zz:bf < (Fa.length:Int):=of_decide_eq_true (by first|(with_reducible assumption)|assumption);obtain ⟨Qh,ZQ,oQ,VP,mo,jo,fo,eo,Zn,qo,uo⟩:=ek ng.out bf bA Zz;cases VP;replace mo:=Ra HB.out mo;replace jo:=Ra HB.out jo;replace fo:=Ra HB.out fo;replace eo:=Ra HB.out eo;replace Zn:=Ra HB.out Zn;have jM:=ga.mk uo;have oM:=ga.mk qo;clear uo qo;replace bA:=eq_true bA;replace Zz:=eq_true Zz
            try go_wp2
            have Fb:=ga.mk (Ea ta.out);have Lb:=ga.mk (qa HB.out);clear ta HB;have ta:=Fb;have HB:=Lb;clear Fb Lb;refine xk (n:=12) (S:=fun w'=>True) (ds:=[]) #[false,false,false,false,false,false,false,false,false,false,false,false] (by kernel_rfl) rfl rfl trivial (fun hHeld=>?_);refine Kh Ua.KN Ua.jJ (fun Kf Hq=>?_);generalize wr.drew=w32 at ta HB hHeld ⊢;refine od (i:=0) (N:=some 75) (v:=?_) (a':=?_) #[true,false,false,false,false,false,false,false,false,false,false,false] rfl rfl (Cc Kf.out (by kernel_rfl)) (fun _ _ _ h=>h) (Or.inl ⟨by rfl,?_⟩) ?_ ?_;rotate_left
            ·intro w';go_simp;with_reducible rfl
            rotate_left
            ·simp only [Act.put,List.setIfInBounds_toArray,List.set_cons_zero,List.set_cons_succ,dc,ec]
             rfl
            refine od (i:=1) (N:=some 76) (v:=?_) (a':=?_) #[true,true,false,false,false,false,false,false,false,false,false,false] rfl rfl (Cc Kf.out (by kernel_rfl)) (fun _ _ _ h=>h) (Or.inl ⟨by rfl,?_⟩) ?_ ?_;rotate_left
            ·intro w';go_simp;with_reducible rfl
            rotate_left
            ·simp only [Act.put,List.setIfInBounds_toArray,List.set_cons_zero,List.set_cons_succ,dc,ec]
             rfl
            refine od (i:=2) (N:=some 77) (v:=?_) (a':=?_) #[true,true,true,false,false,false,false,false,false,false,false,false] rfl rfl (Cc Kf.out (by kernel_rfl)) (fun _ _ _ h=>h) (Or.inl ⟨by rfl,?_⟩) ?_ ?_;rotate_left
            ·intro w';go_simp;with_reducible rfl
            rotate_left
            ·simp only [Act.put,List.setIfInBounds_toArray,List.set_cons_zero,List.set_cons_succ,dc,ec]
             rfl
            refine od (i:=3) (N:=some 78) (v:=undef) (a':=?_) #[true,true,true,true,false,false,false,false,false,false,false,false] rfl rfl (Cc Kf.out (by kernel_rfl)) (fun _ _ _ h=>h) (Or.inr ⟨by rfl,rfl⟩) ?_ ?_;rotate_left
            ·simp only [Act.put,List.setIfInBounds_toArray,List.set_cons_zero,List.set_cons_succ,dc,ec]
             rfl
            refine od (i:=4) (N:=some 79) (v:=undef) (a':=?_) #[true,true,true,true,true,false,false,false,false,false,false,false] rfl rfl (Cc Kf.out (by kernel_rfl)) (fun _ _ _ h=>h) (Or.inr ⟨by rfl,rfl⟩) ?_ ?_;rotate_left
            ·simp only [Act.put,List.setIfInBounds_toArray,List.set_cons_zero,List.set_cons_succ,dc,ec]
             rfl
            refine od (i:=5) (N:=some 80) (v:=undef) (a':=?_) #[true,true,true,true,true,true,false,false,false,false,false,false] rfl rfl (Cc Kf.out (by kernel_rfl)) (fun _ _ _ h=>h) (Or.inr ⟨by rfl,rfl⟩) ?_ ?_;rotate_left
            ·simp only [Act.put,List.setIfInBounds_toArray,List.set_cons_zero,List.set_cons_succ,dc,ec]
             rfl
            refine od (i:=6) (N:=some 81) (v:=undef) (a':=?_) #[true,true,true,true,true,true,true,false,false,false,false,false] rfl rfl (Cc Kf.out (by kernel_rfl)) (fun _ _ _ h=>h) (Or.inr ⟨by rfl,rfl⟩) ?_ ?_;rotate_left
            ·simp only [Act.put,List.setIfInBounds_toArray,List.set_cons_zero,List.set_cons_succ,dc,ec]
             rfl
            refine od (i:=7) (N:=some 82) (v:=undef) (a':=?_) #[true,true,true,true,true,true,true,true,false,false,false,false] rfl rfl (Cc Kf.out (by kernel_rfl)) (fun _ _ _ h=>h) (Or.inr ⟨by rfl,rfl⟩) ?_ ?_;rotate_left
            ·simp only [Act.put,List.setIfInBounds_toArray,List.set_cons_zero,List.set_cons_succ,dc,ec]
             rfl
            refine od (i:=8) (N:=some 83) (v:=undef) (a':=?_) #[true,true,true,true,true,true,true,true,true,false,false,false] rfl rfl (Cc Kf.out (by kernel_rfl)) (fun _ _ _ h=>h) (Or.inr ⟨by rfl,rfl⟩) ?_ ?_;rotate_left
            ·simp only [Act.put,List.setIfInBounds_toArray,List.set_cons_zero,List.set_cons_succ,dc,ec]
             rfl
            refine od (i:=9) (N:=some 84) (v:=undef) (a':=?_) #[true,true,true,true,true,true,true,true,true,true,false,false] rfl rfl (Cc Kf.out (by kernel_rfl)) (fun _ _ _ h=>h) (Or.inr ⟨by rfl,rfl⟩) ?_ ?_;rotate_left
            ·simp only [Act.put,List.setIfInBounds_toArray,List.set_cons_zero,List.set_cons_succ,dc,ec]
             rfl
            refine od (i:=10) (N:=some 85) (v:=undef) (a':=?_) #[true,true,true,true,true,true,true,true,true,true,true,false] rfl rfl (Cc Kf.out (by kernel_rfl)) (fun _ _ _ h=>h) (Or.inr ⟨by rfl,rfl⟩) ?_ ?_;rotate_left
            ·simp only [Act.put,List.setIfInBounds_toArray,List.set_cons_zero,List.set_cons_succ,dc,ec]
             rfl
            refine od (i:=11) (N:=some 86) (v:=?_) (a':=?_) #[true,true,true,true,true,true,true,true,true,true,true,true] rfl rfl (Cc Kf.out (by kernel_rfl)) (fun _ _ _ h=>h) (Or.inl ⟨by rfl,?_⟩) ?_ ?_;rotate_left
            ·intro w';go_simp;with_reducible rfl
            rotate_left
            ·simp only [Act.put,List.setIfInBounds_toArray,List.set_cons_zero,List.set_cons_succ,dc,ec]
             rfl
            refine Wo (Vj Kf.out (by kernel_rfl)) ?_
            try go_wp2
            go_ret;exact ⟨by first|rfl|(simp [Na,Ma] <;> rfl)|(simp [*,Na,Ma] <;> rfl),by repeat (first|(with_reducible first|exact HB.out|apply oa|apply ia|apply qa|refine ua ?_ Sa.out)|exact HB.out)⟩
           ·rw [if_neg Xx] at H;have RB:decide (1000 < (wrap64 (fC + (((Ta Fa bf).f0).length:Int))))=false:=decide_eq_false Xx;clear Xx;replace H:=Option.bind_eq_some_iff.mp H;obtain ⟨t111,wad,H⟩:=H;replace H:(if t111=true then (Ua.l1 k3 (wrap64 (fC + (((Ta Fa bf).f0).length:Int))) (wrap64 (bf + 1)) Oa La Pa Ja Fa) else (some false))=some r:=H;have A33:=ga.mk wad;clear wad
            by_cases cH:t111=true
            ·subst cH;have H1:(Ua.l1 k3 (wrap64 (fC + (((Ta Fa bf).f0).length:Int))) (wrap64 (bf + 1)) Oa La Pa Ja Fa)=some r:=by rw [if_pos rfl] at H;exact H
             clear H;have H:=H1;clear H1;have H':=ga.mk H;clear H;have IU:wr.cell? ⟨za,0,none⟩=some (.slice xb Oa.length qb):=(ja ta.out 0).trans rfl;have GU:wr.cell? ⟨za,1,none⟩=some (.int .i64 La):=(ja ta.out 1).trans rfl;have FU:wr.cell? ⟨za,2,none⟩=some (.int .i64 Pa):=(ja ta.out 2).trans rfl;have EU:wr.cell? ⟨za,3,none⟩=some (.int .i64 Ja):=(ja ta.out 3).trans rfl;have DU:wr.cell? ⟨za,4,none⟩=some (.slice Pb Fa.length Gb):=(ja ta.out 4).trans rfl;have lT:=aa ta.out 0;have kT:=aa ta.out 1;have jT:=aa ta.out 2;have iT:=aa ta.out 3;have gT:=aa ta.out 4;have bA:0 ≤ (bf:Int):=of_decide_eq_true (by first|(with_reducible assumption)|assumption);have Zz:bf < (Fa.length:Int):=of_decide_eq_true (by first|(with_reducible assumption)|assumption);obtain ⟨Qh,ZQ,oQ,VP,mo,jo,fo,eo,Zn,qo,uo⟩:=ek ng.out bf bA Zz;cases VP;replace mo:=Ra HB.out mo;replace jo:=Ra HB.out jo;replace fo:=Ra HB.out fo;replace eo:=Ra HB.out eo;replace Zn:=Ra HB.out Zn;have jM:=ga.mk uo;have oM:=ga.mk qo;clear uo qo;replace bA:=eq_true bA;replace Zz:=eq_true Zz
             try go_wp2
             have Fb:=ga.mk (Ea ta.out);have Lb:=ga.mk (qa HB.out);clear ta HB;have ta:=Fb;have HB:=Lb;clear Fb Lb;have nI:0 ≤ (bf:Int):=of_decide_eq_true (by first|(with_reducible assumption)|assumption);have gI:bf < (Fa.length:Int):=of_decide_eq_true (by first|(with_reducible assumption)|assumption);obtain ⟨tQ,TA,GA,G0,Sm,Rm,Qm,Pm,Om,Rv,Vv⟩:=ek ng.out bf nI gI;have wv:=Om;have Av:=Pm;have Bv:=Qm;have Cv:=Rm;have Dv:=Sm;obtain rfl:Qh=tQ:=(by injection G0);replace Sm:=Ra HB.out Sm;replace Rm:=Ra HB.out Rm;replace Qm:=Ra HB.out Qm;replace Pm:=Ra HB.out Pm;replace Om:=Ra HB.out Om;have Yw:=ga.mk Vv;have qF:=ga.mk Rv;clear Vv Rv;replace nI:=eq_true nI;replace gI:=eq_true gI;refine xk (n:=12) (S:=fun w'=>w'.cell? ⟨za,0,none⟩=some (.slice xb Oa.length qb)∧w'.cell? ⟨za,1,none⟩=some (.int .i64 La)∧w'.cell? ⟨za,2,none⟩=some (.int .i64 Pa)∧w'.cell? ⟨za,3,none⟩=some (.int .i64 Ja)∧w'.cell? ⟨za,4,none⟩=some (.slice (some Qh) Fa.length Gb)∧w'.cell? (Qh.add ((bf).toNat * 5))=some (.slice TA ((Ta Fa bf).f0).length GA)∧w'.cell? ⟨(Qh.add ((bf).toNat * 5)).block,(Qh.add ((bf).toNat * 5)).off + 1,none⟩=some (.int .i64 ((Ta Fa bf).f1))∧w'.cell? ⟨(Qh.add ((bf).toNat * 5)).block,(Qh.add ((bf).toNat * 5)).off + 2,none⟩=some (.int .i64 ((Ta Fa bf).f2))∧w'.cell? ⟨(Qh.add ((bf).toNat * 5)).block,(Qh.add ((bf).toNat * 5)).off + 3,none⟩=some (.int .i64 ((Ta Fa bf).f3))∧w'.cell? ⟨(Qh.add ((bf).toNat * 5)).block,(Qh.add ((bf).toNat * 5)).off + 4,none⟩=some (.int .i64 ((Ta Fa bf).f4))) (ds:=[]) #[false,false,false,false,false,false,false,false,false,false,false,false] (by kernel_rfl) rfl rfl ⟨(ja ta.out 0).trans rfl,(ja ta.out 1).trans rfl,(ja ta.out 2).trans rfl,(ja ta.out 3).trans rfl,(ja ta.out 4).trans rfl,(Ra HB.out Dv),(Ra HB.out Cv),(Ra HB.out Bv),(Ra HB.out Av),(Ra HB.out wv)⟩ (fun hHeld=>?_);refine Kh Ua.KN Ua.jJ (fun Kf Hq=>?_);generalize wr.drew=jC at ta HB Yw Sm Rm Qm Pm Om hHeld ⊢;refine od (i:=0) (N:=some 75) (v:=?_) (a':=?_) #[true,false,false,false,false,false,false,false,false,false,false,false] rfl rfl (Cc Kf.out (by kernel_rfl)) (fun _ _ _ h=>h) (Or.inl ⟨by rfl,?_⟩) ?_ ?_;rotate_left
             ·intro w';go_simp;with_reducible rfl
             rotate_left
             ·simp only [Act.put,List.setIfInBounds_toArray,List.set_cons_zero,List.set_cons_succ,dc,ec]
              rfl
             refine od (i:=1) (N:=some 76) (v:=?_) (a':=?_) #[true,true,false,false,false,false,false,false,false,false,false,false] rfl rfl (Cc Kf.out (by kernel_rfl)) (fun _ _ _ h=>h) (Or.inl ⟨by rfl,?_⟩) ?_ ?_;rotate_left
             ·intro w';go_simp;with_reducible rfl
             rotate_left
             ·simp only [Act.put,List.setIfInBounds_toArray,List.set_cons_zero,List.set_cons_succ,dc,ec]
              rfl
             refine od (i:=2) (N:=some 77) (v:=?_) (a':=?_) #[true,true,true,false,false,false,false,false,false,false,false,false] rfl rfl (Cc Kf.out (by kernel_rfl)) (fun _ _ _ h=>h) (Or.inl ⟨by rfl,?_⟩) ?_ ?_;rotate_left
             ·intro w';go_simp;with_reducible rfl
             rotate_left
             ·simp only [Act.put,List.setIfInBounds_toArray,List.set_cons_zero,List.set_cons_succ,dc,ec]
              rfl
             refine od (i:=4) (N:=some 79) (v:=?_) (a':=?_) #[true,true,true,false,true,false,false,false,false,false,false,false] rfl rfl (Cc Kf.out (by kernel_rfl)) (fun _ _ _ h=>h) (Or.inl ⟨by rfl,?_⟩) ?_ ?_;rotate_left
             ·intro w';go_simp;with_reducible rfl
             rotate_left
             ·simp only [Act.put,List.setIfInBounds_toArray,List.set_cons_zero,List.set_cons_succ,dc,ec]
              rfl
             refine od (i:=6) (N:=some 81) (v:=?_) (a':=?_) #[true,true,true,false,true,false,true,false,false,false,false,false] rfl rfl (Cc Kf.out (by kernel_rfl)) (fun _ _ _ h=>h) (Or.inl ⟨by rfl,?_⟩) ?_ ?_;rotate_left
             ·intro w';go_simp;with_reducible rfl
             rotate_left
             ·simp only [Act.put,List.setIfInBounds_toArray,List.set_cons_zero,List.set_cons_succ,dc,ec]
              rfl
             refine Ug (i:=3) (N:=some 78) (v:=?_) (a':=?_) #[true,true,true,true,true,false,true,false,false,false,false,false] rfl rfl (Te Kf.out Hq.out (by kernel_rfl)) (fun _ _ _ h=>h) (Or.inl ⟨by rfl,?_⟩) hHeld ?_ ?_;rotate_left
             ·rintro w' ⟨s0,s1,s2,s3,s4,s5,s6,s7,s8,s9⟩;go_simp;with_reducible rfl
             rotate_left
             ·simp only [Act.put,List.setIfInBounds_toArray,List.set_cons_zero,List.set_cons_succ,dc,ec]
              rfl
             refine Ug (i:=5) (N:=some 80) (v:=?_) (a':=?_) #[true,true,true,true,true,true,true,false,false,false,false,false] rfl rfl (Te Kf.out Hq.out (by kernel_rfl)) (fun _ _ _ h=>h) (Or.inl ⟨by rfl,?_⟩) hHeld ?_ ?_;rotate_left
             ·rintro w' ⟨s0,s1,s2,s3,s4,s5,s6,s7,s8,s9⟩;go_simp;with_reducible rfl
             rotate_left
             ·simp only [Act.put,List.setIfInBounds_toArray,List.set_cons_zero,List.set_cons_succ,dc,ec]
              rfl
             refine od (i:=7) (N:=some 82) (v:=?_) (a':=?_) #[true,true,true,true,true,true,true,true,false,false,false,false] rfl rfl (Cc Kf.out (by kernel_rfl)) (fun _ _ _ h=>h) (Or.inl ⟨by rfl,?_⟩) ?_ ?_;rotate_left
             ·intro w';go_simp;with_reducible rfl
             rotate_left
             ·simp only [Act.put,List.setIfInBounds_toArray,List.set_cons_zero,List.set_cons_succ,dc,ec]
              rfl
             refine Ug (i:=8) (N:=some 83) (v:=?_) (a':=?_) #[true,true,true,true,true,true,true,true,true,false,false,false] rfl rfl (Te Kf.out Hq.out (by kernel_rfl)) (fun _ _ _ h=>h) (Or.inl ⟨by rfl,?_⟩) hHeld ?_ ?_;rotate_left
             ·rintro w' ⟨s0,s1,s2,s3,s4,s5,s6,s7,s8,s9⟩;go_simp;with_reducible rfl
             rotate_left
             ·simp only [Act.put,List.setIfInBounds_toArray,List.set_cons_zero,List.set_cons_succ,dc,ec]
              rfl
             refine Yu (i:=9) (N:=some 84) #[true,true,true,true,true,true,true,true,true,true,false,false] rfl rfl (qm Kf.out (by kernel_rfl)) (by decide) (fun K hK=>?_);refine Nq Try.func101 (by kernel_rfl) rfl #[.agg #[.slice xb Oa.length qb,.int .i64 La,.int .i64 Pa,.int .i64 Ja,.slice (some Qh) Fa.length Gb],.agg #[.slice TA ((Ta Fa bf).f0).length GA,.int .i64 ((Ta Fa bf).f1),.int .i64 ((Ta Fa bf).f2),.int .i64 ((Ta Fa bf).f3),.int .i64 ((Ta Fa bf).f4)]] (by rfl) rfl rfl (by (try simp only [List.map_toArray,List.map_cons,List.map_nil]);first|done|rfl|(simp only [List.length_drop,List.length_take];rfl)) ?_;with_reducible refine (ic.calls k3 _ _ Oa La Pa Ja _ _ Fa _ _ ((Ta Fa bf).f0) ((Ta Fa bf).f1) ((Ta Fa bf).f2) ((Ta Fa bf).f3) ((Ta Fa bf).f4) true _ ?yc ?uc ?Ad ?yd ?Su ?Ru A33.out).mono ?_
             (case yc=>repeat (first|exact (Kd.Mb Ue.out HB.out)|(with_reducible refine Kd.Sb ?_ _)|(with_reducible refine Kd.Rb ?_ _)|(with_reducible refine Kd.jc ?_)))
             (case uc=>exact af.out)
             (case Ad=>repeat (first|exact (Kd.Mb ng.out HB.out)|(with_reducible refine Kd.Sb ?_ _)|(with_reducible refine Kd.Rb ?_ _)|(with_reducible refine Kd.jc ?_)))
             (case yd=>exact Xg.out)
             (case Su=>repeat (first|exact (Kd.Mb Yw.out HB.out)|(with_reducible refine Kd.Sb ?_ _)|(with_reducible refine Kd.Rb ?_ _)|(with_reducible refine Kd.jc ?_)))
             (case Ru=>exact qF.out)
             rintro e hY ⟨rfl,hb⟩;refine ⟨_,rfl,?_⟩;have Fb:=ga.mk (Va (g:=za) (o:=.cells #[.slice xb Oa.length qb,.int .i64 La,.int .i64 Pa,.int .i64 Ja,.slice (some Qh) Fa.length Gb] 45 (0,0)) (by (with_reducible repeat (first|refine Ca ?_ _|refine Ea ?_|refine Da ?_ _));exact ta.out) hb);have Lb:=ga.mk (Qa (by repeat (first|(with_reducible first|exact HB.out|apply oa|apply ia|apply qa|refine ua ?_ Sa.out)|exact HB.out)) hb);clear ta HB;have ta:=Fb;have HB:=Lb;clear Fb Lb;(try clear hb);(try clear Jj);(try clear hk);(try clear hi);refine hK.out _ _ ⟨(ja ta.out 0).trans rfl,(ja ta.out 1).trans rfl,(ja ta.out 2).trans rfl,(ja ta.out 3).trans rfl,(ja ta.out 4).trans rfl,(Ra HB.out Dv),(Ra HB.out Cv),(Ra HB.out Bv),(Ra HB.out Av),(Ra HB.out wv)⟩ (fun hHeld=>?_);clear hK K;refine Wn (a':=?_) ?_ ?_;rotate_left
             ·show Act.put _ (some 84) _=_
              simp only [Act.put,List.setIfInBounds_toArray,List.set_cons_zero,List.set_cons_succ,dc,ec]
              rfl
             refine od (i:=10) (N:=some 85) (v:=?_) (a':=?_) #[true,true,true,true,true,true,true,true,true,true,true,false] rfl rfl (Cc Kf.out (by kernel_rfl)) (fun _ _ _ h=>h) (Or.inl ⟨by rfl,?_⟩) ?_ ?_;rotate_left
             ·intro w';go_simp;with_reducible rfl
             rotate_left
             ·simp only [Act.put,List.setIfInBounds_toArray,List.set_cons_zero,List.set_cons_succ,dc,ec]
              rfl
             refine od (i:=11) (N:=some 86) (v:=?_) (a':=?_) #[true,true,true,true,true,true,true,true,true,true,true,true] rfl rfl (Cc Kf.out (by kernel_rfl)) (fun _ _ _ h=>h) (Or.inl ⟨by rfl,?_⟩) ?_ ?_;rotate_left
             ·intro w';go_simp;with_reducible rfl
             rotate_left
             ·simp only [Act.put,List.setIfInBounds_toArray,List.set_cons_zero,List.set_cons_succ,dc,ec]
              rfl
             refine Wo (Vj Kf.out (by kernel_rfl)) ?_
             try go_wp2
             go_roundg k3
             case measure=>have:=Gf.out;have:=HJ8.out;have:=B5.out;omega
             case rel=>exact ⟨(wrap64 (fC + (((Ta Fa bf).f0).length:Int))),(wrap64 (bf + 1)),(by first|rfl|(simp;done)|(simp [*];done)),(by first|rfl|(simp;done)|(simp [*];done)),H',⟨by have:=Gf.out;have:=HJ8.out;have:=B5.out;omega⟩,⟨by (with_reducible repeat (first|refine Ca ?_ _|refine Ea ?_|refine Da ?_ _));exact ta.out⟩,⟨by repeat (first|(with_reducible first|exact HB.out|apply oa|apply ia|apply qa|refine ua ?_ Sa.out)|exact HB.out)⟩⟩
            ·replace cH:=Bool.eq_false_iff.mpr cH;subst cH;have H1:(some false)=some r:=by rw [if_neg (show ¬ (false=true) by decide)] at H;exact H
             clear H;have H:=H1;clear H1;obtain rfl:=Option.some.inj H;have YD:wr.cell? ⟨za,0,none⟩=some (.slice xb Oa.length qb):=(ja ta.out 0).trans rfl;have XD:wr.cell? ⟨za,1,none⟩=some (.int .i64 La):=(ja ta.out 1).trans rfl;have WD:wr.cell? ⟨za,2,none⟩=some (.int .i64 Pa):=(ja ta.out 2).trans rfl;have VD:wr.cell? ⟨za,3,none⟩=some (.int .i64 Ja):=(ja ta.out 3).trans rfl;have UD:wr.cell? ⟨za,4,none⟩=some (.slice Pb Fa.length Gb):=(ja ta.out 4).trans rfl;have ZC:=aa ta.out 0;have YC:=aa ta.out 1;have XC:=aa ta.out 2;have WC:=aa ta.out 3;have VC:=aa ta.out 4;have bA:0 ≤ (bf:Int):=of_decide_eq_true (by first|(with_reducible assumption)|assumption);have Zz:bf < (Fa.length:Int):=of_decide_eq_true (by first|(with_reducible assumption)|assumption);obtain ⟨Qh,ZQ,oQ,VP,mo,jo,fo,eo,Zn,qo,uo⟩:=ek ng.out bf bA Zz;cases VP;replace mo:=Ra HB.out mo;replace jo:=Ra HB.out jo;replace fo:=Ra HB.out fo;replace eo:=Ra HB.out eo;replace Zn:=Ra HB.out Zn;have jM:=ga.mk uo;have oM:=ga.mk qo;clear uo qo;replace bA:=eq_true bA;replace Zz:=eq_true Zz
             try go_wp2
             have Fb:=ga.mk (Ea ta.out);have Lb:=ga.mk (qa HB.out);clear ta HB;have ta:=Fb;have HB:=Lb;clear Fb Lb;have nI:0 ≤ (bf:Int):=of_decide_eq_true (by first|(with_reducible assumption)|assumption);have gI:bf < (Fa.length:Int):=of_decide_eq_true (by first|(with_reducible assumption)|assumption);obtain ⟨tQ,TA,GA,G0,Sm,Rm,Qm,Pm,Om,Rv,Vv⟩:=ek ng.out bf nI gI;have wv:=Om;have Av:=Pm;have Bv:=Qm;have Cv:=Rm;have Dv:=Sm;obtain rfl:Qh=tQ:=(by injection G0);replace Sm:=Ra HB.out Sm;replace Rm:=Ra HB.out Rm;replace Qm:=Ra HB.out Qm;replace Pm:=Ra HB.out Pm;replace Om:=Ra HB.out Om;have Yw:=ga.mk Vv;have qF:=ga.mk Rv;clear Vv Rv;replace nI:=eq_true nI;replace gI:=eq_true gI;refine xk (n:=12) (S:=fun w'=>w'.cell? ⟨za,0,none⟩=some (.slice xb Oa.length qb)∧w'.cell? ⟨za,1,none⟩=some (.int .i64 La)∧w'.cell? ⟨za,2,none⟩=some (.int .i64 Pa)∧w'.cell? ⟨za,3,none⟩=some (.int .i64 Ja)∧w'.cell? ⟨za,4,none⟩=some (.slice (some Qh) Fa.length Gb)∧w'.cell? (Qh.add ((bf).toNat * 5))=some (.slice TA ((Ta Fa bf).f0).length GA)∧w'.cell? ⟨(Qh.add ((bf).toNat * 5)).block,(Qh.add ((bf).toNat * 5)).off + 1,none⟩=some (.int .i64 ((Ta Fa bf).f1))∧w'.cell? ⟨(Qh.add ((bf).toNat * 5)).block,(Qh.add ((bf).toNat * 5)).off + 2,none⟩=some (.int .i64 ((Ta Fa bf).f2))∧w'.cell? ⟨(Qh.add ((bf).toNat * 5)).block,(Qh.add ((bf).toNat * 5)).off + 3,none⟩=some (.int .i64 ((Ta Fa bf).f3))∧w'.cell? ⟨(Qh.add ((bf).toNat * 5)).block,(Qh.add ((bf).toNat * 5)).off + 4,none⟩=some (.int .i64 ((Ta Fa bf).f4))) (ds:=[]) #[false,false,false,false,false,false,false,false,false,false,false,false] (by kernel_rfl) rfl rfl ⟨(ja ta.out 0).trans rfl,(ja ta.out 1).trans rfl,(ja ta.out 2).trans rfl,(ja ta.out 3).trans rfl,(ja ta.out 4).trans rfl,(Ra HB.out Dv),(Ra HB.out Cv),(Ra HB.out Bv),(Ra HB.out Av),(Ra HB.out wv)⟩ (fun hHeld=>?_);refine Kh Ua.KN Ua.jJ (fun Kf Hq=>?_);generalize wr.drew=w39 at ta HB Yw Sm Rm Qm Pm Om hHeld ⊢;refine od (i:=0) (N:=some 75) (v:=?_) (a':=?_) #[true,false,false,false,false,false,false,false,false,false,false,false] rfl rfl (Cc Kf.out (by kernel_rfl)) (fun _ _ _ h=>h) (Or.inl ⟨by rfl,?_⟩) ?_ ?_;rotate_left
             ·intro w';go_simp;with_reducible rfl
             rotate_left
             ·simp only [Act.put,List.setIfInBounds_toArray,List.set_cons_zero,List.set_cons_succ,dc,ec]
              rfl
             refine od (i:=1) (N:=some 76) (v:=?_) (a':=?_) #[true,true,false,false,false,false,false,false,false,false,false,false] rfl rfl (Cc Kf.out (by kernel_rfl)) (fun _ _ _ h=>h) (Or.inl ⟨by rfl,?_⟩) ?_ ?_;rotate_left
             ·intro w';go_simp;with_reducible rfl
             rotate_left
             ·simp only [Act.put,List.setIfInBounds_toArray,List.set_cons_zero,List.set_cons_succ,dc,ec]
              rfl
             refine od (i:=2) (N:=some 77) (v:=?_) (a':=?_) #[true,true,true,false,false,false,false,false,false,false,false,false] rfl rfl (Cc Kf.out (by kernel_rfl)) (fun _ _ _ h=>h) (Or.inl ⟨by rfl,?_⟩) ?_ ?_;rotate_left
             ·intro w';go_simp;with_reducible rfl
             rotate_left
             ·simp only [Act.put,List.setIfInBounds_toArray,List.set_cons_zero,List.set_cons_succ,dc,ec]
              rfl
             refine od (i:=4) (N:=some 79) (v:=?_) (a':=?_) #[true,true,true,false,true,false,false,false,false,false,false,false] rfl rfl (Cc Kf.out (by kernel_rfl)) (fun _ _ _ h=>h) (Or.inl ⟨by rfl,?_⟩) ?_ ?_;rotate_left
             ·intro w';go_simp;with_reducible rfl
             rotate_left
             ·simp only [Act.put,List.setIfInBounds_toArray,List.set_cons_zero,List.set_cons_succ,dc,ec]
              rfl
             refine od (i:=6) (N:=some 81) (v:=?_) (a':=?_) #[true,true,true,false,true,false,true,false,false,false,false,false] rfl rfl (Cc Kf.out (by kernel_rfl)) (fun _ _ _ h=>h) (Or.inl ⟨by rfl,?_⟩) ?_ ?_;rotate_left
             ·intro w';go_simp;with_reducible rfl
             rotate_left
             ·simp only [Act.put,List.setIfInBounds_toArray,List.set_cons_zero,List.set_cons_succ,dc,ec]
              rfl
             refine Ug (i:=3) (N:=some 78) (v:=?_) (a':=?_) #[true,true,true,true,true,false,true,false,false,false,false,false] rfl rfl (Te Kf.out Hq.out (by kernel_rfl)) (fun _ _ _ h=>h) (Or.inl ⟨by rfl,?_⟩) hHeld ?_ ?_;rotate_left
             ·rintro w' ⟨s0,s1,s2,s3,s4,s5,s6,s7,s8,s9⟩;go_simp;with_reducible rfl
             rotate_left
             ·simp only [Act.put,List.setIfInBounds_toArray,List.set_cons_zero,List.set_cons_succ,dc,ec]
              rfl
             refine Ug (i:=5) (N:=some 80) (v:=?_) (a':=?_) #[true,true,true,true,true,true,true,false,false,false,false,false] rfl rfl (Te Kf.out Hq.out (by kernel_rfl)) (fun _ _ _ h=>h) (Or.inl ⟨by rfl,?_⟩) hHeld ?_ ?_;rotate_left
             ·rintro w' ⟨s0,s1,s2,s3,s4,s5,s6,s7,s8,s9⟩;go_simp;with_reducible rfl
             rotate_left
             ·simp only [Act.put,List.setIfInBounds_toArray,List.set_cons_zero,List.set_cons_succ,dc,ec]
              rfl
             refine od (i:=7) (N:=some 82) (v:=?_) (a':=?_) #[true,true,true,true,true,true,true,true,false,false,false,false] rfl rfl (Cc Kf.out (by kernel_rfl)) (fun _ _ _ h=>h) (Or.inl ⟨by rfl,?_⟩) ?_ ?_;rotate_left
             ·intro w';go_simp;with_reducible rfl
             rotate_left
             ·simp only [Act.put,List.setIfInBounds_toArray,List.set_cons_zero,List.set_cons_succ,dc,ec]
              rfl
             refine Ug (i:=8) (N:=some 83) (v:=?_) (a':=?_) #[true,true,true,true,true,true,true,true,true,false,false,false] rfl rfl (Te Kf.out Hq.out (by kernel_rfl)) (fun _ _ _ h=>h) (Or.inl ⟨by rfl,?_⟩) hHeld ?_ ?_;rotate_left
             ·rintro w' ⟨s0,s1,s2,s3,s4,s5,s6,s7,s8,s9⟩;go_simp;with_reducible rfl
             rotate_left
             ·simp only [Act.put,List.setIfInBounds_toArray,List.set_cons_zero,List.set_cons_succ,dc,ec]
              rfl
             refine Yu (i:=9) (N:=some 84) #[true,true,true,true,true,true,true,true,true,true,false,false] rfl rfl (qm Kf.out (by kernel_rfl)) (by decide) (fun K hK=>?_);refine Nq Try.func101 (by kernel_rfl) rfl #[.agg #[.slice xb Oa.length qb,.int .i64 La,.int .i64 Pa,.int .i64 Ja,.slice (some Qh) Fa.length Gb],.agg #[.slice TA ((Ta Fa bf).f0).length GA,.int .i64 ((Ta Fa bf).f1),.int .i64 ((Ta Fa bf).f2),.int .i64 ((Ta Fa bf).f3),.int .i64 ((Ta Fa bf).f4)]] (by rfl) rfl rfl (by (try simp only [List.map_toArray,List.map_cons,List.map_nil]);first|done|rfl|(simp only [List.length_drop,List.length_take];rfl)) ?_;with_reducible refine (ic.calls k3 _ _ Oa La Pa Ja _ _ Fa _ _ ((Ta Fa bf).f0) ((Ta Fa bf).f1) ((Ta Fa bf).f2) ((Ta Fa bf).f3) ((Ta Fa bf).f4) false _ ?yc ?uc ?Ad ?yd ?Su ?Ru A33.out).mono ?_
             (case yc=>repeat (first|exact (Kd.Mb Ue.out HB.out)|(with_reducible refine Kd.Sb ?_ _)|(with_reducible refine Kd.Rb ?_ _)|(with_reducible refine Kd.jc ?_)))
             (case uc=>exact af.out)
             (case Ad=>repeat (first|exact (Kd.Mb ng.out HB.out)|(with_reducible refine Kd.Sb ?_ _)|(with_reducible refine Kd.Rb ?_ _)|(with_reducible refine Kd.jc ?_)))
             (case yd=>exact Xg.out)
             (case Su=>repeat (first|exact (Kd.Mb Yw.out HB.out)|(with_reducible refine Kd.Sb ?_ _)|(with_reducible refine Kd.Rb ?_ _)|(with_reducible refine Kd.jc ?_)))
             (case Ru=>exact qF.out)
             rintro e w40 ⟨rfl,hb⟩;refine ⟨_,rfl,?_⟩;have Fb:=ga.mk (Va (g:=za) (o:=.cells #[.slice xb Oa.length qb,.int .i64 La,.int .i64 Pa,.int .i64 Ja,.slice (some Qh) Fa.length Gb] 45 (0,0)) (by (with_reducible repeat (first|refine Ca ?_ _|refine Ea ?_|refine Da ?_ _));exact ta.out) hb);have Lb:=ga.mk (Qa (by repeat (first|(with_reducible first|exact HB.out|apply oa|apply ia|apply qa|refine ua ?_ Sa.out)|exact HB.out)) hb);clear ta HB;have ta:=Fb;have HB:=Lb;clear Fb Lb;(try clear hb);(try clear Jj);(try clear hk);(try clear hi);refine hK.out _ _ ⟨(ja ta.out 0).trans rfl,(ja ta.out 1).trans rfl,(ja ta.out 2).trans rfl,(ja ta.out 3).trans rfl,(ja ta.out 4).trans rfl,(Ra HB.out Dv),(Ra HB.out Cv),(Ra HB.out Bv),(Ra HB.out Av),(Ra HB.out wv)⟩ (fun hHeld=>?_);clear hK K;refine Wn (a':=?_) ?_ ?_;rotate_left
             ·show Act.put _ (some 84) _=_
              simp only [Act.put,List.setIfInBounds_toArray,List.set_cons_zero,List.set_cons_succ,dc,ec]
              rfl
             refine od (i:=10) (N:=some 85) (v:=?_) (a':=?_) #[true,true,true,true,true,true,true,true,true,true,true,false] rfl rfl (Cc Kf.out (by kernel_rfl)) (fun _ _ _ h=>h) (Or.inl ⟨by rfl,?_⟩) ?_ ?_;rotate_left
             ·intro w';go_simp;with_reducible rfl
             rotate_left
             ·simp only [Act.put,List.setIfInBounds_toArray,List.set_cons_zero,List.set_cons_succ,dc,ec]
              rfl
             refine od (i:=11) (N:=some 86) (v:=?_) (a':=?_) #[true,true,true,true,true,true,true,true,true,true,true,true] rfl rfl (Cc Kf.out (by kernel_rfl)) (fun _ _ _ h=>h) (Or.inl ⟨by rfl,?_⟩) ?_ ?_;rotate_left
             ·intro w';go_simp;with_reducible rfl
             rotate_left
             ·simp only [Act.put,List.setIfInBounds_toArray,List.set_cons_zero,List.set_cons_succ,dc,ec]
              rfl
             refine Wo (Vj Kf.out (by kernel_rfl)) ?_
             try go_wp2
             go_ret;exact ⟨by first|rfl|(simp [Na,Ma] <;> rfl)|(simp [*,Na,Ma] <;> rfl),by repeat (first|(with_reducible first|exact HB.out|apply oa|apply ia|apply qa|refine ua ?_ Sa.out)|exact HB.out)⟩
          ·rw [if_neg Dz] at H;exact absurd H (by simp)
         ·rw [if_neg Qw] at H;have Ip:decide (bf < (Fa.length:Int))=false:=decide_eq_false Qw;clear Qw;obtain rfl:=Option.some.inj H;have vU:wr.cell? ⟨za,0,none⟩=some (.slice xb Oa.length qb):=(ja ta.out 0).trans rfl;have uU:wr.cell? ⟨za,1,none⟩=some (.int .i64 La):=(ja ta.out 1).trans rfl;have tU:wr.cell? ⟨za,2,none⟩=some (.int .i64 Pa):=(ja ta.out 2).trans rfl;have sU:wr.cell? ⟨za,3,none⟩=some (.int .i64 Ja):=(ja ta.out 3).trans rfl;have rU:wr.cell? ⟨za,4,none⟩=some (.slice Pb Fa.length Gb):=(ja ta.out 4).trans rfl;have XS:=aa ta.out 0;have WS:=aa ta.out 1;have VS:=aa ta.out 2;have US:=aa ta.out 3;have TS:=aa ta.out 4;go_wp2;go_ret;exact ⟨by first|rfl|(simp [Na,Ma] <;> rfl)|(simp [*,Na,Ma] <;> rfl),by repeat (first|(with_reducible first|exact HB.out|apply oa|apply ia|apply qa|refine ua ?_ Sa.out)|exact HB.out)⟩
end Go.Proofs.Ytoomcmaifgkkfaa.P
end
