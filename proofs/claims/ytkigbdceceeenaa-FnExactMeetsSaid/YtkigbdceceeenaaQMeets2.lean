import Derived.Test.YtkigbdceceeenaaQMeets1
set_option maxHeartbeats 8000000
set_option maxRecDepth 100000
section
namespace Go.Proofs.Ytkigbdceceeenaa.P
open Go.RowKit Go.Proofs.Pa.Ub Go.Proofs.Pa.Sd Go.Proofs.Pa.Xe
set_option linter.unusedVariables false
set_option linter.unusedSimpArgs false
attribute [local go_sem] Jh Bi tj nk wh uh Ci Ai
def ic.l0:Nat→Int→List Int→Int→Int→Int→List (Re)→List (Be)→Int→Int→Int→Int→Option (Bool)
 | 0,_,_,_,_,_,_,_,_,_,_,_=>none
 | k + 1,x5,Cc,Tc,Ic,Gc,Wb,cg,fk,Rk,sj,rj=>if x5 < (cg.length:Int) then (if 0 ≤ x5 then ((jb.f k Cc Tc Ic Gc Wb ((Da cg x5).f0) ((Da cg x5).f1) ((Da cg x5).f2) ((Da cg x5).f3) ((Da cg x5).f4) ((Da cg x5).f5) ((Da cg x5).f6)).bind fun t104=>(if t104=true then (ic.l0 k (wrap64 (x5 + 1)) Cc Tc Ic Gc Wb cg fk Rk sj rj) else (some false))) else (none)) else ((Za.f sj 0 (wrap64 ((Wb.length:Int) - 1))).bind fun t105=>((Za.f Rk 0 (wrap64 (Gc - 1))).bind fun t106=>(if fk=0 then (if t105=true then (if Rk=0 then (some (rj == 0)) else (some false)) else (some false)) else (if fk=1 then (if t105=true then (if t106=true then ((Za.f rj 0 (wrap64 ((Wb.length:Int) - 1))).bind fun t107=>(some t107)) else (some false)) else (some false)) else (if fk=2 then (if t106=true then (if sj=0 then (some (rj == 0)) else (some false)) else (some false)) else (some false))))))
def ic.f (k:Nat) (Ra:List Int) (La:Int) (Ja:Int) (Ma:Int) (Aa:List (Re)) (Nc:List (Be)) (Tb:Int) (Kb:Int) (Lb:Int) (Xb:Int):Option (Bool):=ic.l0 k 0 Ra La Ja Ma Aa Nc Tb Kb Lb Xb
def ic.T4:Bool × List (List Nat × List Nat):=(true,[([],[]),([],[]),([1],[1]),([],[]),([2,3],[2,3]),([4],[4]),([0,5],[0,5]),([6],[6])])
def ic.B4:List Nat:=[0,0,2,0,14,30,63,127]
theorem ic.N_:Zn .any (opsOf Try.f71 4)=ic.T4:=by kernel_rfl
theorem ic.T1:vo ic.T4.2 ic.B4=true:=by kernel_rfl
theorem ic.calls (k:Nat) (Xa:Option Addr) (Ya:Nat) (Ra:List Int) (La:Int) (Ja:Int) (Ma:Int) (Mb:Option Addr) (Fb:Nat) (Aa:List (Re)) (Nf:Option Addr) (Ef:Nat) (Nc:List (Be)) (Tb:Int) (Kb:Int) (Lb:Int) (Xb:Int) (r:Bool) (w:World) (Xd:Kd.C (Kd.int .i64) w Xa Ra.length Ra) (Vd:Ra.length ≤ Ya) (Ff:Kd.C Kp w Mb Aa.length Aa) (uf:Aa.length ≤ Fb) (Fw:Kd.C nj w Nf Nc.length Nc) (Hw:Nc.length ≤ Ef) (h:ic.f k Ra La Ja Ma Aa Nc Tb Kb Lb Xb=some r) :
  Calls Try.prog 71 #[.agg #[.slice Xa Ra.length Ya,.int .i64 La,.int .i64 Ja,.int .i64 Ma,.slice Mb Aa.length Fb],.agg #[.slice Nf Nc.length Ef,.int .i64 Tb,.int .i64 Kb,.int .i64 Lb,.int .i64 Xb]] w fun e w'=>e = .returned (.bool r)∧Below w.heap.size w w':=by
 have eE:=Try.underlying30;have YA:=Try.underlying59;have aA:=Try.underlying65;have Ye:=ga.mk Xd;have gf:=ga.mk Vd;clear Xd Vd;have wg:=ga.mk Ff;have ei:=ga.mk uf;clear Ff uf;have uo:=ga.mk Fw;have Pq:=ga.mk Hw;clear Fw Hw;have HB:=ga.mk (Below.refl w.heap.size w);have H:(ic.l0 k 0 Ra La Ja Ma Aa Nc Tb Kb Lb Xb)=some r:=h;clear h;have H':=ga.mk H;clear H;go_enter Try.func71,Try.ntmps71;go_wp2_with (first|((with_reducible refine qb (N:=2) rfl ?_);(try (refine Ti (by rfl) ?_;dsimp only));refine Gb ?hg (N:=2) ?hd (cs:=#[.slice Xa Ra.length Ya,.int .i64 La,.int .i64 Ja,.int .i64 Ma,.slice Mb Aa.length Fb]) (t:=30) ?hr ?_;(case hd=>rfl);(case hg=>rfl);(case hr=>first|(go_simp;done)|(go_simp;rfl));intro ya hg w3 Ob hb;have yb:=ga.mk (Qa (by repeat (first|(with_reducible first|exact HB.out|apply qa|apply ja|apply ta)|exact HB.out)) hb);have Ib:=ga.mk (Ob);have Nb:=ga.mk ((by rw [hg];exact (Ia (by repeat (first|(with_reducible first|exact HB.out|apply qa|apply ja|apply ta)|exact HB.out))):w.heap.size ≤ ya));have Dc:=ga.mk ((by rw [hg];exact (Ia (by repeat (first|(with_reducible first|exact HB.out|apply qa|apply ja|apply ta)|exact HB.out))):w.heap.size ≤ ya));clear HB;have HB:=yb;have oa:=Ib;have Nd:=Nb;have Ta:=Dc;clear yb Ib Nb Dc hb Ob hg)|((with_reducible refine qb (N:=3) rfl ?_);(try (refine Ti (by rfl) ?_;dsimp only));refine Gb ?hg (N:=3) ?hd (cs:=#[.slice Nf Nc.length Ef,.int .i64 Tb,.int .i64 Kb,.int .i64 Lb,.int .i64 Xb]) (t:=59) ?hr ?_;(case hd=>rfl);(case hg=>rfl);(case hr=>first|(go_simp;done)|(go_simp;rfl));intro Ka hg w4 Ob hb;have yb:=ga.mk (Va (g:=ya) (o:=.cells #[.slice Xa Ra.length Ya,.int .i64 La,.int .i64 Ja,.int .i64 Ma,.slice Mb Aa.length Fb] 30 (0,0)) (by (with_reducible repeat (first|refine Ba ?_ _|refine Fa ?_|refine Ca ?_ _));exact oa.out) hb);have Ib:=ga.mk (Qa (by repeat (first|(with_reducible first|exact HB.out|apply qa|apply ja|apply ta|refine ua ?_ Ta.out)|exact HB.out)) hb);have Nb:=ga.mk (Ob);have Dc:=ga.mk ((by rw [hg];exact (Ia (by repeat (first|(with_reducible first|exact HB.out|apply qa|apply ja|apply ta|refine ua ?_ Ta.out)|exact HB.out))):w.heap.size ≤ Ka));have Vf:=ga.mk ((by rw [hg];exact (Ia (by repeat (first|(with_reducible first|exact HB.out|apply qa|apply ja|apply ta|refine ua ?_ Ta.out)|exact HB.out))):w.heap.size ≤ Ka));have Kg:=ga.mk ((by rw [hg];exact Nat.ne_of_lt (Ec (g:=ya) (o:=.cells #[.slice Xa Ra.length Ya,.int .i64 La,.int .i64 Ja,.int .i64 Ma,.slice Mb Aa.length Fb] 30 (0,0)) (by (with_reducible repeat (first|refine Ba ?_ _|refine Fa ?_|refine Ca ?_ _));exact oa.out)):ya ≠ Ka));have Rg:=ga.mk ((by rw [hg];exact Nat.ne_of_gt (Ec (g:=ya) (o:=.cells #[.slice Xa Ra.length Ya,.int .i64 La,.int .i64 Ja,.int .i64 Ma,.slice Mb Aa.length Fb] 30 (0,0)) (by (with_reducible repeat (first|refine Ba ?_ _|refine Fa ?_|refine Ca ?_ _));exact oa.out)):Ka ≠ ya));clear oa HB;have oa:=yb;have HB:=Ib;have za:=Nb;have Uj:=Dc;have nc:=Vf;have Db:=Kg;have Cb:=Rg;clear yb Ib Nb Dc Vf Kg Rg hb Ob hg))
 go_loopg [5] k (fun kq v5 w'=>∃ (Ga:Int),v5 = .int .i64 Ga∧ga (ic.l0 kq Ga Ra La Ja Ma Aa Nc Tb Kb Lb Xb=some r)∧ga (kq ≤ k)∧ga (w'.heap[ya]? = some (.cells #[(.slice Xa Ra.length Ya),.int .i64 La,.int .i64 Ja,.int .i64 Ma,(.slice Mb Aa.length Fb)] 30 (0,0)))∧ga (w'.heap[Ka]? = some (.cells #[(.slice Nf Nc.length Ef),.int .i64 Tb,.int .i64 Kb,.int .i64 Lb,.int .i64 Xb] 59 (0,0)))∧ga (Below w.heap.size w w'))
 case atStart=>exact ⟨(0),(by first|rfl|(simp;done)|(simp [*];done)),H',⟨Nat.le_refl _⟩,⟨by (with_reducible repeat (first|refine Ba ?_ _|refine Fa ?_|refine Ca ?_ _));exact oa.out⟩,⟨by (with_reducible repeat (first|refine Ba ?_ _|refine Fa ?_|refine Ca ?_ _));exact za.out⟩,⟨by repeat (first|(with_reducible first|exact HB.out|apply qa|apply ja|apply ta|refine ua ?_ Ta.out|refine ua ?_ nc.out)|exact HB.out)⟩⟩
 case round =>
  clear H'
  try clear c1
  try clear p2
  (try clear HA);(try clear Xf);(try clear oa);(try clear za);(try clear HB);obtain ⟨Ga,rfl,HA,Xf,oa,za,HB⟩:=hrel;cases gk with
  | zero=>exact absurd HA.out (by simp [ic.l0])
  | succ k1 =>
   have H:=HA.out;clear HA;simp only [ic.l0] at H
   by_cases c5:Ga < (Nc.length:Int)
   ·rw [if_pos c5] at H;have Ui:decide (Ga < (Nc.length:Int))=true:=decide_eq_true c5;clear c5
    by_cases c6:0 ≤ Ga
    ·rw [if_pos c6] at H;have zm:decide (0 ≤ Ga)=true:=decide_eq_true c6;clear c6;replace H:=Option.bind_eq_some_iff.mp H;obtain ⟨t104,cK,H⟩:=H;replace H:(if t104=true then (ic.l0 k1 (wrap64 (Ga + 1)) Ra La Ja Ma Aa Nc Tb Kb Lb Xb) else (some false))=some r:=H;have A7:=ga.mk cK;clear cK
     by_cases c8:t104=true
     ·subst c8;have H1:(ic.l0 k1 (wrap64 (Ga + 1)) Ra La Ja Ma Aa Nc Tb Kb Lb Xb)=some r:=by rw [if_pos rfl] at H;exact H
      clear H;have H:=H1;clear H1;have H':=ga.mk H;clear H;have Pap:=Cb.out;have zap:=Db.out;have Yh:wr.cell? ⟨Ka,0,none⟩=some (.slice Nf Nc.length Ef):=(ia za.out 0).trans rfl;have Xh:wr.cell? ⟨Ka,1,none⟩=some (.int .i64 Tb):=(ia za.out 1).trans rfl;have Wh:wr.cell? ⟨Ka,2,none⟩=some (.int .i64 Kb):=(ia za.out 2).trans rfl;have Vh:wr.cell? ⟨Ka,3,none⟩=some (.int .i64 Lb):=(ia za.out 3).trans rfl;have Uh:wr.cell? ⟨Ka,4,none⟩=some (.int .i64 Xb):=(ia za.out 4).trans rfl;have Th:=aa za.out 0;have Sh:=aa za.out 1;have Rh:=aa za.out 2;have Qh:=aa za.out 3;have Ph:=aa za.out 4
      try go_wp2
      have yb:=ga.mk (Fa oa.out);have Ib:=ga.mk (Fa za.out);have Nb:=ga.mk (ta HB.out);clear oa za HB;have oa:=yb;have za:=Ib;have HB:=Nb;clear yb Ib Nb;have xK:0 ≤ (Ga:Int):=Ua;have rK:Ga < (Nc.length:Int):=Ua;obtain ⟨Bh,X6,Ro,Qo,Po,Oo,Mo,Lo,Ko⟩:=fo uo.out Ga xK rK;have Zx:=Ko;have dy:=Lo;have ey:=Mo;have fy:=Oo;have gy:=Po;have iy:=Qo;have jy:=Ro;cases X6;replace Ro:=Sa HB.out Ro;replace Qo:=Sa HB.out Qo;replace Po:=Sa HB.out Po;replace Oo:=Sa HB.out Oo;replace Mo:=Sa HB.out Mo;replace Lo:=Sa HB.out Lo;replace Ko:=Sa HB.out Ko;replace xK:=eq_true xK;replace rK:=eq_true rK;refine Km (n:=8) (S:=fun w'=>w'.cell? ⟨ya,0,none⟩=some (.slice Xa Ra.length Ya)∧w'.cell? ⟨ya,1,none⟩=some (.int .i64 La)∧w'.cell? ⟨ya,2,none⟩=some (.int .i64 Ja)∧w'.cell? ⟨ya,3,none⟩=some (.int .i64 Ma)∧w'.cell? ⟨ya,4,none⟩=some (.slice Mb Aa.length Fb)∧w'.cell? ⟨Ka,0,none⟩=some (.slice (some Bh) Nc.length Ef)∧w'.cell? ⟨Ka,1,none⟩=some (.int .i64 Tb)∧w'.cell? ⟨Ka,2,none⟩=some (.int .i64 Kb)∧w'.cell? ⟨Ka,3,none⟩=some (.int .i64 Lb)∧w'.cell? ⟨Ka,4,none⟩=some (.int .i64 Xb)∧w'.cell? (Bh.add ((Ga).toNat * 7))=some (.int .i64 ((Da Nc Ga).f0))∧w'.cell? ⟨(Bh.add ((Ga).toNat * 7)).block,(Bh.add ((Ga).toNat * 7)).off + 1,none⟩=some (.int .i64 ((Da Nc Ga).f1))∧w'.cell? ⟨(Bh.add ((Ga).toNat * 7)).block,(Bh.add ((Ga).toNat * 7)).off + 2,none⟩=some (.int .i64 ((Da Nc Ga).f2))∧w'.cell? ⟨(Bh.add ((Ga).toNat * 7)).block,(Bh.add ((Ga).toNat * 7)).off + 3,none⟩=some (.int .i64 ((Da Nc Ga).f3))∧w'.cell? ⟨(Bh.add ((Ga).toNat * 7)).block,(Bh.add ((Ga).toNat * 7)).off + 4,none⟩=some (.int .i64 ((Da Nc Ga).f4))∧w'.cell? ⟨(Bh.add ((Ga).toNat * 7)).block,(Bh.add ((Ga).toNat * 7)).off + 5,none⟩=some (.int .i64 ((Da Nc Ga).f5))∧w'.cell? ⟨(Bh.add ((Ga).toNat * 7)).block,(Bh.add ((Ga).toNat * 7)).off + 6,none⟩=some (.string ((Da Nc Ga).f6))) (ds:=[]) #[false,false,false,false,false,false,false,false] (by kernel_rfl) rfl rfl ⟨(ia oa.out 0).trans rfl,(ia oa.out 1).trans rfl,(ia oa.out 2).trans rfl,(ia oa.out 3).trans rfl,(ia oa.out 4).trans rfl,(ia za.out 0).trans rfl,(ia za.out 1).trans rfl,(ia za.out 2).trans rfl,(ia za.out 3).trans rfl,(ia za.out 4).trans rfl,(Sa HB.out jy),(Sa HB.out iy),(Sa HB.out gy),(Sa HB.out fy),(Sa HB.out ey),(Sa HB.out dy),(Sa HB.out Zx)⟩ (fun hHeld=>?_);refine jj ic.N_ ic.T1 (fun qg iw=>?_);generalize wr.drew=Zi at oa za HB Ro Qo Po Oo Mo Lo Ko hHeld ⊢;refine zd (i:=1) (N:=some 16) (v:=?_) (a':=?_) #[false,true,false,false,false,false,false,false] rfl rfl (Sc qg.out (by kernel_rfl)) (fun _ _ _ h=>h) (Or.inl ⟨by rfl,?_⟩) ?_ ?_;rotate_left
      ·intro w';go_simp;with_reducible rfl
      rotate_left
      ·simp only [Act.put,List.setIfInBounds_toArray,List.set_cons_zero,List.set_cons_succ,Zb,dc]
       rfl
      refine zd (i:=3) (N:=some 18) (v:=?_) (a':=?_) #[false,true,false,true,false,false,false,false] rfl rfl (Sc qg.out (by kernel_rfl)) (fun _ _ _ h=>h) (Or.inl ⟨by rfl,?_⟩) ?_ ?_;rotate_left
      ·intro w';go_simp;with_reducible rfl
      rotate_left
      ·simp only [Act.put,List.setIfInBounds_toArray,List.set_cons_zero,List.set_cons_succ,Zb,dc]
       rfl
      refine Ug (i:=0) (N:=some 15) (v:=?_) (a':=?_) #[true,true,false,true,false,false,false,false] rfl rfl (Gf qg.out iw.out (by kernel_rfl)) (fun _ _ _ h=>h) (Or.inl ⟨by rfl,?_⟩) hHeld ?_ ?_;rotate_left
      ·rintro w' ⟨s0,s1,s2,s3,s4,s5,s6,s7,s8,s9,YL,XL,WL,KV,U_,T_,S_⟩;go_simp;with_reducible rfl
      rotate_left
      ·simp only [Act.put,List.setIfInBounds_toArray,List.set_cons_zero,List.set_cons_succ,Zb,dc]
       rfl
      refine Ug (i:=2) (N:=some 17) (v:=?_) (a':=?_) #[true,true,true,true,false,false,false,false] rfl rfl (Gf qg.out iw.out (by kernel_rfl)) (fun _ _ _ h=>h) (Or.inl ⟨by rfl,?_⟩) hHeld ?_ ?_;rotate_left
      ·rintro w' ⟨s0,s1,s2,s3,s4,s5,s6,s7,s8,s9,YL,XL,WL,KV,U_,T_,S_⟩;go_simp;with_reducible rfl
      rotate_left
      ·simp only [Act.put,List.setIfInBounds_toArray,List.set_cons_zero,List.set_cons_succ,Zb,dc]
       rfl
      refine zd (i:=4) (N:=some 19) (v:=?_) (a':=?_) #[true,true,true,true,true,false,false,false] rfl rfl (Sc qg.out (by kernel_rfl)) (fun _ _ _ h=>h) (Or.inl ⟨by rfl,?_⟩) ?_ ?_;rotate_left
      ·intro w';go_simp;with_reducible rfl
      rotate_left
      ·simp only [Act.put,List.setIfInBounds_toArray,List.set_cons_zero,List.set_cons_succ,Zb,dc]
       rfl
      refine Ug (i:=5) (N:=some 20) (v:=?_) (a':=?_) #[true,true,true,true,true,true,false,false] rfl rfl (Gf qg.out iw.out (by kernel_rfl)) (fun _ _ _ h=>h) (Or.inl ⟨by rfl,?_⟩) hHeld ?_ ?_;rotate_left
      ·rintro w' ⟨s0,s1,s2,s3,s4,s5,s6,s7,s8,s9,YL,XL,WL,KV,U_,T_,S_⟩;go_simp;with_reducible rfl
      rotate_left
      ·simp only [Act.put,List.setIfInBounds_toArray,List.set_cons_zero,List.set_cons_succ,Zb,dc]
       rfl
      refine Qw (i:=6) (N:=some 21) #[true,true,true,true,true,true,true,false] rfl rfl (Mr qg.out (by kernel_rfl)) (by decide) (fun K hK=>?_);refine Et Try.func97 (by kernel_rfl) rfl #[.agg #[.slice Xa Ra.length Ya,.int .i64 La,.int .i64 Ja,.int .i64 Ma,.slice Mb Aa.length Fb],.agg #[.int .i64 ((Da Nc Ga).f0),.int .i64 ((Da Nc Ga).f1),.int .i64 ((Da Nc Ga).f2),.int .i64 ((Da Nc Ga).f3),.int .i64 ((Da Nc Ga).f4),.int .i64 ((Da Nc Ga).f5),.string ((Da Nc Ga).f6)]] (by rfl) rfl rfl (by (try simp only [List.map_toArray,List.map_cons,List.map_nil]);first|done|rfl|(simp only [List.length_drop,List.length_take];rfl)) ?_;with_reducible refine (jb.calls k1 _ _ Ra La Ja Ma _ _ Aa ((Da Nc Ga).f0) ((Da Nc Ga).f1) ((Da Nc Ga).f2) ((Da Nc Ga).f3) ((Da Nc Ga).f4) ((Da Nc Ga).f5) ((Da Nc Ga).f6) true _ ?yc ?uc ?Gd ?Ed A7.out).mono ?_
      (case yc=>repeat (first|exact (Kd.Jb Ye.out HB.out)|(with_reducible refine Kd.Rb ?_ _)|(with_reducible refine Kd.Qb ?_ _)|(with_reducible refine Kd.Yb ?_)))
      (case uc=>exact gf.out)
      (case Gd=>repeat (first|exact (Kd.Jb wg.out HB.out)|(with_reducible refine Kd.Rb ?_ _)|(with_reducible refine Kd.Qb ?_ _)|(with_reducible refine Kd.Yb ?_)))
      (case Ed=>exact ei.out)
      rintro e Ht ⟨rfl,hb⟩;refine ⟨_,rfl,?_⟩;have yb:=ga.mk (Va (g:=ya) (o:=.cells #[.slice Xa Ra.length Ya,.int .i64 La,.int .i64 Ja,.int .i64 Ma,.slice Mb Aa.length Fb] 30 (0,0)) (by (with_reducible repeat (first|refine Ba ?_ _|refine Fa ?_|refine Ca ?_ _));exact oa.out) hb);have Ib:=ga.mk (Va (g:=Ka) (o:=.cells #[.slice (some Bh) Nc.length Ef,.int .i64 Tb,.int .i64 Kb,.int .i64 Lb,.int .i64 Xb] 59 (0,0)) (by (with_reducible repeat (first|refine Ba ?_ _|refine Fa ?_|refine Ca ?_ _));exact za.out) hb);have Nb:=ga.mk (Qa (by repeat (first|(with_reducible first|exact HB.out|apply qa|apply ja|apply ta|refine ua ?_ Ta.out|refine ua ?_ nc.out)|exact HB.out)) hb);clear oa za HB;have oa:=yb;have za:=Ib;have HB:=Nb;clear yb Ib Nb;(try clear hb);(try clear bk);(try clear hk);(try clear hi);refine hK.out _ _ ⟨(ia oa.out 0).trans rfl,(ia oa.out 1).trans rfl,(ia oa.out 2).trans rfl,(ia oa.out 3).trans rfl,(ia oa.out 4).trans rfl,(ia za.out 0).trans rfl,(ia za.out 1).trans rfl,(ia za.out 2).trans rfl,(ia za.out 3).trans rfl,(ia za.out 4).trans rfl,(Sa HB.out jy),(Sa HB.out iy),(Sa HB.out gy),(Sa HB.out fy),(Sa HB.out ey),(Sa HB.out dy),(Sa HB.out Zx)⟩ (fun hHeld=>?_);clear hK K;refine xp (a':=?_) ?_ ?_;rotate_left
      ·show Act.put _ (some 21) _=_
       simp only [Act.put,List.setIfInBounds_toArray,List.set_cons_zero,List.set_cons_succ,Zb,dc]
       rfl
      refine zd (i:=7) (N:=some 22) (v:=?_) (a':=?_) #[true,true,true,true,true,true,true,true] rfl rfl (Sc qg.out (by kernel_rfl)) (fun _ _ _ h=>h) (Or.inl ⟨by rfl,?_⟩) ?_ ?_;rotate_left
      ·intro w';go_simp;with_reducible rfl
      rotate_left
      ·simp only [Act.put,List.setIfInBounds_toArray,List.set_cons_zero,List.set_cons_succ,Zb,dc]
       rfl
      refine jr (Cn qg.out (by kernel_rfl)) ?_
      try go_wp2
      go_roundg k1
      case measure=>have:=Xf.out;omega
      case rel=>exact ⟨(wrap64 (Ga + 1)),(by first|rfl|(simp;done)|(simp [*];done)),H',⟨by have:=Xf.out;omega⟩,⟨by (with_reducible repeat (first|refine Ba ?_ _|refine Fa ?_|refine Ca ?_ _));exact oa.out⟩,⟨by (with_reducible repeat (first|refine Ba ?_ _|refine Fa ?_|refine Ca ?_ _));exact za.out⟩,⟨by repeat (first|(with_reducible first|exact HB.out|apply qa|apply ja|apply ta|refine ua ?_ Ta.out|refine ua ?_ nc.out)|exact HB.out)⟩⟩
     ·replace c8:=Bool.eq_false_iff.mpr c8;subst c8;have H1:(some false)=some r:=by rw [if_neg (show ¬ (false=true) by decide)] at H;exact H
      clear H;have H:=H1;clear H1;obtain rfl:=Option.some.inj H;have Dav:=Cb.out;have Xau:=Db.out;have Nj:wr.cell? ⟨Ka,0,none⟩=some (.slice Nf Nc.length Ef):=(ia za.out 0).trans rfl;have Mj:wr.cell? ⟨Ka,1,none⟩=some (.int .i64 Tb):=(ia za.out 1).trans rfl;have Lj:wr.cell? ⟨Ka,2,none⟩=some (.int .i64 Kb):=(ia za.out 2).trans rfl;have Kj:wr.cell? ⟨Ka,3,none⟩=some (.int .i64 Lb):=(ia za.out 3).trans rfl;have Jj:wr.cell? ⟨Ka,4,none⟩=some (.int .i64 Xb):=(ia za.out 4).trans rfl;have Gj:=aa za.out 0;have Fj:=aa za.out 1;have Ej:=aa za.out 2;have Dj:=aa za.out 3;have Cj:=aa za.out 4
      try go_wp2
      have yb:=ga.mk (Fa oa.out);have Ib:=ga.mk (Fa za.out);have Nb:=ga.mk (ta HB.out);clear oa za HB;have oa:=yb;have za:=Ib;have HB:=Nb;clear yb Ib Nb;have xK:0 ≤ (Ga:Int):=Ua;have rK:Ga < (Nc.length:Int):=Ua;obtain ⟨Bh,X6,Ro,Qo,Po,Oo,Mo,Lo,Ko⟩:=fo uo.out Ga xK rK;have Zx:=Ko;have dy:=Lo;have ey:=Mo;have fy:=Oo;have gy:=Po;have iy:=Qo;have jy:=Ro;cases X6;replace Ro:=Sa HB.out Ro;replace Qo:=Sa HB.out Qo;replace Po:=Sa HB.out Po;replace Oo:=Sa HB.out Oo;replace Mo:=Sa HB.out Mo;replace Lo:=Sa HB.out Lo;replace Ko:=Sa HB.out Ko;replace xK:=eq_true xK;replace rK:=eq_true rK;refine Km (n:=8) (S:=fun w'=>w'.cell? ⟨ya,0,none⟩=some (.slice Xa Ra.length Ya)∧w'.cell? ⟨ya,1,none⟩=some (.int .i64 La)∧w'.cell? ⟨ya,2,none⟩=some (.int .i64 Ja)∧w'.cell? ⟨ya,3,none⟩=some (.int .i64 Ma)∧w'.cell? ⟨ya,4,none⟩=some (.slice Mb Aa.length Fb)∧w'.cell? ⟨Ka,0,none⟩=some (.slice (some Bh) Nc.length Ef)∧w'.cell? ⟨Ka,1,none⟩=some (.int .i64 Tb)∧w'.cell? ⟨Ka,2,none⟩=some (.int .i64 Kb)∧w'.cell? ⟨Ka,3,none⟩=some (.int .i64 Lb)∧w'.cell? ⟨Ka,4,none⟩=some (.int .i64 Xb)∧w'.cell? (Bh.add ((Ga).toNat * 7))=some (.int .i64 ((Da Nc Ga).f0))∧w'.cell? ⟨(Bh.add ((Ga).toNat * 7)).block,(Bh.add ((Ga).toNat * 7)).off + 1,none⟩=some (.int .i64 ((Da Nc Ga).f1))∧w'.cell? ⟨(Bh.add ((Ga).toNat * 7)).block,(Bh.add ((Ga).toNat * 7)).off + 2,none⟩=some (.int .i64 ((Da Nc Ga).f2))∧w'.cell? ⟨(Bh.add ((Ga).toNat * 7)).block,(Bh.add ((Ga).toNat * 7)).off + 3,none⟩=some (.int .i64 ((Da Nc Ga).f3))∧w'.cell? ⟨(Bh.add ((Ga).toNat * 7)).block,(Bh.add ((Ga).toNat * 7)).off + 4,none⟩=some (.int .i64 ((Da Nc Ga).f4))∧w'.cell? ⟨(Bh.add ((Ga).toNat * 7)).block,(Bh.add ((Ga).toNat * 7)).off + 5,none⟩=some (.int .i64 ((Da Nc Ga).f5))∧w'.cell? ⟨(Bh.add ((Ga).toNat * 7)).block,(Bh.add ((Ga).toNat * 7)).off + 6,none⟩=some (.string ((Da Nc Ga).f6))) (ds:=[]) #[false,false,false,false,false,false,false,false] (by kernel_rfl) rfl rfl ⟨(ia oa.out 0).trans rfl,(ia oa.out 1).trans rfl,(ia oa.out 2).trans rfl,(ia oa.out 3).trans rfl,(ia oa.out 4).trans rfl,(ia za.out 0).trans rfl,(ia za.out 1).trans rfl,(ia za.out 2).trans rfl,(ia za.out 3).trans rfl,(ia za.out 4).trans rfl,(Sa HB.out jy),(Sa HB.out iy),(Sa HB.out gy),(Sa HB.out fy),(Sa HB.out ey),(Sa HB.out dy),(Sa HB.out Zx)⟩ (fun hHeld=>?_);refine jj ic.N_ ic.T1 (fun qg iw=>?_);generalize wr.drew=Un at oa za HB Ro Qo Po Oo Mo Lo Ko hHeld ⊢;refine zd (i:=1) (N:=some 16) (v:=?_) (a':=?_) #[false,true,false,false,false,false,false,false] rfl rfl (Sc qg.out (by kernel_rfl)) (fun _ _ _ h=>h) (Or.inl ⟨by rfl,?_⟩) ?_ ?_;rotate_left
      ·intro w';go_simp;with_reducible rfl
      rotate_left
      ·simp only [Act.put,List.setIfInBounds_toArray,List.set_cons_zero,List.set_cons_succ,Zb,dc]
       rfl
      refine zd (i:=3) (N:=some 18) (v:=?_) (a':=?_) #[false,true,false,true,false,false,false,false] rfl rfl (Sc qg.out (by kernel_rfl)) (fun _ _ _ h=>h) (Or.inl ⟨by rfl,?_⟩) ?_ ?_;rotate_left
      ·intro w';go_simp;with_reducible rfl
      rotate_left
      ·simp only [Act.put,List.setIfInBounds_toArray,List.set_cons_zero,List.set_cons_succ,Zb,dc]
       rfl
      refine Ug (i:=0) (N:=some 15) (v:=?_) (a':=?_) #[true,true,false,true,false,false,false,false] rfl rfl (Gf qg.out iw.out (by kernel_rfl)) (fun _ _ _ h=>h) (Or.inl ⟨by rfl,?_⟩) hHeld ?_ ?_;rotate_left
      ·rintro w' ⟨s0,s1,s2,s3,s4,s5,s6,s7,s8,s9,YL,XL,WL,KV,U_,T_,S_⟩;go_simp;with_reducible rfl
      rotate_left
      ·simp only [Act.put,List.setIfInBounds_toArray,List.set_cons_zero,List.set_cons_succ,Zb,dc]
       rfl
      refine Ug (i:=2) (N:=some 17) (v:=?_) (a':=?_) #[true,true,true,true,false,false,false,false] rfl rfl (Gf qg.out iw.out (by kernel_rfl)) (fun _ _ _ h=>h) (Or.inl ⟨by rfl,?_⟩) hHeld ?_ ?_;rotate_left
      ·rintro w' ⟨s0,s1,s2,s3,s4,s5,s6,s7,s8,s9,YL,XL,WL,KV,U_,T_,S_⟩;go_simp;with_reducible rfl
      rotate_left
      ·simp only [Act.put,List.setIfInBounds_toArray,List.set_cons_zero,List.set_cons_succ,Zb,dc]
       rfl
      refine zd (i:=4) (N:=some 19) (v:=?_) (a':=?_) #[true,true,true,true,true,false,false,false] rfl rfl (Sc qg.out (by kernel_rfl)) (fun _ _ _ h=>h) (Or.inl ⟨by rfl,?_⟩) ?_ ?_;rotate_left
      ·intro w';go_simp;with_reducible rfl
      rotate_left
      ·simp only [Act.put,List.setIfInBounds_toArray,List.set_cons_zero,List.set_cons_succ,Zb,dc]
       rfl
      refine Ug (i:=5) (N:=some 20) (v:=?_) (a':=?_) #[true,true,true,true,true,true,false,false] rfl rfl (Gf qg.out iw.out (by kernel_rfl)) (fun _ _ _ h=>h) (Or.inl ⟨by rfl,?_⟩) hHeld ?_ ?_;rotate_left
      ·rintro w' ⟨s0,s1,s2,s3,s4,s5,s6,s7,s8,s9,YL,XL,WL,KV,U_,T_,S_⟩;go_simp;with_reducible rfl
      rotate_left
      ·simp only [Act.put,List.setIfInBounds_toArray,List.set_cons_zero,List.set_cons_succ,Zb,dc]
       rfl
      refine Qw (i:=6) (N:=some 21) #[true,true,true,true,true,true,true,false] rfl rfl (Mr qg.out (by kernel_rfl)) (by decide) (fun K hK=>?_);refine Et Try.func97 (by kernel_rfl) rfl #[.agg #[.slice Xa Ra.length Ya,.int .i64 La,.int .i64 Ja,.int .i64 Ma,.slice Mb Aa.length Fb],.agg #[.int .i64 ((Da Nc Ga).f0),.int .i64 ((Da Nc Ga).f1),.int .i64 ((Da Nc Ga).f2),.int .i64 ((Da Nc Ga).f3),.int .i64 ((Da Nc Ga).f4),.int .i64 ((Da Nc Ga).f5),.string ((Da Nc Ga).f6)]] (by rfl) rfl rfl (by (try simp only [List.map_toArray,List.map_cons,List.map_nil]);first|done|rfl|(simp only [List.length_drop,List.length_take];rfl)) ?_;with_reducible refine (jb.calls k1 _ _ Ra La Ja Ma _ _ Aa ((Da Nc Ga).f0) ((Da Nc Ga).f1) ((Da Nc Ga).f2) ((Da Nc Ga).f3) ((Da Nc Ga).f4) ((Da Nc Ga).f5) ((Da Nc Ga).f6) false _ ?yc ?uc ?Gd ?Ed A7.out).mono ?_
      (case yc=>repeat (first|exact (Kd.Jb Ye.out HB.out)|(with_reducible refine Kd.Rb ?_ _)|(with_reducible refine Kd.Qb ?_ _)|(with_reducible refine Kd.Yb ?_)))
      (case uc=>exact gf.out)
      (case Gd=>repeat (first|exact (Kd.Jb wg.out HB.out)|(with_reducible refine Kd.Rb ?_ _)|(with_reducible refine Kd.Qb ?_ _)|(with_reducible refine Kd.Yb ?_)))
      (case Ed=>exact ei.out)
      rintro e sx ⟨rfl,hb⟩;refine ⟨_,rfl,?_⟩;have yb:=ga.mk (Va (g:=ya) (o:=.cells #[.slice Xa Ra.length Ya,.int .i64 La,.int .i64 Ja,.int .i64 Ma,.slice Mb Aa.length Fb] 30 (0,0)) (by (with_reducible repeat (first|refine Ba ?_ _|refine Fa ?_|refine Ca ?_ _));exact oa.out) hb);have Ib:=ga.mk (Va (g:=Ka) (o:=.cells #[.slice (some Bh) Nc.length Ef,.int .i64 Tb,.int .i64 Kb,.int .i64 Lb,.int .i64 Xb] 59 (0,0)) (by (with_reducible repeat (first|refine Ba ?_ _|refine Fa ?_|refine Ca ?_ _));exact za.out) hb);have Nb:=ga.mk (Qa (by repeat (first|(with_reducible first|exact HB.out|apply qa|apply ja|apply ta|refine ua ?_ Ta.out|refine ua ?_ nc.out)|exact HB.out)) hb);clear oa za HB;have oa:=yb;have za:=Ib;have HB:=Nb;clear yb Ib Nb;(try clear hb);(try clear bk);(try clear hk);(try clear hi);refine hK.out _ _ ⟨(ia oa.out 0).trans rfl,(ia oa.out 1).trans rfl,(ia oa.out 2).trans rfl,(ia oa.out 3).trans rfl,(ia oa.out 4).trans rfl,(ia za.out 0).trans rfl,(ia za.out 1).trans rfl,(ia za.out 2).trans rfl,(ia za.out 3).trans rfl,(ia za.out 4).trans rfl,(Sa HB.out jy),(Sa HB.out iy),(Sa HB.out gy),(Sa HB.out fy),(Sa HB.out ey),(Sa HB.out dy),(Sa HB.out Zx)⟩ (fun hHeld=>?_);clear hK K;refine xp (a':=?_) ?_ ?_;rotate_left
      ·show Act.put _ (some 21) _=_
       simp only [Act.put,List.setIfInBounds_toArray,List.set_cons_zero,List.set_cons_succ,Zb,dc]
       rfl
      refine zd (i:=7) (N:=some 22) (v:=?_) (a':=?_) #[true,true,true,true,true,true,true,true] rfl rfl (Sc qg.out (by kernel_rfl)) (fun _ _ _ h=>h) (Or.inl ⟨by rfl,?_⟩) ?_ ?_;rotate_left
      ·intro w';go_simp;with_reducible rfl
      rotate_left
      ·simp only [Act.put,List.setIfInBounds_toArray,List.set_cons_zero,List.set_cons_succ,Zb,dc]
       rfl
      refine jr (Cn qg.out (by kernel_rfl)) ?_
      try go_wp2
      go_ret;exact ⟨by first|rfl|(simp [Oa,Na] <;> rfl)|(simp [*,Oa,Na] <;> rfl),by repeat (first|(with_reducible first|exact HB.out|apply qa|apply ja|apply ta|refine ua ?_ Ta.out|refine ua ?_ nc.out)|exact HB.out)⟩
    ·rw [if_neg c6] at H;exact absurd H (by simp)
   ·rw [if_neg c5] at H;have Ui:decide (Ga < (Nc.length:Int))=false:=decide_eq_false c5;clear c5;replace H:=Option.bind_eq_some_iff.mp H;obtain ⟨t105,hah,H⟩:=H;replace H:((Za.f Kb 0 (wrap64 (Ma - 1))).bind fun t106=>(if Tb=0 then (if t105=true then (if Kb=0 then (some (Xb == 0)) else (some false)) else (some false)) else (if Tb=1 then (if t105=true then (if t106=true then ((Za.f Xb 0 (wrap64 ((Aa.length:Int) - 1))).bind fun t107=>(some t107)) else (some false)) else (some false)) else (if Tb=2 then (if t106=true then (if Lb=0 then (some (Xb == 0)) else (some false)) else (some false)) else (some false)))))=some r:=H;have AV:=ga.mk hah;clear hah;replace H:=Option.bind_eq_some_iff.mp H;obtain ⟨t106,gah,H⟩:=H;replace H:(if Tb=0 then (if t105=true then (if Kb=0 then (some (Xb == 0)) else (some false)) else (some false)) else (if Tb=1 then (if t105=true then (if t106=true then ((Za.f Xb 0 (wrap64 ((Aa.length:Int) - 1))).bind fun t107=>(some t107)) else (some false)) else (some false)) else (if Tb=2 then (if t106=true then (if Lb=0 then (some (Xb == 0)) else (some false)) else (some false)) else (some false))))=some r:=H;have zV:=ga.mk gah;clear gah
    by_cases Pn:Tb=0
    ·rw [if_pos Pn] at H;have vu:(Tb == 0)=true:=beq_iff_eq.mpr Pn;have jU:(Tb != 0)=false:=bne_eq_false_iff_eq.mpr Pn;clear Pn
     by_cases Np:t105=true
     ·subst Np;have H1:(if Kb=0 then (some (Xb == 0)) else (some false))=some r:=by rw [if_pos rfl] at H;exact H
      clear H;have H:=H1;clear H1
      by_cases Pt:Kb=0
      ·rw [if_pos Pt] at H;have nP:(Kb == 0)=true:=beq_iff_eq.mpr Pt;have Tae:(Kb != 0)=false:=bne_eq_false_iff_eq.mpr Pt;clear Pt;obtain rfl:=Option.some.inj H;have Daa:=Cb.out;have raa:=Db.out;have Aq:wr.cell? ⟨Ka,0,none⟩=some (.slice Nf Nc.length Ef):=(ia za.out 0).trans rfl;have zq:wr.cell? ⟨Ka,1,none⟩=some (.int .i64 Tb):=(ia za.out 1).trans rfl;have yq:wr.cell? ⟨Ka,2,none⟩=some (.int .i64 Kb):=(ia za.out 2).trans rfl;have xq:wr.cell? ⟨Ka,3,none⟩=some (.int .i64 Lb):=(ia za.out 3).trans rfl;have wq:wr.cell? ⟨Ka,4,none⟩=some (.int .i64 Xb):=(ia za.out 4).trans rfl;have fq:=aa za.out 0;have cq:=aa za.out 1;have bq:=aa za.out 2;have aq:=aa za.out 3;have Zp:=aa za.out 4;have Vs:wr.cell? ⟨ya,0,none⟩=some (.slice Xa Ra.length Ya):=(ia oa.out 0).trans rfl;have Us:wr.cell? ⟨ya,1,none⟩=some (.int .i64 La):=(ia oa.out 1).trans rfl;have Ts:wr.cell? ⟨ya,2,none⟩=some (.int .i64 Ja):=(ia oa.out 2).trans rfl;have Ss:wr.cell? ⟨ya,3,none⟩=some (.int .i64 Ma):=(ia oa.out 3).trans rfl;have Rs:wr.cell? ⟨ya,4,none⟩=some (.slice Mb Aa.length Fb):=(ia oa.out 4).trans rfl;have Bs:=aa oa.out 0;have js:=aa oa.out 1;have Zr:=aa oa.out 2;have Yr:=aa oa.out 3;have Xr:=aa oa.out 4;go_wp2_with (first|((with_reducible refine mb (f:=53) rfl ?_);refine Fc (some 29) rfl rfl Try.func53 (by kernel_rfl) rfl #[.int .i64 Lb,.int .i64 0,.int .i64 (wrap64 ((Aa.length:Int) - 1))] rfl (by (try simp only [List.map_toArray,List.map_cons,List.map_nil]);first|done|rfl|(simp only [List.length_drop,List.length_take];rfl)) ?_;(with_reducible refine (Za.calls Lb 0 (wrap64 ((Aa.length:Int) - 1)) true _ AV.out).mono ?_);rintro e w' ⟨rfl,⟨nd,rfl⟩⟩;refine ⟨_,rfl,?_⟩)|((with_reducible refine mb (f:=53) rfl ?_);refine Fc (some 35) rfl rfl Try.func53 (by kernel_rfl) rfl #[.int .i64 Kb,.int .i64 0,.int .i64 (wrap64 (Ma - 1))] rfl (by (try simp only [List.map_toArray,List.map_cons,List.map_nil]);first|done|rfl|(simp only [List.length_drop,List.length_take];rfl)) ?_;(with_reducible refine (Za.calls Kb 0 (wrap64 (Ma - 1)) t106 _ zV.out).mono ?_);rintro e w' ⟨rfl,⟨nd,rfl⟩⟩;refine ⟨_,rfl,?_⟩));go_ret;exact ⟨by first|rfl|(simp [Oa,Na] <;> rfl)|(simp [*,Oa,Na] <;> rfl),by repeat (first|(with_reducible first|exact HB.out|apply qa|apply ja|apply ta|refine ua ?_ Ta.out|refine ua ?_ nc.out)|exact HB.out)⟩
      ·rw [if_neg Pt] at H;have nP:(Kb == 0)=false:=beq_eq_false_iff_ne.mpr Pt;have Tae:(Kb != 0)=true:=bne_iff_ne.mpr Pt;obtain rfl:=Option.some.inj H;have Baa:=Cb.out;have paa:=Db.out;have Kv:wr.cell? ⟨Ka,0,none⟩=some (.slice Nf Nc.length Ef):=(ia za.out 0).trans rfl;have Jv:wr.cell? ⟨Ka,1,none⟩=some (.int .i64 Tb):=(ia za.out 1).trans rfl;have Iv:wr.cell? ⟨Ka,2,none⟩=some (.int .i64 Kb):=(ia za.out 2).trans rfl;have Hv:wr.cell? ⟨Ka,3,none⟩=some (.int .i64 Lb):=(ia za.out 3).trans rfl;have Gv:wr.cell? ⟨Ka,4,none⟩=some (.int .i64 Xb):=(ia za.out 4).trans rfl;have Wu:=aa za.out 0;have Vu:=aa za.out 1;have Uu:=aa za.out 2;have Tu:=aa za.out 3;have Su:=aa za.out 4;have Fv:wr.cell? ⟨ya,0,none⟩=some (.slice Xa Ra.length Ya):=(ia oa.out 0).trans rfl;have Dv:wr.cell? ⟨ya,1,none⟩=some (.int .i64 La):=(ia oa.out 1).trans rfl;have Cv:wr.cell? ⟨ya,2,none⟩=some (.int .i64 Ja):=(ia oa.out 2).trans rfl;have Bv:wr.cell? ⟨ya,3,none⟩=some (.int .i64 Ma):=(ia oa.out 3).trans rfl;have Av:wr.cell? ⟨ya,4,none⟩=some (.slice Mb Aa.length Fb):=(ia oa.out 4).trans rfl;have Ru:=aa oa.out 0;have Qu:=aa oa.out 1;have Pu:=aa oa.out 2;have Ou:=aa oa.out 3;have Nu:=aa oa.out 4;go_wp2_with (first|((with_reducible refine mb (f:=53) rfl ?_);refine Fc (some 29) rfl rfl Try.func53 (by kernel_rfl) rfl #[.int .i64 Lb,.int .i64 0,.int .i64 (wrap64 ((Aa.length:Int) - 1))] rfl (by (try simp only [List.map_toArray,List.map_cons,List.map_nil]);first|done|rfl|(simp only [List.length_drop,List.length_take];rfl)) ?_;(with_reducible refine (Za.calls Lb 0 (wrap64 ((Aa.length:Int) - 1)) true _ AV.out).mono ?_);rintro e w' ⟨rfl,⟨nd,rfl⟩⟩;refine ⟨_,rfl,?_⟩)|((with_reducible refine mb (f:=53) rfl ?_);refine Fc (some 35) rfl rfl Try.func53 (by kernel_rfl) rfl #[.int .i64 Kb,.int .i64 0,.int .i64 (wrap64 (Ma - 1))] rfl (by (try simp only [List.map_toArray,List.map_cons,List.map_nil]);first|done|rfl|(simp only [List.length_drop,List.length_take];rfl)) ?_;(with_reducible refine (Za.calls Kb 0 (wrap64 (Ma - 1)) t106 _ zV.out).mono ?_);rintro e w' ⟨rfl,⟨nd,rfl⟩⟩;refine ⟨_,rfl,?_⟩));go_ret;exact ⟨by first|rfl|(simp [Oa,Na] <;> rfl)|(simp [*,Oa,Na] <;> rfl),by repeat (first|(with_reducible first|exact HB.out|apply qa|apply ja|apply ta|refine ua ?_ Ta.out|refine ua ?_ nc.out)|exact HB.out)⟩
     ·replace Np:=Bool.eq_false_iff.mpr Np;subst Np;have H1:(some false)=some r:=by rw [if_neg (show ¬ (false=true) by decide)] at H;exact H
      clear H;have H:=H1;clear H1;obtain rfl:=Option.some.inj H;have yav:=Cb.out;have Sau:=Db.out;have XB:wr.cell? ⟨Ka,0,none⟩=some (.slice Nf Nc.length Ef):=(ia za.out 0).trans rfl;have WB:wr.cell? ⟨Ka,1,none⟩=some (.int .i64 Tb):=(ia za.out 1).trans rfl;have VB:wr.cell? ⟨Ka,2,none⟩=some (.int .i64 Kb):=(ia za.out 2).trans rfl;have UB:wr.cell? ⟨Ka,3,none⟩=some (.int .i64 Lb):=(ia za.out 3).trans rfl;have TB:wr.cell? ⟨Ka,4,none⟩=some (.int .i64 Xb):=(ia za.out 4).trans rfl;have xB:=aa za.out 0;have wB:=aa za.out 1;have vB:=aa za.out 2;have uB:=aa za.out 3;have tB:=aa za.out 4;have lY:wr.cell? ⟨ya,0,none⟩=some (.slice Xa Ra.length Ya):=(ia oa.out 0).trans rfl;have kY:wr.cell? ⟨ya,1,none⟩=some (.int .i64 La):=(ia oa.out 1).trans rfl;have jY:wr.cell? ⟨ya,2,none⟩=some (.int .i64 Ja):=(ia oa.out 2).trans rfl;have iY:wr.cell? ⟨ya,3,none⟩=some (.int .i64 Ma):=(ia oa.out 3).trans rfl;have fY:wr.cell? ⟨ya,4,none⟩=some (.slice Mb Aa.length Fb):=(ia oa.out 4).trans rfl;have XW:=aa oa.out 0;have WW:=aa oa.out 1;have VW:=aa oa.out 2;have UW:=aa oa.out 3;have TW:=aa oa.out 4;go_wp2_with (first|((with_reducible refine mb (f:=53) rfl ?_);refine Fc (some 29) rfl rfl Try.func53 (by kernel_rfl) rfl #[.int .i64 Lb,.int .i64 0,.int .i64 (wrap64 ((Aa.length:Int) - 1))] rfl (by (try simp only [List.map_toArray,List.map_cons,List.map_nil]);first|done|rfl|(simp only [List.length_drop,List.length_take];rfl)) ?_;(with_reducible refine (Za.calls Lb 0 (wrap64 ((Aa.length:Int) - 1)) false _ AV.out).mono ?_);rintro e w' ⟨rfl,⟨nd,rfl⟩⟩;refine ⟨_,rfl,?_⟩)|((with_reducible refine mb (f:=53) rfl ?_);refine Fc (some 35) rfl rfl Try.func53 (by kernel_rfl) rfl #[.int .i64 Kb,.int .i64 0,.int .i64 (wrap64 (Ma - 1))] rfl (by (try simp only [List.map_toArray,List.map_cons,List.map_nil]);first|done|rfl|(simp only [List.length_drop,List.length_take];rfl)) ?_;(with_reducible refine (Za.calls Kb 0 (wrap64 (Ma - 1)) t106 _ zV.out).mono ?_);rintro e w' ⟨rfl,⟨nd,rfl⟩⟩;refine ⟨_,rfl,?_⟩));go_ret;exact ⟨by first|rfl|(simp [Oa,Na] <;> rfl)|(simp [*,Oa,Na] <;> rfl),by repeat (first|(with_reducible first|exact HB.out|apply qa|apply ja|apply ta|refine ua ?_ Ta.out|refine ua ?_ nc.out)|exact HB.out)⟩
    ·rw [if_neg Pn] at H;have vu:(Tb == 0)=false:=beq_eq_false_iff_ne.mpr Pn;have jU:(Tb != 0)=true:=bne_iff_ne.mpr Pn
     by_cases J1:Tb=1
     ·rw [if_pos J1] at H;have Nae:(Tb == 1)=true:=beq_iff_eq.mpr J1;have Mae:(Tb != 1)=false:=bne_eq_false_iff_eq.mpr J1;clear J1
      by_cases c32:t105=true
      ·subst c32;have H1:(if t106=true then ((Za.f Xb 0 (wrap64 ((Aa.length:Int) - 1))).bind fun t107=>(some t107)) else (some false))=some r:=by rw [if_pos rfl] at H;exact H
       clear H;have H:=H1;clear H1
       by_cases pR:t106=true
       ·subst pR;have H1:((Za.f Xb 0 (wrap64 ((Aa.length:Int) - 1))).bind fun t107=>(some t107))=some r:=by rw [if_pos rfl] at H;exact H
        clear H;have H:=H1;clear H1;replace H:=Option.bind_eq_some_iff.mp H;obtain ⟨t107,aah,H⟩:=H;replace H:(some t107)=some r:=H;have A34:=ga.mk aah;clear aah;obtain rfl:=Option.some.inj H;have yaa:=Cb.out;have maa:=Db.out;have AH:wr.cell? ⟨Ka,0,none⟩=some (.slice Nf Nc.length Ef):=(ia za.out 0).trans rfl;have zH:wr.cell? ⟨Ka,1,none⟩=some (.int .i64 Tb):=(ia za.out 1).trans rfl;have yH:wr.cell? ⟨Ka,2,none⟩=some (.int .i64 Kb):=(ia za.out 2).trans rfl;have xH:wr.cell? ⟨Ka,3,none⟩=some (.int .i64 Lb):=(ia za.out 3).trans rfl;have wH:wr.cell? ⟨Ka,4,none⟩=some (.int .i64 Xb):=(ia za.out 4).trans rfl;have EG:=aa za.out 0;have DG:=aa za.out 1;have CG:=aa za.out 2;have BG:=aa za.out 3;have AG:=aa za.out 4;have pO:wr.cell? ⟨ya,0,none⟩=some (.slice Xa Ra.length Ya):=(ia oa.out 0).trans rfl;have oO:wr.cell? ⟨ya,1,none⟩=some (.int .i64 La):=(ia oa.out 1).trans rfl;have nO:wr.cell? ⟨ya,2,none⟩=some (.int .i64 Ja):=(ia oa.out 2).trans rfl;have mO:wr.cell? ⟨ya,3,none⟩=some (.int .i64 Ma):=(ia oa.out 3).trans rfl;have lO:wr.cell? ⟨ya,4,none⟩=some (.slice Mb Aa.length Fb):=(ia oa.out 4).trans rfl;have gN:=aa oa.out 0;have fN:=aa oa.out 1;have eN:=aa oa.out 2;have dN:=aa oa.out 3;have cN:=aa oa.out 4;go_wp2_with (first|((with_reducible refine mb (f:=53) rfl ?_);refine Fc (some 29) rfl rfl Try.func53 (by kernel_rfl) rfl #[.int .i64 Lb,.int .i64 0,.int .i64 (wrap64 ((Aa.length:Int) - 1))] rfl (by (try simp only [List.map_toArray,List.map_cons,List.map_nil]);first|done|rfl|(simp only [List.length_drop,List.length_take];rfl)) ?_;(with_reducible refine (Za.calls Lb 0 (wrap64 ((Aa.length:Int) - 1)) true _ AV.out).mono ?_);rintro e w' ⟨rfl,⟨nd,rfl⟩⟩;refine ⟨_,rfl,?_⟩)|((with_reducible refine mb (f:=53) rfl ?_);refine Fc (some 35) rfl rfl Try.func53 (by kernel_rfl) rfl #[.int .i64 Kb,.int .i64 0,.int .i64 (wrap64 (Ma - 1))] rfl (by (try simp only [List.map_toArray,List.map_cons,List.map_nil]);first|done|rfl|(simp only [List.length_drop,List.length_take];rfl)) ?_;(with_reducible refine (Za.calls Kb 0 (wrap64 (Ma - 1)) true _ zV.out).mono ?_);rintro e w' ⟨rfl,⟨nd,rfl⟩⟩;refine ⟨_,rfl,?_⟩)|(go_at_call 53;(with_reducible refine (Za.calls Xb 0 (wrap64 ((Aa.length:Int) - 1)) t107 _ A34.out).mono ?_);rintro e w' ⟨rfl,⟨nd,rfl⟩⟩));go_ret;exact ⟨by first|rfl|(simp [Oa,Na] <;> rfl)|(simp [*,Oa,Na] <;> rfl),by repeat (first|(with_reducible first|exact HB.out|apply qa|apply ja|apply ta|refine ua ?_ Ta.out|refine ua ?_ nc.out)|exact HB.out)⟩
       ·replace pR:=Bool.eq_false_iff.mpr pR;subst pR;have H1:(some false)=some r:=by rw [if_neg (show ¬ (false=true) by decide)] at H;exact H
        clear H;have H:=H1;clear H1;obtain rfl:=Option.some.inj H;have rav:=Cb.out;have Lau:=Db.out;have qH:wr.cell? ⟨Ka,0,none⟩=some (.slice Nf Nc.length Ef):=(ia za.out 0).trans rfl;have pH:wr.cell? ⟨Ka,1,none⟩=some (.int .i64 Tb):=(ia za.out 1).trans rfl;have oH:wr.cell? ⟨Ka,2,none⟩=some (.int .i64 Kb):=(ia za.out 2).trans rfl;have nH:wr.cell? ⟨Ka,3,none⟩=some (.int .i64 Lb):=(ia za.out 3).trans rfl;have mH:wr.cell? ⟨Ka,4,none⟩=some (.int .i64 Xb):=(ia za.out 4).trans rfl;have uG:=aa za.out 0;have sG:=aa za.out 1;have rG:=aa za.out 2;have qG:=aa za.out 3;have pG:=aa za.out 4;have dz:wr.cell? ⟨ya,0,none⟩=some (.slice Xa Ra.length Ya):=(ia oa.out 0).trans rfl;have bz:wr.cell? ⟨ya,1,none⟩=some (.int .i64 La):=(ia oa.out 1).trans rfl;have az:wr.cell? ⟨ya,2,none⟩=some (.int .i64 Ja):=(ia oa.out 2).trans rfl;have Zy:wr.cell? ⟨ya,3,none⟩=some (.int .i64 Ma):=(ia oa.out 3).trans rfl;have Yy:wr.cell? ⟨ya,4,none⟩=some (.slice Mb Aa.length Fb):=(ia oa.out 4).trans rfl;have Ky:=aa oa.out 0;have Jy:=aa oa.out 1;have Iy:=aa oa.out 2;have Hy:=aa oa.out 3;have Gy:=aa oa.out 4;go_wp2_with (first|((with_reducible refine mb (f:=53) rfl ?_);refine Fc (some 29) rfl rfl Try.func53 (by kernel_rfl) rfl #[.int .i64 Lb,.int .i64 0,.int .i64 (wrap64 ((Aa.length:Int) - 1))] rfl (by (try simp only [List.map_toArray,List.map_cons,List.map_nil]);first|done|rfl|(simp only [List.length_drop,List.length_take];rfl)) ?_;(with_reducible refine (Za.calls Lb 0 (wrap64 ((Aa.length:Int) - 1)) true _ AV.out).mono ?_);rintro e w' ⟨rfl,⟨nd,rfl⟩⟩;refine ⟨_,rfl,?_⟩)|((with_reducible refine mb (f:=53) rfl ?_);refine Fc (some 35) rfl rfl Try.func53 (by kernel_rfl) rfl #[.int .i64 Kb,.int .i64 0,.int .i64 (wrap64 (Ma - 1))] rfl (by (try simp only [List.map_toArray,List.map_cons,List.map_nil]);first|done|rfl|(simp only [List.length_drop,List.length_take];rfl)) ?_;(with_reducible refine (Za.calls Kb 0 (wrap64 (Ma - 1)) false _ zV.out).mono ?_);rintro e w' ⟨rfl,⟨nd,rfl⟩⟩;refine ⟨_,rfl,?_⟩));go_ret;exact ⟨by first|rfl|(simp [Oa,Na] <;> rfl)|(simp [*,Oa,Na] <;> rfl),by repeat (first|(with_reducible first|exact HB.out|apply qa|apply ja|apply ta|refine ua ?_ Ta.out|refine ua ?_ nc.out)|exact HB.out)⟩
      ·replace c32:=Bool.eq_false_iff.mpr c32;subst c32;have H1:(some false)=some r:=by rw [if_neg (show ¬ (false=true) by decide)] at H;exact H
       clear H;have H:=H1;clear H1;obtain rfl:=Option.some.inj H;have vaa:=Cb.out;have jaa:=Db.out;have lH:wr.cell? ⟨Ka,0,none⟩=some (.slice Nf Nc.length Ef):=(ia za.out 0).trans rfl;have kH:wr.cell? ⟨Ka,1,none⟩=some (.int .i64 Tb):=(ia za.out 1).trans rfl;have jH:wr.cell? ⟨Ka,2,none⟩=some (.int .i64 Kb):=(ia za.out 2).trans rfl;have iH:wr.cell? ⟨Ka,3,none⟩=some (.int .i64 Lb):=(ia za.out 3).trans rfl;have gH:wr.cell? ⟨Ka,4,none⟩=some (.int .i64 Xb):=(ia za.out 4).trans rfl;have oG:=aa za.out 0;have nG:=aa za.out 1;have mG:=aa za.out 2;have lG:=aa za.out 3;have kG:=aa za.out 4;have XN:wr.cell? ⟨ya,0,none⟩=some (.slice Xa Ra.length Ya):=(ia oa.out 0).trans rfl;have WN:wr.cell? ⟨ya,1,none⟩=some (.int .i64 La):=(ia oa.out 1).trans rfl;have VN:wr.cell? ⟨ya,2,none⟩=some (.int .i64 Ja):=(ia oa.out 2).trans rfl;have UN:wr.cell? ⟨ya,3,none⟩=some (.int .i64 Ma):=(ia oa.out 3).trans rfl;have TN:wr.cell? ⟨ya,4,none⟩=some (.slice Mb Aa.length Fb):=(ia oa.out 4).trans rfl;have PM:=aa oa.out 0;have OM:=aa oa.out 1;have NM:=aa oa.out 2;have MM:=aa oa.out 3;have LM:=aa oa.out 4;go_wp2_with (first|((with_reducible refine mb (f:=53) rfl ?_);refine Fc (some 29) rfl rfl Try.func53 (by kernel_rfl) rfl #[.int .i64 Lb,.int .i64 0,.int .i64 (wrap64 ((Aa.length:Int) - 1))] rfl (by (try simp only [List.map_toArray,List.map_cons,List.map_nil]);first|done|rfl|(simp only [List.length_drop,List.length_take];rfl)) ?_;(with_reducible refine (Za.calls Lb 0 (wrap64 ((Aa.length:Int) - 1)) false _ AV.out).mono ?_);rintro e w' ⟨rfl,⟨nd,rfl⟩⟩;refine ⟨_,rfl,?_⟩)|((with_reducible refine mb (f:=53) rfl ?_);refine Fc (some 35) rfl rfl Try.func53 (by kernel_rfl) rfl #[.int .i64 Kb,.int .i64 0,.int .i64 (wrap64 (Ma - 1))] rfl (by (try simp only [List.map_toArray,List.map_cons,List.map_nil]);first|done|rfl|(simp only [List.length_drop,List.length_take];rfl)) ?_;(with_reducible refine (Za.calls Kb 0 (wrap64 (Ma - 1)) t106 _ zV.out).mono ?_);rintro e w' ⟨rfl,⟨nd,rfl⟩⟩;refine ⟨_,rfl,?_⟩));go_ret;exact ⟨by first|rfl|(simp [Oa,Na] <;> rfl)|(simp [*,Oa,Na] <;> rfl),by repeat (first|(with_reducible first|exact HB.out|apply qa|apply ja|apply ta|refine ua ?_ Ta.out|refine ua ?_ nc.out)|exact HB.out)⟩
     ·rw [if_neg J1] at H;have Nae:(Tb == 1)=false:=beq_eq_false_iff_ne.mpr J1;have Mae:(Tb != 1)=true:=bne_iff_ne.mpr J1
      by_cases sL:Tb=2
      ·rw [if_pos sL] at H;have fU:(Tb == 2)=true:=beq_iff_eq.mpr sL;have eU:(Tb != 2)=false:=bne_eq_false_iff_eq.mpr sL;clear sL
       by_cases WY:t106=true
       ·subst WY;have H1:(if Lb=0 then (some (Xb == 0)) else (some false))=some r:=by rw [if_pos rfl] at H;exact H
        clear H;have H:=H1;clear H1
        by_cases rL:Lb=0
        ·rw [if_pos rL] at H;have dU:(Lb == 0)=true:=beq_iff_eq.mpr rL;have cU:(Lb != 0)=false:=bne_eq_false_iff_eq.mpr rL;clear rL;obtain rfl:=Option.some.inj H;have WZ:=Cb.out;have UZ:=Db.out;have aH:wr.cell? ⟨Ka,0,none⟩=some (.slice Nf Nc.length Ef):=(ia za.out 0).trans rfl;have ZG:wr.cell? ⟨Ka,1,none⟩=some (.int .i64 Tb):=(ia za.out 1).trans rfl;have YG:wr.cell? ⟨Ka,2,none⟩=some (.int .i64 Kb):=(ia za.out 2).trans rfl;have XG:wr.cell? ⟨Ka,3,none⟩=some (.int .i64 Lb):=(ia za.out 3).trans rfl;have WG:wr.cell? ⟨Ka,4,none⟩=some (.int .i64 Xb):=(ia za.out 4).trans rfl;have dG:=aa za.out 0;have cG:=aa za.out 1;have bG:=aa za.out 2;have aG:=aa za.out 3;have ZF:=aa za.out 4;have PX:wr.cell? ⟨ya,0,none⟩=some (.slice Xa Ra.length Ya):=(ia oa.out 0).trans rfl;have OX:wr.cell? ⟨ya,1,none⟩=some (.int .i64 La):=(ia oa.out 1).trans rfl;have NX:wr.cell? ⟨ya,2,none⟩=some (.int .i64 Ja):=(ia oa.out 2).trans rfl;have MX:wr.cell? ⟨ya,3,none⟩=some (.int .i64 Ma):=(ia oa.out 3).trans rfl;have LX:wr.cell? ⟨ya,4,none⟩=some (.slice Mb Aa.length Fb):=(ia oa.out 4).trans rfl;have EW:=aa oa.out 0;have DW:=aa oa.out 1;have CW:=aa oa.out 2;have AW:=aa oa.out 3;have zW:=aa oa.out 4;go_wp2_with (first|((with_reducible refine mb (f:=53) rfl ?_);refine Fc (some 29) rfl rfl Try.func53 (by kernel_rfl) rfl #[.int .i64 Lb,.int .i64 0,.int .i64 (wrap64 ((Aa.length:Int) - 1))] rfl (by (try simp only [List.map_toArray,List.map_cons,List.map_nil]);first|done|rfl|(simp only [List.length_drop,List.length_take];rfl)) ?_;(with_reducible refine (Za.calls Lb 0 (wrap64 ((Aa.length:Int) - 1)) t105 _ AV.out).mono ?_);rintro e w' ⟨rfl,⟨nd,rfl⟩⟩;refine ⟨_,rfl,?_⟩)|((with_reducible refine mb (f:=53) rfl ?_);refine Fc (some 35) rfl rfl Try.func53 (by kernel_rfl) rfl #[.int .i64 Kb,.int .i64 0,.int .i64 (wrap64 (Ma - 1))] rfl (by (try simp only [List.map_toArray,List.map_cons,List.map_nil]);first|done|rfl|(simp only [List.length_drop,List.length_take];rfl)) ?_;(with_reducible refine (Za.calls Kb 0 (wrap64 (Ma - 1)) true _ zV.out).mono ?_);rintro e w' ⟨rfl,⟨nd,rfl⟩⟩;refine ⟨_,rfl,?_⟩));go_ret;exact ⟨by first|rfl|(simp [Oa,Na] <;> rfl)|(simp [*,Oa,Na] <;> rfl),by repeat (first|(with_reducible first|exact HB.out|apply qa|apply ja|apply ta|refine ua ?_ Ta.out|refine ua ?_ nc.out)|exact HB.out)⟩
        ·rw [if_neg rL] at H;have dU:(Lb == 0)=false:=beq_eq_false_iff_ne.mpr rL;have cU:(Lb != 0)=true:=bne_iff_ne.mpr rL;obtain rfl:=Option.some.inj H;have nav:=Cb.out;have Hau:=Db.out;have Yam:wr.cell? ⟨Ka,0,none⟩=some (.slice Nf Nc.length Ef):=(ia za.out 0).trans rfl;have Xam:wr.cell? ⟨Ka,1,none⟩=some (.int .i64 Tb):=(ia za.out 1).trans rfl;have Wam:wr.cell? ⟨Ka,2,none⟩=some (.int .i64 Kb):=(ia za.out 2).trans rfl;have Vam:wr.cell? ⟨Ka,3,none⟩=some (.int .i64 Lb):=(ia za.out 3).trans rfl;have Uam:wr.cell? ⟨Ka,4,none⟩=some (.int .i64 Xb):=(ia za.out 4).trans rfl;have Oaj:=aa za.out 0;have Naj:=aa za.out 1;have Maj:=aa za.out 2;have Laj:=aa za.out 3;have Kaj:=aa za.out 4;have SG:wr.cell? ⟨ya,0,none⟩=some (.slice Xa Ra.length Ya):=(ia oa.out 0).trans rfl;have RG:wr.cell? ⟨ya,1,none⟩=some (.int .i64 La):=(ia oa.out 1).trans rfl;have QG:wr.cell? ⟨ya,2,none⟩=some (.int .i64 Ja):=(ia oa.out 2).trans rfl;have PG:wr.cell? ⟨ya,3,none⟩=some (.int .i64 Ma):=(ia oa.out 3).trans rfl;have OG:wr.cell? ⟨ya,4,none⟩=some (.slice Mb Aa.length Fb):=(ia oa.out 4).trans rfl;have VF:=aa oa.out 0;have UF:=aa oa.out 1;have SF:=aa oa.out 2;have RF:=aa oa.out 3;have QF:=aa oa.out 4;go_wp2_with (first|((with_reducible refine mb (f:=53) rfl ?_);refine Fc (some 29) rfl rfl Try.func53 (by kernel_rfl) rfl #[.int .i64 Lb,.int .i64 0,.int .i64 (wrap64 ((Aa.length:Int) - 1))] rfl (by (try simp only [List.map_toArray,List.map_cons,List.map_nil]);first|done|rfl|(simp only [List.length_drop,List.length_take];rfl)) ?_;(with_reducible refine (Za.calls Lb 0 (wrap64 ((Aa.length:Int) - 1)) t105 _ AV.out).mono ?_);rintro e w' ⟨rfl,⟨nd,rfl⟩⟩;refine ⟨_,rfl,?_⟩)|((with_reducible refine mb (f:=53) rfl ?_);refine Fc (some 35) rfl rfl Try.func53 (by kernel_rfl) rfl #[.int .i64 Kb,.int .i64 0,.int .i64 (wrap64 (Ma - 1))] rfl (by (try simp only [List.map_toArray,List.map_cons,List.map_nil]);first|done|rfl|(simp only [List.length_drop,List.length_take];rfl)) ?_;(with_reducible refine (Za.calls Kb 0 (wrap64 (Ma - 1)) true _ zV.out).mono ?_);rintro e w' ⟨rfl,⟨nd,rfl⟩⟩;refine ⟨_,rfl,?_⟩));go_ret;exact ⟨by first|rfl|(simp [Oa,Na] <;> rfl)|(simp [*,Oa,Na] <;> rfl),by repeat (first|(with_reducible first|exact HB.out|apply qa|apply ja|apply ta|refine ua ?_ Ta.out|refine ua ?_ nc.out)|exact HB.out)⟩
       ·replace WY:=Bool.eq_false_iff.mpr WY;subst WY;have H1:(some false)=some r:=by rw [if_neg (show ¬ (false=true) by decide)] at H;exact H
        clear H;have H:=H1;clear H1;obtain rfl:=Option.some.inj H;have mav:=Cb.out;have Gau:=Db.out;have Mam:wr.cell? ⟨Ka,0,none⟩=some (.slice Nf Nc.length Ef):=(ia za.out 0).trans rfl;have Lam:wr.cell? ⟨Ka,1,none⟩=some (.int .i64 Tb):=(ia za.out 1).trans rfl;have Kam:wr.cell? ⟨Ka,2,none⟩=some (.int .i64 Kb):=(ia za.out 2).trans rfl;have Jam:wr.cell? ⟨Ka,3,none⟩=some (.int .i64 Lb):=(ia za.out 3).trans rfl;have Iam:wr.cell? ⟨Ka,4,none⟩=some (.int .i64 Xb):=(ia za.out 4).trans rfl;have Caj:=aa za.out 0;have Baj:=aa za.out 1;have Aaj:=aa za.out 2;have zaj:=aa za.out 3;have yaj:=aa za.out 4;have Ham:wr.cell? ⟨ya,0,none⟩=some (.slice Xa Ra.length Ya):=(ia oa.out 0).trans rfl;have Gam:wr.cell? ⟨ya,1,none⟩=some (.int .i64 La):=(ia oa.out 1).trans rfl;have Fam:wr.cell? ⟨ya,2,none⟩=some (.int .i64 Ja):=(ia oa.out 2).trans rfl;have Eam:wr.cell? ⟨ya,3,none⟩=some (.int .i64 Ma):=(ia oa.out 3).trans rfl;have Dam:wr.cell? ⟨ya,4,none⟩=some (.slice Mb Aa.length Fb):=(ia oa.out 4).trans rfl;have xaj:=aa oa.out 0;have waj:=aa oa.out 1;have vaj:=aa oa.out 2;have uaj:=aa oa.out 3;have taj:=aa oa.out 4;go_wp2_with (first|((with_reducible refine mb (f:=53) rfl ?_);refine Fc (some 29) rfl rfl Try.func53 (by kernel_rfl) rfl #[.int .i64 Lb,.int .i64 0,.int .i64 (wrap64 ((Aa.length:Int) - 1))] rfl (by (try simp only [List.map_toArray,List.map_cons,List.map_nil]);first|done|rfl|(simp only [List.length_drop,List.length_take];rfl)) ?_;(with_reducible refine (Za.calls Lb 0 (wrap64 ((Aa.length:Int) - 1)) t105 _ AV.out).mono ?_);rintro e w' ⟨rfl,⟨nd,rfl⟩⟩;refine ⟨_,rfl,?_⟩)|((with_reducible refine mb (f:=53) rfl ?_);refine Fc (some 35) rfl rfl Try.func53 (by kernel_rfl) rfl #[.int .i64 Kb,.int .i64 0,.int .i64 (wrap64 (Ma - 1))] rfl (by (try simp only [List.map_toArray,List.map_cons,List.map_nil]);first|done|rfl|(simp only [List.length_drop,List.length_take];rfl)) ?_;(with_reducible refine (Za.calls Kb 0 (wrap64 (Ma - 1)) false _ zV.out).mono ?_);rintro e w' ⟨rfl,⟨nd,rfl⟩⟩;refine ⟨_,rfl,?_⟩));go_ret;exact ⟨by first|rfl|(simp [Oa,Na] <;> rfl)|(simp [*,Oa,Na] <;> rfl),by repeat (first|(with_reducible first|exact HB.out|apply qa|apply ja|apply ta|refine ua ?_ Ta.out|refine ua ?_ nc.out)|exact HB.out)⟩
      ·rw [if_neg sL] at H;have fU:(Tb == 2)=false:=beq_eq_false_iff_ne.mpr sL;have eU:(Tb != 2)=true:=bne_iff_ne.mpr sL;obtain rfl:=Option.some.inj H;have lav:=Cb.out;have Fau:=Db.out;have Cam:wr.cell? ⟨Ka,0,none⟩=some (.slice Nf Nc.length Ef):=(ia za.out 0).trans rfl;have Bam:wr.cell? ⟨Ka,1,none⟩=some (.int .i64 Tb):=(ia za.out 1).trans rfl;have Aam:wr.cell? ⟨Ka,2,none⟩=some (.int .i64 Kb):=(ia za.out 2).trans rfl;have zam:wr.cell? ⟨Ka,3,none⟩=some (.int .i64 Lb):=(ia za.out 3).trans rfl;have yam:wr.cell? ⟨Ka,4,none⟩=some (.int .i64 Xb):=(ia za.out 4).trans rfl;have saj:=aa za.out 0;have raj:=aa za.out 1;have qaj:=aa za.out 2;have paj:=aa za.out 3;have oaj:=aa za.out 4;have EX:wr.cell? ⟨ya,0,none⟩=some (.slice Xa Ra.length Ya):=(ia oa.out 0).trans rfl;have DX:wr.cell? ⟨ya,1,none⟩=some (.int .i64 La):=(ia oa.out 1).trans rfl;have CX:wr.cell? ⟨ya,2,none⟩=some (.int .i64 Ja):=(ia oa.out 2).trans rfl;have BX:wr.cell? ⟨ya,3,none⟩=some (.int .i64 Ma):=(ia oa.out 3).trans rfl;have AX:wr.cell? ⟨ya,4,none⟩=some (.slice Mb Aa.length Fb):=(ia oa.out 4).trans rfl;have sW:=aa oa.out 0;have rW:=aa oa.out 1;have qW:=aa oa.out 2;have pW:=aa oa.out 3;have oW:=aa oa.out 4;go_wp2_with (first|((with_reducible refine mb (f:=53) rfl ?_);refine Fc (some 29) rfl rfl Try.func53 (by kernel_rfl) rfl #[.int .i64 Lb,.int .i64 0,.int .i64 (wrap64 ((Aa.length:Int) - 1))] rfl (by (try simp only [List.map_toArray,List.map_cons,List.map_nil]);first|done|rfl|(simp only [List.length_drop,List.length_take];rfl)) ?_;(with_reducible refine (Za.calls Lb 0 (wrap64 ((Aa.length:Int) - 1)) t105 _ AV.out).mono ?_);rintro e w' ⟨rfl,⟨nd,rfl⟩⟩;refine ⟨_,rfl,?_⟩)|((with_reducible refine mb (f:=53) rfl ?_);refine Fc (some 35) rfl rfl Try.func53 (by kernel_rfl) rfl #[.int .i64 Kb,.int .i64 0,.int .i64 (wrap64 (Ma - 1))] rfl (by (try simp only [List.map_toArray,List.map_cons,List.map_nil]);first|done|rfl|(simp only [List.length_drop,List.length_take];rfl)) ?_;(with_reducible refine (Za.calls Kb 0 (wrap64 (Ma - 1)) t106 _ zV.out).mono ?_);rintro e w' ⟨rfl,⟨nd,rfl⟩⟩;refine ⟨_,rfl,?_⟩));go_ret;exact ⟨by first|rfl|(simp [Oa,Na] <;> rfl)|(simp [*,Oa,Na] <;> rfl),by repeat (first|(with_reducible first|exact HB.out|apply qa|apply ja|apply ta|refine ua ?_ Ta.out|refine ua ?_ nc.out)|exact HB.out)⟩
mutual
def Wa.l0:Nat→Int→List Int→Int→Int→Int→List (Re)→Option (Bool)
 | 0,_,_,_,_,_,_=>none
 | k + 1,x3,Cc,Tc,Ic,Gc,Wb=>if x3 < (Cc.length:Int) then (if 0 ≤ x3 then ((Za.f (rd Cc x3) 1 16).bind fun t103=>(if t103=true then (Wa.l0 k (wrap64 (x3 + 1)) Cc Tc Ic Gc Wb) else (some false))) else (none)) else ((Za.f (Cc.length:Int) 1 4).bind fun t104=>(if t104=true then ((Za.f Ic 0 20).bind fun t105=>(if t105=true then ((Za.f Tc 0 6).bind fun t106=>(if t106=true then (if Tc > Ic then (Wa.j1 k true Cc Tc Ic Gc Wb) else ((Za.f Gc Ic 1000).bind fun t107=>(if t107=true then ((Za.f (Wb.length:Int) 1 300).bind fun t108=>(Wa.j1 k (!t108) Cc Tc Ic Gc Wb)) else (Wa.j1 k true Cc Tc Ic Gc Wb)))) else (Wa.j1 k true Cc Tc Ic Gc Wb))) else (Wa.j1 k true Cc Tc Ic Gc Wb))) else (Wa.j1 k true Cc Tc Ic Gc Wb)))
def Wa.j1:Nat→Bool→List Int→Int→Int→Int→List (Re)→Option (Bool)
 | 0,_,_,_,_,_,_=>none
 | k + 1,x58,Cc,Tc,Ic,Gc,Wb=>if x58=true then (some false) else (Wa.l1 k 0 0 Cc Tc Ic Gc Wb)
def Wa.l1:Nat→Int→Int→List Int→Int→Int→Int→List (Re)→Option (Bool)
 | 0,_,_,_,_,_,_,_=>none
 | k + 1,x4,x5,Cc,Tc,Ic,Gc,Wb=>if x5 < (Wb.length:Int) then (if 0 ≤ x5 then (if (wrap64 (x4 + (((Ea Wb x5).f0).length:Int))) > 1000 then (some false) else ((ic.f k Cc Tc Ic Gc Wb ((Ea Wb x5).f0) ((Ea Wb x5).f1) ((Ea Wb x5).f2) ((Ea Wb x5).f3) ((Ea Wb x5).f4)).bind fun t111=>(if t111=true then (Wa.l1 k (wrap64 (x4 + (((Ea Wb x5).f0).length:Int))) (wrap64 (x5 + 1)) Cc Tc Ic Gc Wb) else (some false)))) else (none)) else (some true)
end
def Wa.f (k:Nat) (Ra:List Int) (La:Int) (Ja:Int) (Ma:Int) (Aa:List (Re)):Option (Bool):=Wa.l0 k 0 Ra La Ja Ma Aa
def Wa.T13:Bool × List (List Nat × List Nat):=(true,[([],[]),([0],[0]),([1],[1]),([2],[2]),([2],[2]),([4,2],[2,4]),([2],[2]),([5,6,2],[2,5,6]),([7,2],[2,7]),([3,8,2,2],[2,3,8]),([9,2],[2,9]),([2,10],[2,10])])
def Wa.B13:List Nat:=[0,1,3,7,7,23,7,119,247,511,1023,2047]
theorem Wa.ER:Zn .any (opsOf Try.f40 13)=Wa.T13:=by kernel_rfl
theorem Wa.AL:vo Wa.T13.2 Wa.B13=true:=by kernel_rfl
theorem Wa.calls (k:Nat) (Xa:Option Addr) (Ya:Nat) (Ra:List Int) (La:Int) (Ja:Int) (Ma:Int) (Mb:Option Addr) (Fb:Nat) (Aa:List (Re)) (r:Bool) (w:World) (Xd:Kd.C (Kd.int .i64) w Xa Ra.length Ra) (Vd:Ra.length ≤ Ya) (Ff:Kd.C Kp w Mb Aa.length Aa) (uf:Aa.length ≤ Fb) (h:Wa.f k Ra La Ja Ma Aa=some r) :
  Calls Try.prog 40 #[.agg #[.slice Xa Ra.length Ya,.int .i64 La,.int .i64 Ja,.int .i64 Ma,.slice Mb Aa.length Fb]] w fun e w'=>e = .returned (.bool r)∧Below w.heap.size w w':=by
 have eE:=Try.underlying30;have YA:=Try.underlying59;have Ye:=ga.mk Xd;have gf:=ga.mk Vd;clear Xd Vd;have wg:=ga.mk Ff;have ei:=ga.mk uf;clear Ff uf;have HB:=ga.mk (Below.refl w.heap.size w);have H:(Wa.l0 k 0 Ra La Ja Ma Aa)=some r:=h;clear h;have H':=ga.mk H;clear H;go_enter Try.func40,Try.ntmps40;go_wp2_with (first|((with_reducible refine qb (N:=1) rfl ?_);(try (refine Ti (by rfl) ?_;dsimp only));refine Gb ?hg (N:=1) ?hd (cs:=#[.slice Xa Ra.length Ya,.int .i64 La,.int .i64 Ja,.int .i64 Ma,.slice Mb Aa.length Fb]) (t:=30) ?hr ?_;(case hd=>rfl);(case hg=>rfl);(case hr=>first|(go_simp;done)|(go_simp;rfl));intro ya hg w2 Ob hb;have yb:=ga.mk (Qa (by repeat (first|(with_reducible first|exact HB.out|apply qa|apply ja|apply ta)|exact HB.out)) hb);have Ib:=ga.mk (Ob);have Nb:=ga.mk ((by rw [hg];exact (Ia (by repeat (first|(with_reducible first|exact HB.out|apply qa|apply ja|apply ta)|exact HB.out))):w.heap.size ≤ ya));have Dc:=ga.mk ((by rw [hg];exact (Ia (by repeat (first|(with_reducible first|exact HB.out|apply qa|apply ja|apply ta)|exact HB.out))):w.heap.size ≤ ya));clear HB;have HB:=yb;have oa:=Ib;have Nd:=Nb;have Ta:=Dc;clear yb Ib Nb Dc hb Ob hg))
 go_loopg [3] k (fun kq v3 w'=>∃ (od:Int),v3 = .int .i64 od∧ga (Wa.l0 kq od Ra La Ja Ma Aa=some r)∧ga (kq ≤ k)∧ga (w'.heap[ya]? = some (.cells #[(.slice Xa Ra.length Ya),.int .i64 La,.int .i64 Ja,.int .i64 Ma,(.slice Mb Aa.length Fb)] 30 (0,0)))∧ga (Below w.heap.size w w'))
 case atStart=>exact ⟨(0),(by first|rfl|(simp;done)|(simp [*];done)),H',⟨Nat.le_refl _⟩,⟨by (with_reducible repeat (first|refine Ba ?_ _|refine Fa ?_|refine Ca ?_ _));exact oa.out⟩,⟨by repeat (first|(with_reducible first|exact HB.out|apply qa|apply ja|apply ta|refine ua ?_ Ta.out)|exact HB.out)⟩⟩
 case round =>
  clear H'
  try clear p2
  (try clear HA);(try clear Xf);(try clear oa);(try clear HB);obtain ⟨od,rfl,HA,Xf,oa,HB⟩:=hrel;cases gk with
  | zero=>exact absurd HA.out (by simp [Wa.l0])
  | succ k1 =>
   have H:=HA.out;clear HA;simp only [Wa.l0] at H
   by_cases c3:od < (Ra.length:Int)
   ·rw [if_pos c3] at H;have Vg:decide (od < (Ra.length:Int))=true:=decide_eq_true c3;clear c3
    by_cases c4:0 ≤ od
    ·rw [if_pos c4] at H;have cj:decide (0 ≤ od)=true:=decide_eq_true c4;clear c4;replace H:=Option.bind_eq_some_iff.mp H;obtain ⟨t103,O3,H⟩:=H;replace H:(if t103=true then (Wa.l0 k1 (wrap64 (od + 1)) Ra La Ja Ma Aa) else (some false))=some r:=H;have A5:=ga.mk O3;clear O3
     by_cases c6:t103=true
     ·subst c6;have H1:(Wa.l0 k1 (wrap64 (od + 1)) Ra La Ja Ma Aa)=some r:=by rw [if_pos rfl] at H;exact H
      clear H;have H:=H1;clear H1;have H':=ga.mk H;clear H;have Ms:wr.cell? ⟨ya,0,none⟩=some (.slice Xa Ra.length Ya):=(ia oa.out 0).trans rfl;have Ls:wr.cell? ⟨ya,1,none⟩=some (.int .i64 La):=(ia oa.out 1).trans rfl;have Ks:wr.cell? ⟨ya,2,none⟩=some (.int .i64 Ja):=(ia oa.out 2).trans rfl;have Js:wr.cell? ⟨ya,3,none⟩=some (.int .i64 Ma):=(ia oa.out 3).trans rfl;have Hs:wr.cell? ⟨ya,4,none⟩=some (.slice Mb Aa.length Fb):=(ia oa.out 4).trans rfl;have Ur:=aa oa.out 0;have Tr:=aa oa.out 1;have Sr:=aa oa.out 2;have Qr:=aa oa.out 3;have Pr:=aa oa.out 4;have ah:0 ≤ (od:Int):=Ua;have Zg:od < (Ra.length:Int):=Ua;obtain ⟨ef,zp,bf⟩:=Kd.Ik Ye.out od ah Zg;cases zp;replace bf:=Sa HB.out bf;replace ah:=eq_true ah;replace Zg:=eq_true Zg;go_wp2_with (first|((with_reducible refine mb (f:=53) rfl ?_);refine Fc (some 18) rfl rfl Try.func53 (by kernel_rfl) rfl #[.int .i64 (rd Ra od),.int .i64 1,.int .i64 16] rfl (by (try simp only [List.map_toArray,List.map_cons,List.map_nil]);first|done|rfl|(simp only [List.length_drop,List.length_take];rfl)) ?_;(with_reducible refine (Za.calls (rd Ra od) 1 16 true _ A5.out).mono ?_);rintro e w' ⟨rfl,⟨nd,rfl⟩⟩;refine ⟨_,rfl,?_⟩))
      go_roundg k1
      case measure=>have:=Xf.out;omega
      case rel=>exact ⟨(wrap64 (od + 1)),(by first|rfl|(simp;done)|(simp [*];done)),H',⟨by have:=Xf.out;omega⟩,⟨by (with_reducible repeat (first|refine Ba ?_ _|refine Fa ?_|refine Ca ?_ _));exact oa.out⟩,⟨by repeat (first|(with_reducible first|exact HB.out|apply qa|apply ja|apply ta|refine ua ?_ Ta.out)|exact HB.out)⟩⟩
     ·replace c6:=Bool.eq_false_iff.mpr c6;subst c6;have H1:(some false)=some r:=by rw [if_neg (show ¬ (false=true) by decide)] at H;exact H
      clear H;have H:=H1;clear H1;obtain rfl:=Option.some.inj H;have su:wr.cell? ⟨ya,0,none⟩=some (.slice Xa Ra.length Ya):=(ia oa.out 0).trans rfl;have ru:wr.cell? ⟨ya,1,none⟩=some (.int .i64 La):=(ia oa.out 1).trans rfl;have qu:wr.cell? ⟨ya,2,none⟩=some (.int .i64 Ja):=(ia oa.out 2).trans rfl;have ou:wr.cell? ⟨ya,3,none⟩=some (.int .i64 Ma):=(ia oa.out 3).trans rfl;have nu:wr.cell? ⟨ya,4,none⟩=some (.slice Mb Aa.length Fb):=(ia oa.out 4).trans rfl;have lu:=aa oa.out 0;have ku:=aa oa.out 1;have ju:=aa oa.out 2;have iu:=aa oa.out 3;have gu:=aa oa.out 4;have ah:0 ≤ (od:Int):=Ua;have Zg:od < (Ra.length:Int):=Ua;obtain ⟨ef,zp,bf⟩:=Kd.Ik Ye.out od ah Zg;cases zp;replace bf:=Sa HB.out bf;replace ah:=eq_true ah;replace Zg:=eq_true Zg;go_wp2_with (first|((with_reducible refine mb (f:=53) rfl ?_);refine Fc (some 18) rfl rfl Try.func53 (by kernel_rfl) rfl #[.int .i64 (rd Ra od),.int .i64 1,.int .i64 16] rfl (by (try simp only [List.map_toArray,List.map_cons,List.map_nil]);first|done|rfl|(simp only [List.length_drop,List.length_take];rfl)) ?_;(with_reducible refine (Za.calls (rd Ra od) 1 16 false _ A5.out).mono ?_);rintro e w' ⟨rfl,⟨nd,rfl⟩⟩;refine ⟨_,rfl,?_⟩));go_ret;exact ⟨by first|rfl|(simp [Oa,Na] <;> rfl)|(simp [*,Oa,Na] <;> rfl),by repeat (first|(with_reducible first|exact HB.out|apply qa|apply ja|apply ta|refine ua ?_ Ta.out)|exact HB.out)⟩
    ·rw [if_neg c4] at H;exact absurd H (by simp)
   ·rw [if_neg c3] at H;have Vg:decide (od < (Ra.length:Int))=false:=decide_eq_false c3;clear c3;have HC9:=ga.mk H;clear H;have Yh:wr.cell? ⟨ya,0,none⟩=some (.slice Xa Ra.length Ya):=(ia oa.out 0).trans rfl;have Xh:wr.cell? ⟨ya,1,none⟩=some (.int .i64 La):=(ia oa.out 1).trans rfl;have Wh:wr.cell? ⟨ya,2,none⟩=some (.int .i64 Ja):=(ia oa.out 2).trans rfl;have Vh:wr.cell? ⟨ya,3,none⟩=some (.int .i64 Ma):=(ia oa.out 3).trans rfl;have Uh:wr.cell? ⟨ya,4,none⟩=some (.slice Mb Aa.length Fb):=(ia oa.out 4).trans rfl;have Th:=aa oa.out 0;have Sh:=aa oa.out 1;have Rh:=aa oa.out 2;have Qh:=aa oa.out 3;have Ph:=aa oa.out 4
    go_upto_region 6 with (fail)
    go_cut [58] (fun v58 wc=>∃ (kq:Nat) (PL:Bool),v58 = .bool PL∧ga (Wa.j1 kq PL Ra La Ja Ma Aa=some r)∧ga (kq ≤ k1)∧ga (wc.heap[ya]? = some (.cells #[(.slice Xa Ra.length Ya),.int .i64 La,.int .i64 Ja,.int .i64 Ma,(.slice Mb Aa.length Fb)] 30 (0,0)))∧ga (Below w.heap.size w wc))
    case first =>
     have H:=HC9.out;clear HC9;replace H:=Option.bind_eq_some_iff.mp H;obtain ⟨t104,VJ,H⟩:=H;replace H:(if t104=true then ((Za.f Ja 0 20).bind fun t105=>(if t105=true then ((Za.f La 0 6).bind fun t106=>(if t106=true then (if La > Ja then (Wa.j1 k1 true Ra La Ja Ma Aa) else ((Za.f Ma Ja 1000).bind fun t107=>(if t107=true then ((Za.f (Aa.length:Int) 1 300).bind fun t108=>(Wa.j1 k1 (!t108) Ra La Ja Ma Aa)) else (Wa.j1 k1 true Ra La Ja Ma Aa)))) else (Wa.j1 k1 true Ra La Ja Ma Aa))) else (Wa.j1 k1 true Ra La Ja Ma Aa))) else (Wa.j1 k1 true Ra La Ja Ma Aa))=some r:=H;have vR:=ga.mk VJ;clear VJ
     by_cases wu:t104=true
     ·subst wu;have H1:((Za.f Ja 0 20).bind fun t105=>(if t105=true then ((Za.f La 0 6).bind fun t106=>(if t106=true then (if La > Ja then (Wa.j1 k1 true Ra La Ja Ma Aa) else ((Za.f Ma Ja 1000).bind fun t107=>(if t107=true then ((Za.f (Aa.length:Int) 1 300).bind fun t108=>(Wa.j1 k1 (!t108) Ra La Ja Ma Aa)) else (Wa.j1 k1 true Ra La Ja Ma Aa)))) else (Wa.j1 k1 true Ra La Ja Ma Aa))) else (Wa.j1 k1 true Ra La Ja Ma Aa)))=some r:=by rw [if_pos rfl] at H;exact H
      clear H;have H:=H1;clear H1;replace H:=Option.bind_eq_some_iff.mp H;obtain ⟨t105,kah,H⟩:=H;replace H:(if t105=true then ((Za.f La 0 6).bind fun t106=>(if t106=true then (if La > Ja then (Wa.j1 k1 true Ra La Ja Ma Aa) else ((Za.f Ma Ja 1000).bind fun t107=>(if t107=true then ((Za.f (Aa.length:Int) 1 300).bind fun t108=>(Wa.j1 k1 (!t108) Ra La Ja Ma Aa)) else (Wa.j1 k1 true Ra La Ja Ma Aa)))) else (Wa.j1 k1 true Ra La Ja Ma Aa))) else (Wa.j1 k1 true Ra La Ja Ma Aa))=some r:=H;have A13:=ga.mk kah;clear kah
      by_cases lU:t105=true
      ·subst lU;have H1:((Za.f La 0 6).bind fun t106=>(if t106=true then (if La > Ja then (Wa.j1 k1 true Ra La Ja Ma Aa) else ((Za.f Ma Ja 1000).bind fun t107=>(if t107=true then ((Za.f (Aa.length:Int) 1 300).bind fun t108=>(Wa.j1 k1 (!t108) Ra La Ja Ma Aa)) else (Wa.j1 k1 true Ra La Ja Ma Aa)))) else (Wa.j1 k1 true Ra La Ja Ma Aa)))=some r:=by rw [if_pos rfl] at H;exact H
       clear H;have H:=H1;clear H1;replace H:=Option.bind_eq_some_iff.mp H;obtain ⟨t106,bV,H⟩:=H;replace H:(if t106=true then (if La > Ja then (Wa.j1 k1 true Ra La Ja Ma Aa) else ((Za.f Ma Ja 1000).bind fun t107=>(if t107=true then ((Za.f (Aa.length:Int) 1 300).bind fun t108=>(Wa.j1 k1 (!t108) Ra La Ja Ma Aa)) else (Wa.j1 k1 true Ra La Ja Ma Aa)))) else (Wa.j1 k1 true Ra La Ja Ma Aa))=some r:=H;have D_:=ga.mk bV;clear bV
       by_cases sI:t106=true
       ·subst sI;have H1:(if La > Ja then (Wa.j1 k1 true Ra La Ja Ma Aa) else ((Za.f Ma Ja 1000).bind fun t107=>(if t107=true then ((Za.f (Aa.length:Int) 1 300).bind fun t108=>(Wa.j1 k1 (!t108) Ra La Ja Ma Aa)) else (Wa.j1 k1 true Ra La Ja Ma Aa))))=some r:=by rw [if_pos rfl] at H;exact H
        clear H;have H:=H1;clear H1
        by_cases Qp:La > Ja
        ·rw [if_pos Qp] at H;have Dp:decide (Ja < La)=true:=decide_eq_true Qp;clear Qp;(first|rw [Dp]|(simp only [Zb,dc];rw [Dp])|skip);have H':=ga.mk H;clear H;have Zv:wr.cell? ⟨ya,0,none⟩=some (.slice Xa Ra.length Ya):=(ia oa.out 0).trans rfl;have Yv:wr.cell? ⟨ya,1,none⟩=some (.int .i64 La):=(ia oa.out 1).trans rfl;have Xv:wr.cell? ⟨ya,2,none⟩=some (.int .i64 Ja):=(ia oa.out 2).trans rfl;have Wv:wr.cell? ⟨ya,3,none⟩=some (.int .i64 Ma):=(ia oa.out 3).trans rfl;have Vv:wr.cell? ⟨ya,4,none⟩=some (.slice Mb Aa.length Fb):=(ia oa.out 4).trans rfl;have zv:=aa oa.out 0;have wv:=aa oa.out 1;have vv:=aa oa.out 2;have uv:=aa oa.out 3;have tv:=aa oa.out 4;go_wp2_with (first|((with_reducible refine mb (f:=53) rfl ?_);refine Fc (some 23) rfl rfl Try.func53 (by kernel_rfl) rfl #[.int .i64 (Ra.length:Int),.int .i64 1,.int .i64 4] rfl (by (try simp only [List.map_toArray,List.map_cons,List.map_nil]);first|done|rfl|(simp only [List.length_drop,List.length_take];rfl)) ?_;(with_reducible refine (Za.calls (Ra.length:Int) 1 4 true _ vR.out).mono ?_);rintro e w' ⟨rfl,⟨nd,rfl⟩⟩;refine ⟨_,rfl,?_⟩)|(go_at_call 53;(with_reducible refine (Za.calls Ja 0 20 true _ A13.out).mono ?_);rintro e w' ⟨rfl,⟨nd,rfl⟩⟩)|(go_at_call 53;(with_reducible refine (Za.calls La 0 6 true _ D_.out).mono ?_);rintro e w' ⟨rfl,⟨nd,rfl⟩⟩))
         go_meet
         case rel=>exact ⟨_,(true),(by first|rfl|(simp;done)|(simp [*];done)),H',⟨by have:=Xf.out;first|omega|exact Nat.le_refl _⟩,⟨by (with_reducible repeat (first|refine Ba ?_ _|refine Fa ?_|refine Ca ?_ _));exact oa.out⟩,⟨by repeat (first|(with_reducible first|exact HB.out|apply qa|apply ja|apply ta|refine ua ?_ Ta.out)|exact HB.out)⟩⟩
        ·rw [if_neg Qp] at H;have Dp:decide (Ja < La)=false:=decide_eq_false Qp;clear Qp;(first|rw [Dp]|(simp only [Zb,dc];rw [Dp])|skip);replace H:=Option.bind_eq_some_iff.mp H;obtain ⟨t107,fah,H⟩:=H;replace H:(if t107=true then ((Za.f (Aa.length:Int) 1 300).bind fun t108=>(Wa.j1 k1 (!t108) Ra La Ja Ma Aa)) else (Wa.j1 k1 true Ra La Ja Ma Aa))=some r:=H;have A19:=ga.mk fah;clear fah
         by_cases Np:t107=true
         ·subst Np;have H1:((Za.f (Aa.length:Int) 1 300).bind fun t108=>(Wa.j1 k1 (!t108) Ra La Ja Ma Aa))=some r:=by rw [if_pos rfl] at H;exact H
          clear H;have H:=H1;clear H1;replace H:=Option.bind_eq_some_iff.mp H;obtain ⟨t108,eah,H⟩:=H;replace H:(Wa.j1 k1 (!t108) Ra La Ja Ma Aa)=some r:=H;have P3:=ga.mk eah;clear eah;have H':=ga.mk H;clear H;have Uv:wr.cell? ⟨ya,0,none⟩=some (.slice Xa Ra.length Ya):=(ia oa.out 0).trans rfl;have Tv:wr.cell? ⟨ya,1,none⟩=some (.int .i64 La):=(ia oa.out 1).trans rfl;have Sv:wr.cell? ⟨ya,2,none⟩=some (.int .i64 Ja):=(ia oa.out 2).trans rfl;have Rv:wr.cell? ⟨ya,3,none⟩=some (.int .i64 Ma):=(ia oa.out 3).trans rfl;have Qv:wr.cell? ⟨ya,4,none⟩=some (.slice Mb Aa.length Fb):=(ia oa.out 4).trans rfl;have qv:=aa oa.out 0;have ov:=aa oa.out 1;have nv:=aa oa.out 2;have jv:=aa oa.out 3;have gv:=aa oa.out 4;go_wp2_with (first|((with_reducible refine mb (f:=53) rfl ?_);refine Fc (some 23) rfl rfl Try.func53 (by kernel_rfl) rfl #[.int .i64 (Ra.length:Int),.int .i64 1,.int .i64 4] rfl (by (try simp only [List.map_toArray,List.map_cons,List.map_nil]);first|done|rfl|(simp only [List.length_drop,List.length_take];rfl)) ?_;(with_reducible refine (Za.calls (Ra.length:Int) 1 4 true _ vR.out).mono ?_);rintro e w' ⟨rfl,⟨nd,rfl⟩⟩;refine ⟨_,rfl,?_⟩)|(go_at_call 53;(with_reducible refine (Za.calls Ja 0 20 true _ A13.out).mono ?_);rintro e w' ⟨rfl,⟨nd,rfl⟩⟩)|(go_at_call 53;(with_reducible refine (Za.calls La 0 6 true _ D_.out).mono ?_);rintro e w' ⟨rfl,⟨nd,rfl⟩⟩)|(go_at_call 53;(with_reducible refine (Za.calls Ma Ja 1000 true _ A19.out).mono ?_);rintro e w' ⟨rfl,⟨nd,rfl⟩⟩)|(go_at_call 53;(with_reducible refine (Za.calls (Aa.length:Int) 1 300 t108 _ P3.out).mono ?_);rintro e w' ⟨rfl,⟨nd,rfl⟩⟩))
          go_meet
          case rel=>exact ⟨_,(!t108),(by first|rfl|(simp;done)|(simp [*];done)),H',⟨by have:=Xf.out;first|omega|exact Nat.le_refl _⟩,⟨by (with_reducible repeat (first|refine Ba ?_ _|refine Fa ?_|refine Ca ?_ _));exact oa.out⟩,⟨by repeat (first|(with_reducible first|exact HB.out|apply qa|apply ja|apply ta|refine ua ?_ Ta.out)|exact HB.out)⟩⟩
         ·replace Np:=Bool.eq_false_iff.mpr Np;subst Np;have H1:(Wa.j1 k1 true Ra La Ja Ma Aa)=some r:=by rw [if_neg (show ¬ (false=true) by decide)] at H;exact H
          clear H;have H:=H1;clear H1;have H':=ga.mk H;clear H;have Aq:wr.cell? ⟨ya,0,none⟩=some (.slice Xa Ra.length Ya):=(ia oa.out 0).trans rfl;have zq:wr.cell? ⟨ya,1,none⟩=some (.int .i64 La):=(ia oa.out 1).trans rfl;have yq:wr.cell? ⟨ya,2,none⟩=some (.int .i64 Ja):=(ia oa.out 2).trans rfl;have xq:wr.cell? ⟨ya,3,none⟩=some (.int .i64 Ma):=(ia oa.out 3).trans rfl;have wq:wr.cell? ⟨ya,4,none⟩=some (.slice Mb Aa.length Fb):=(ia oa.out 4).trans rfl;have fq:=aa oa.out 0;have cq:=aa oa.out 1;have bq:=aa oa.out 2;have aq:=aa oa.out 3;have Zp:=aa oa.out 4;go_wp2_with (first|((with_reducible refine mb (f:=53) rfl ?_);refine Fc (some 23) rfl rfl Try.func53 (by kernel_rfl) rfl #[.int .i64 (Ra.length:Int),.int .i64 1,.int .i64 4] rfl (by (try simp only [List.map_toArray,List.map_cons,List.map_nil]);first|done|rfl|(simp only [List.length_drop,List.length_take];rfl)) ?_;(with_reducible refine (Za.calls (Ra.length:Int) 1 4 true _ vR.out).mono ?_);rintro e w' ⟨rfl,⟨nd,rfl⟩⟩;refine ⟨_,rfl,?_⟩)|(go_at_call 53;(with_reducible refine (Za.calls Ja 0 20 true _ A13.out).mono ?_);rintro e w' ⟨rfl,⟨nd,rfl⟩⟩)|(go_at_call 53;(with_reducible refine (Za.calls La 0 6 true _ D_.out).mono ?_);rintro e w' ⟨rfl,⟨nd,rfl⟩⟩)|(go_at_call 53;(with_reducible refine (Za.calls Ma Ja 1000 false _ A19.out).mono ?_);rintro e w' ⟨rfl,⟨nd,rfl⟩⟩))
          go_meet
          case rel=>exact ⟨_,(true),(by first|rfl|(simp;done)|(simp [*];done)),H',⟨by have:=Xf.out;first|omega|exact Nat.le_refl _⟩,⟨by (with_reducible repeat (first|refine Ba ?_ _|refine Fa ?_|refine Ca ?_ _));exact oa.out⟩,⟨by repeat (first|(with_reducible first|exact HB.out|apply qa|apply ja|apply ta|refine ua ?_ Ta.out)|exact HB.out)⟩⟩
       ·replace sI:=Bool.eq_false_iff.mpr sI;subst sI;have H1:(Wa.j1 k1 true Ra La Ja Ma Aa)=some r:=by rw [if_neg (show ¬ (false=true) by decide)] at H;exact H
        clear H;have H:=H1;clear H1;have H':=ga.mk H;clear H;have Vs:wr.cell? ⟨ya,0,none⟩=some (.slice Xa Ra.length Ya):=(ia oa.out 0).trans rfl;have Us:wr.cell? ⟨ya,1,none⟩=some (.int .i64 La):=(ia oa.out 1).trans rfl;have Ts:wr.cell? ⟨ya,2,none⟩=some (.int .i64 Ja):=(ia oa.out 2).trans rfl;have Ss:wr.cell? ⟨ya,3,none⟩=some (.int .i64 Ma):=(ia oa.out 3).trans rfl;have Rs:wr.cell? ⟨ya,4,none⟩=some (.slice Mb Aa.length Fb):=(ia oa.out 4).trans rfl;have Bs:=aa oa.out 0;have js:=aa oa.out 1;have Zr:=aa oa.out 2;have Yr:=aa oa.out 3;have Xr:=aa oa.out 4;go_wp2_with (first|((with_reducible refine mb (f:=53) rfl ?_);refine Fc (some 23) rfl rfl Try.func53 (by kernel_rfl) rfl #[.int .i64 (Ra.length:Int),.int .i64 1,.int .i64 4] rfl (by (try simp only [List.map_toArray,List.map_cons,List.map_nil]);first|done|rfl|(simp only [List.length_drop,List.length_take];rfl)) ?_;(with_reducible refine (Za.calls (Ra.length:Int) 1 4 true _ vR.out).mono ?_);rintro e w' ⟨rfl,⟨nd,rfl⟩⟩;refine ⟨_,rfl,?_⟩)|(go_at_call 53;(with_reducible refine (Za.calls Ja 0 20 true _ A13.out).mono ?_);rintro e w' ⟨rfl,⟨nd,rfl⟩⟩)|(go_at_call 53;(with_reducible refine (Za.calls La 0 6 false _ D_.out).mono ?_);rintro e w' ⟨rfl,⟨nd,rfl⟩⟩))
        go_meet
        case rel=>exact ⟨_,(true),(by first|rfl|(simp;done)|(simp [*];done)),H',⟨by have:=Xf.out;first|omega|exact Nat.le_refl _⟩,⟨by (with_reducible repeat (first|refine Ba ?_ _|refine Fa ?_|refine Ca ?_ _));exact oa.out⟩,⟨by repeat (first|(with_reducible first|exact HB.out|apply qa|apply ja|apply ta|refine ua ?_ Ta.out)|exact HB.out)⟩⟩
      ·replace lU:=Bool.eq_false_iff.mpr lU;subst lU;have H1:(Wa.j1 k1 true Ra La Ja Ma Aa)=some r:=by rw [if_neg (show ¬ (false=true) by decide)] at H;exact H
       clear H;have H:=H1;clear H1;have H':=ga.mk H;clear H;have Pv:wr.cell? ⟨ya,0,none⟩=some (.slice Xa Ra.length Ya):=(ia oa.out 0).trans rfl;have Ov:wr.cell? ⟨ya,1,none⟩=some (.int .i64 La):=(ia oa.out 1).trans rfl;have Nv:wr.cell? ⟨ya,2,none⟩=some (.int .i64 Ja):=(ia oa.out 2).trans rfl;have Mv:wr.cell? ⟨ya,3,none⟩=some (.int .i64 Ma):=(ia oa.out 3).trans rfl;have Lv:wr.cell? ⟨ya,4,none⟩=some (.slice Mb Aa.length Fb):=(ia oa.out 4).trans rfl;have cv:=aa oa.out 0;have av:=aa oa.out 1;have Zu:=aa oa.out 2;have Yu:=aa oa.out 3;have Xu:=aa oa.out 4;go_wp2_with (first|((with_reducible refine mb (f:=53) rfl ?_);refine Fc (some 23) rfl rfl Try.func53 (by kernel_rfl) rfl #[.int .i64 (Ra.length:Int),.int .i64 1,.int .i64 4] rfl (by (try simp only [List.map_toArray,List.map_cons,List.map_nil]);first|done|rfl|(simp only [List.length_drop,List.length_take];rfl)) ?_;(with_reducible refine (Za.calls (Ra.length:Int) 1 4 true _ vR.out).mono ?_);rintro e w' ⟨rfl,⟨nd,rfl⟩⟩;refine ⟨_,rfl,?_⟩)|(go_at_call 53;(with_reducible refine (Za.calls Ja 0 20 false _ A13.out).mono ?_);rintro e w' ⟨rfl,⟨nd,rfl⟩⟩))
       go_meet
       case rel=>exact ⟨_,(true),(by first|rfl|(simp;done)|(simp [*];done)),H',⟨by have:=Xf.out;first|omega|exact Nat.le_refl _⟩,⟨by (with_reducible repeat (first|refine Ba ?_ _|refine Fa ?_|refine Ca ?_ _));exact oa.out⟩,⟨by repeat (first|(with_reducible first|exact HB.out|apply qa|apply ja|apply ta|refine ua ?_ Ta.out)|exact HB.out)⟩⟩
     ·replace wu:=Bool.eq_false_iff.mpr wu;subst wu;have H1:(Wa.j1 k1 true Ra La Ja Ma Aa)=some r:=by rw [if_neg (show ¬ (false=true) by decide)] at H;exact H
      clear H;have H:=H1;clear H1;have H':=ga.mk H;clear H;have Kv:wr.cell? ⟨ya,0,none⟩=some (.slice Xa Ra.length Ya):=(ia oa.out 0).trans rfl;have Jv:wr.cell? ⟨ya,1,none⟩=some (.int .i64 La):=(ia oa.out 1).trans rfl;have Iv:wr.cell? ⟨ya,2,none⟩=some (.int .i64 Ja):=(ia oa.out 2).trans rfl;have Hv:wr.cell? ⟨ya,3,none⟩=some (.int .i64 Ma):=(ia oa.out 3).trans rfl;have Gv:wr.cell? ⟨ya,4,none⟩=some (.slice Mb Aa.length Fb):=(ia oa.out 4).trans rfl;have Wu:=aa oa.out 0;have Vu:=aa oa.out 1;have Uu:=aa oa.out 2;have Tu:=aa oa.out 3;have Su:=aa oa.out 4;go_wp2_with (first|((with_reducible refine mb (f:=53) rfl ?_);refine Fc (some 23) rfl rfl Try.func53 (by kernel_rfl) rfl #[.int .i64 (Ra.length:Int),.int .i64 1,.int .i64 4] rfl (by (try simp only [List.map_toArray,List.map_cons,List.map_nil]);first|done|rfl|(simp only [List.length_drop,List.length_take];rfl)) ?_;(with_reducible refine (Za.calls (Ra.length:Int) 1 4 false _ vR.out).mono ?_);rintro e w' ⟨rfl,⟨nd,rfl⟩⟩;refine ⟨_,rfl,?_⟩))
      go_meet
      case rel=>exact ⟨_,(true),(by first|rfl|(simp;done)|(simp [*];done)),H',⟨by have:=Xf.out;first|omega|exact Nat.le_refl _⟩,⟨by (with_reducible repeat (first|refine Ba ?_ _|refine Fa ?_|refine Ca ?_ _));exact oa.out⟩,⟨by repeat (first|(with_reducible first|exact HB.out|apply qa|apply ja|apply ta|refine ua ?_ Ta.out)|exact HB.out)⟩⟩
    case rest =>
     clear HC9
     try clear c1
     try clear p1
     try clear q1
     try clear hx1
     try clear c2
     try clear p2
     try clear c3
     try clear Vg
     try clear c4
     try clear cj
     try clear c5
     try clear c6
     try clear p6
     try clear yK
     try clear sK
     try clear caa
     try clear wu
     try clear lU
     try clear sI
     try clear Qp
     try clear Dp
     try clear Np
     try clear Yh
     try clear Xh
     try clear Wh
     try clear Vh
     try clear Uh
     try clear Zv
     try clear Yv
     try clear Xv
     try clear Wv
     try clear Vv
     try clear Uv
     try clear Tv
     try clear Sv
     try clear Rv
     try clear Qv
     try clear Aq
     try clear zq
     try clear yq
     try clear xq
     try clear wq
     try clear Vs
     try clear Us
     try clear Ts
     try clear Ss
     try clear Rs
     try clear Pv
     try clear Ov
     try clear Nv
     try clear Mv
     try clear Lv
     try clear Kv
     try clear Jv
     try clear Iv
     try clear Hv
     try clear Gv
     try clear Ms
     try clear Ls
     try clear Ks
     try clear Js
     try clear Hs
     try clear su
     try clear ru
     try clear qu
     try clear ou
     try clear nu
     try clear Th
     try clear Sh
     try clear Rh
     try clear Qh
     try clear Ph
     try clear zv
     try clear wv
     try clear vv
     try clear uv
     try clear tv
     try clear qv
     try clear ov
     try clear nv
     try clear jv
     try clear gv
     try clear fq
     try clear cq
     try clear bq
     try clear aq
     try clear Zp
     try clear Bs
     try clear js
     try clear Zr
     try clear Yr
     try clear Xr
     try clear cv
     try clear av
     try clear Zu
     try clear Yu
     try clear Xu
     try clear Wu
     try clear Vu
     try clear Uu
     try clear Tu
     try clear Su
     try clear Ur
     try clear Tr
     try clear Sr
     try clear Qr
     try clear Pr
     try clear lu
     try clear ku
     try clear ju
     try clear iu
     try clear gu
     try clear bf
     try clear ah
     try clear p2
     try clear Zg
     obtain ⟨kq,PL,rfl,HA,HJ8,oa,HB⟩:=hcut;cases kq with
     | zero=>exact absurd HA.out (by simp [Wa.j1])
     | succ kj8 =>
      have H:=HA.out;clear HA;simp only [Wa.j1] at H
      by_cases hU:PL=true
      ·subst hU;have H1:(some false)=some r:=by rw [if_pos rfl] at H;exact H
       clear H;have H:=H1;clear H1;obtain rfl:=Option.some.inj H;go_wp2;go_ret;exact ⟨by first|rfl|(simp [Oa,Na] <;> rfl)|(simp [*,Oa,Na] <;> rfl),by repeat (first|(with_reducible first|exact HB.out|apply qa|apply ja|apply ta|refine ua ?_ Ta.out)|exact HB.out)⟩
      ·replace hU:=Bool.eq_false_iff.mpr hU;subst hU;have H1:(Wa.l1 kj8 0 0 Ra La Ja Ma Aa)=some r:=by rw [if_neg (show ¬ (false=true) by decide)] at H;exact H
       clear H;have H:=H1;clear H1;have H':=ga.mk H;clear H;go_wp2
       go_loopg [4,5] kj8 (fun kq v4 v5 w'=>∃ (eF:Int) (Ue:Int),v4 = .int .i64 eF∧v5 = .int .i64 Ue∧ga (Wa.l1 kq eF Ue Ra La Ja Ma Aa=some r)∧ga (kq ≤ kj8)∧ga (w'.heap[ya]? = some (.cells #[(.slice Xa Ra.length Ya),.int .i64 La,.int .i64 Ja,.int .i64 Ma,(.slice Mb Aa.length Fb)] 30 (0,0)))∧ga (Below w.heap.size w w'))
       case atStart=>exact ⟨(0),(0),(by first|rfl|(simp;done)|(simp [*];done)),(by first|rfl|(simp;done)|(simp [*];done)),H',⟨Nat.le_refl _⟩,⟨by (with_reducible repeat (first|refine Ba ?_ _|refine Fa ?_|refine Ca ?_ _));exact oa.out⟩,⟨by repeat (first|(with_reducible first|exact HB.out|apply qa|apply ja|apply ta|refine ua ?_ Ta.out)|exact HB.out)⟩⟩
       case round =>
        clear H'
        try clear c1
        try clear p1
        try clear q1
        try clear hx1
        try clear c2
        try clear p2
        try clear c3
        try clear Vg
        try clear c4
        try clear cj
        try clear c5
        try clear c6
        try clear p6
        try clear yK
        try clear sK
        try clear caa
        try clear wu
        try clear lU
        try clear sI
        try clear Qp
        try clear Dp
        try clear Np
        try clear hU
        try clear Yh
        try clear Xh
        try clear Wh
        try clear Vh
        try clear Uh
        try clear Zv
        try clear Yv
        try clear Xv
        try clear Wv
        try clear Vv
        try clear Uv
        try clear Tv
        try clear Sv
        try clear Rv
        try clear Qv
        try clear Aq
        try clear zq
        try clear yq
        try clear xq
        try clear wq
        try clear Vs
        try clear Us
        try clear Ts
        try clear Ss
        try clear Rs
        try clear Pv
        try clear Ov
        try clear Nv
        try clear Mv
        try clear Lv
        try clear Kv
        try clear Jv
        try clear Iv
        try clear Hv
        try clear Gv
        try clear Ms
        try clear Ls
        try clear Ks
        try clear Js
        try clear Hs
        try clear su
        try clear ru
        try clear qu
        try clear ou
        try clear nu
        try clear Th
        try clear Sh
        try clear Rh
        try clear Qh
        try clear Ph
        try clear zv
        try clear wv
        try clear vv
        try clear uv
        try clear tv
        try clear qv
        try clear ov
        try clear nv
        try clear jv
        try clear gv
        try clear fq
        try clear cq
        try clear bq
        try clear aq
        try clear Zp
        try clear Bs
        try clear js
        try clear Zr
        try clear Yr
        try clear Xr
        try clear cv
        try clear av
        try clear Zu
        try clear Yu
        try clear Xu
        try clear Wu
        try clear Vu
        try clear Uu
        try clear Tu
        try clear Su
        try clear Ur
        try clear Tr
        try clear Sr
        try clear Qr
        try clear Pr
        try clear lu
        try clear ku
        try clear ju
        try clear iu
        try clear gu
        try clear bf
        try clear p1
        try clear yK
        try clear ah
        try clear p2
        try clear p6
        try clear q1
        try clear sK
        try clear Zg
        (try clear HA);(try clear tC);(try clear oa);(try clear HB);obtain ⟨eF,Ue,rfl,rfl,HA,tC,oa,HB⟩:=hrel;cases gk with
        | zero=>exact absurd HA.out (by simp [Wa.l1])
        | succ k3 =>
         have H:=HA.out;clear HA;simp only [Wa.l1] at H
         by_cases i_:Ue < (Aa.length:Int)
         ·rw [if_pos i_] at H;have Oae:decide (Ue < (Aa.length:Int))=true:=decide_eq_true i_;clear i_
          by_cases XQ:0 ≤ Ue
          ·rw [if_pos XQ] at H;have wD:decide (0 ≤ Ue)=true:=decide_eq_true XQ;clear XQ
           by_cases YJ:(wrap64 (eF + (((Ea Aa Ue).f0).length:Int))) > 1000
           ·rw [if_pos YJ] at H;have kP:decide (1000 < (wrap64 (eF + (((Ea Aa Ue).f0).length:Int))))=true:=decide_eq_true YJ;clear YJ;obtain rfl:=Option.some.inj H;have jz:wr.cell? ⟨ya,0,none⟩=some (.slice Xa Ra.length Ya):=(ia oa.out 0).trans rfl;have iz:wr.cell? ⟨ya,1,none⟩=some (.int .i64 La):=(ia oa.out 1).trans rfl;have gz:wr.cell? ⟨ya,2,none⟩=some (.int .i64 Ja):=(ia oa.out 2).trans rfl;have fz:wr.cell? ⟨ya,3,none⟩=some (.int .i64 Ma):=(ia oa.out 3).trans rfl;have ez:wr.cell? ⟨ya,4,none⟩=some (.slice Mb Aa.length Fb):=(ia oa.out 4).trans rfl;have Py:=aa oa.out 0;have Oy:=aa oa.out 1;have Ny:=aa oa.out 2;have My:=aa oa.out 3;have Ly:=aa oa.out 4;have zo:0 ≤ (Ue:Int):=Ua;have xo:Ue < (Aa.length:Int):=Ua;obtain ⟨Ig,Lk,Fk,sD,ri,yj,xj,wj,uj,Nh,Oh⟩:=Vi wg.out Ue zo xo;cases sD;replace ri:=Sa HB.out ri;replace yj:=Sa HB.out yj;replace xj:=Sa HB.out xj;replace wj:=Sa HB.out wj;replace uj:=Sa HB.out uj;have Em:=ga.mk Oh;have nw:=ga.mk Nh;clear Oh Nh;replace zo:=eq_true zo;replace xo:=eq_true xo
            try go_wp2
            have yb:=ga.mk (Fa oa.out);have Ib:=ga.mk (ta HB.out);clear oa HB;have oa:=yb;have HB:=Ib;clear yb Ib;refine Km (n:=12) (S:=fun w'=>True) (ds:=[]) #[false,false,false,false,false,false,false,false,false,false,false,false] (by kernel_rfl) rfl rfl trivial (fun hHeld=>?_);refine jj Wa.ER Wa.AL (fun qg iw=>?_);generalize wr.drew=lR at oa HB hHeld ⊢;refine zd (i:=0) (N:=some 75) (v:=?_) (a':=?_) #[true,false,false,false,false,false,false,false,false,false,false,false] rfl rfl (Sc qg.out (by kernel_rfl)) (fun _ _ _ h=>h) (Or.inl ⟨by rfl,?_⟩) ?_ ?_;rotate_left
            ·intro w';go_simp;with_reducible rfl
            rotate_left
            ·simp only [Act.put,List.setIfInBounds_toArray,List.set_cons_zero,List.set_cons_succ,Zb,dc]
             rfl
            refine zd (i:=1) (N:=some 76) (v:=?_) (a':=?_) #[true,true,false,false,false,false,false,false,false,false,false,false] rfl rfl (Sc qg.out (by kernel_rfl)) (fun _ _ _ h=>h) (Or.inl ⟨by rfl,?_⟩) ?_ ?_;rotate_left
            ·intro w';go_simp;with_reducible rfl
            rotate_left
            ·simp only [Act.put,List.setIfInBounds_toArray,List.set_cons_zero,List.set_cons_succ,Zb,dc]
             rfl
            refine zd (i:=2) (N:=some 77) (v:=?_) (a':=?_) #[true,true,true,false,false,false,false,false,false,false,false,false] rfl rfl (Sc qg.out (by kernel_rfl)) (fun _ _ _ h=>h) (Or.inl ⟨by rfl,?_⟩) ?_ ?_;rotate_left
            ·intro w';go_simp;with_reducible rfl
            rotate_left
            ·simp only [Act.put,List.setIfInBounds_toArray,List.set_cons_zero,List.set_cons_succ,Zb,dc]
             rfl
            refine zd (i:=3) (N:=some 78) (v:=undef) (a':=?_) #[true,true,true,true,false,false,false,false,false,false,false,false] rfl rfl (Sc qg.out (by kernel_rfl)) (fun _ _ _ h=>h) (Or.inr ⟨by rfl,rfl⟩) ?_ ?_;rotate_left
            ·simp only [Act.put,List.setIfInBounds_toArray,List.set_cons_zero,List.set_cons_succ,Zb,dc]
             rfl
            refine zd (i:=4) (N:=some 79) (v:=undef) (a':=?_) #[true,true,true,true,true,false,false,false,false,false,false,false] rfl rfl (Sc qg.out (by kernel_rfl)) (fun _ _ _ h=>h) (Or.inr ⟨by rfl,rfl⟩) ?_ ?_;rotate_left
            ·simp only [Act.put,List.setIfInBounds_toArray,List.set_cons_zero,List.set_cons_succ,Zb,dc]
             rfl
            refine zd (i:=5) (N:=some 80) (v:=undef) (a':=?_) #[true,true,true,true,true,true,false,false,false,false,false,false] rfl rfl (Sc qg.out (by kernel_rfl)) (fun _ _ _ h=>h) (Or.inr ⟨by rfl,rfl⟩) ?_ ?_;rotate_left
            ·simp only [Act.put,List.setIfInBounds_toArray,List.set_cons_zero,List.set_cons_succ,Zb,dc]
             rfl
            refine zd (i:=6) (N:=some 81) (v:=undef) (a':=?_) #[true,true,true,true,true,true,true,false,false,false,false,false] rfl rfl (Sc qg.out (by kernel_rfl)) (fun _ _ _ h=>h) (Or.inr ⟨by rfl,rfl⟩) ?_ ?_;rotate_left
            ·simp only [Act.put,List.setIfInBounds_toArray,List.set_cons_zero,List.set_cons_succ,Zb,dc]
             rfl
            refine zd (i:=7) (N:=some 82) (v:=undef) (a':=?_) #[true,true,true,true,true,true,true,true,false,false,false,false] rfl rfl (Sc qg.out (by kernel_rfl)) (fun _ _ _ h=>h) (Or.inr ⟨by rfl,rfl⟩) ?_ ?_;rotate_left
            ·simp only [Act.put,List.setIfInBounds_toArray,List.set_cons_zero,List.set_cons_succ,Zb,dc]
             rfl
            refine zd (i:=8) (N:=some 83) (v:=undef) (a':=?_) #[true,true,true,true,true,true,true,true,true,false,false,false] rfl rfl (Sc qg.out (by kernel_rfl)) (fun _ _ _ h=>h) (Or.inr ⟨by rfl,rfl⟩) ?_ ?_;rotate_left
            ·simp only [Act.put,List.setIfInBounds_toArray,List.set_cons_zero,List.set_cons_succ,Zb,dc]
             rfl
            refine zd (i:=9) (N:=some 84) (v:=undef) (a':=?_) #[true,true,true,true,true,true,true,true,true,true,false,false] rfl rfl (Sc qg.out (by kernel_rfl)) (fun _ _ _ h=>h) (Or.inr ⟨by rfl,rfl⟩) ?_ ?_;rotate_left
            ·simp only [Act.put,List.setIfInBounds_toArray,List.set_cons_zero,List.set_cons_succ,Zb,dc]
             rfl
            refine zd (i:=10) (N:=some 85) (v:=undef) (a':=?_) #[true,true,true,true,true,true,true,true,true,true,true,false] rfl rfl (Sc qg.out (by kernel_rfl)) (fun _ _ _ h=>h) (Or.inr ⟨by rfl,rfl⟩) ?_ ?_;rotate_left
            ·simp only [Act.put,List.setIfInBounds_toArray,List.set_cons_zero,List.set_cons_succ,Zb,dc]
             rfl
            refine zd (i:=11) (N:=some 86) (v:=?_) (a':=?_) #[true,true,true,true,true,true,true,true,true,true,true,true] rfl rfl (Sc qg.out (by kernel_rfl)) (fun _ _ _ h=>h) (Or.inl ⟨by rfl,?_⟩) ?_ ?_;rotate_left
            ·intro w';go_simp;with_reducible rfl
            rotate_left
            ·simp only [Act.put,List.setIfInBounds_toArray,List.set_cons_zero,List.set_cons_succ,Zb,dc]
             rfl
            refine jr (Cn qg.out (by kernel_rfl)) ?_
            try go_wp2
            go_ret;exact ⟨by first|rfl|(simp [Oa,Na] <;> rfl)|(simp [*,Oa,Na] <;> rfl),by repeat (first|(with_reducible first|exact HB.out|apply qa|apply ja|apply ta|refine ua ?_ Ta.out)|exact HB.out)⟩
           ·rw [if_neg YJ] at H;have kP:decide (1000 < (wrap64 (eF + (((Ea Aa Ue).f0).length:Int))))=false:=decide_eq_false YJ;clear YJ;replace H:=Option.bind_eq_some_iff.mp H;obtain ⟨t111,bah,H⟩:=H;replace H:(if t111=true then (Wa.l1 k3 (wrap64 (eF + (((Ea Aa Ue).f0).length:Int))) (wrap64 (Ue + 1)) Ra La Ja Ma Aa) else (some false))=some r:=H;have A33:=ga.mk bah;clear bah
            by_cases DJ:t111=true
            ·subst DJ;have H1:(Wa.l1 k3 (wrap64 (eF + (((Ea Aa Ue).f0).length:Int))) (wrap64 (Ue + 1)) Ra La Ja Ma Aa)=some r:=by rw [if_pos rfl] at H;exact H
             clear H;have H:=H1;clear H1;have H':=ga.mk H;clear H;have uO:wr.cell? ⟨ya,0,none⟩=some (.slice Xa Ra.length Ya):=(ia oa.out 0).trans rfl;have tO:wr.cell? ⟨ya,1,none⟩=some (.int .i64 La):=(ia oa.out 1).trans rfl;have sO:wr.cell? ⟨ya,2,none⟩=some (.int .i64 Ja):=(ia oa.out 2).trans rfl;have rO:wr.cell? ⟨ya,3,none⟩=some (.int .i64 Ma):=(ia oa.out 3).trans rfl;have qO:wr.cell? ⟨ya,4,none⟩=some (.slice Mb Aa.length Fb):=(ia oa.out 4).trans rfl;have mN:=aa oa.out 0;have lN:=aa oa.out 1;have kN:=aa oa.out 2;have jN:=aa oa.out 3;have iN:=aa oa.out 4;have zo:0 ≤ (Ue:Int):=Ua;have xo:Ue < (Aa.length:Int):=Ua;obtain ⟨Ig,Lk,Fk,sD,ri,yj,xj,wj,uj,Nh,Oh⟩:=Vi wg.out Ue zo xo;cases sD;replace ri:=Sa HB.out ri;replace yj:=Sa HB.out yj;replace xj:=Sa HB.out xj;replace wj:=Sa HB.out wj;replace uj:=Sa HB.out uj;have Em:=ga.mk Oh;have nw:=ga.mk Nh;clear Oh Nh;replace zo:=eq_true zo;replace xo:=eq_true xo
             try go_wp2
             have yb:=ga.mk (Fa oa.out);have Ib:=ga.mk (ta HB.out);clear oa HB;have oa:=yb;have HB:=Ib;clear yb Ib;have vK:0 ≤ (Ue:Int):=Ua;have pK:Ue < (Aa.length:Int):=Ua;obtain ⟨tU,QD,zD,V6,Jo,Io,Ho,Fo,Eo,Cy,Fy⟩:=Vi wg.out Ue vK pK;have Ux:=Eo;have Vx:=Fo;have Wx:=Ho;have Xx:=Io;have Yx:=Jo;obtain rfl:Ig=tU:=(by injection V6);replace Jo:=Sa HB.out Jo;replace Io:=Sa HB.out Io;replace Ho:=Sa HB.out Ho;replace Fo:=Sa HB.out Fo;replace Eo:=Sa HB.out Eo;have Fz:=ga.mk Fy;have cI:=ga.mk Cy;clear Fy Cy;replace vK:=eq_true vK;replace pK:=eq_true pK;refine Km (n:=12) (S:=fun w'=>w'.cell? ⟨ya,0,none⟩=some (.slice Xa Ra.length Ya)∧w'.cell? ⟨ya,1,none⟩=some (.int .i64 La)∧w'.cell? ⟨ya,2,none⟩=some (.int .i64 Ja)∧w'.cell? ⟨ya,3,none⟩=some (.int .i64 Ma)∧w'.cell? ⟨ya,4,none⟩=some (.slice (some Ig) Aa.length Fb)∧w'.cell? (Ig.add ((Ue).toNat * 5))=some (.slice QD ((Ea Aa Ue).f0).length zD)∧w'.cell? ⟨(Ig.add ((Ue).toNat * 5)).block,(Ig.add ((Ue).toNat * 5)).off + 1,none⟩=some (.int .i64 ((Ea Aa Ue).f1))∧w'.cell? ⟨(Ig.add ((Ue).toNat * 5)).block,(Ig.add ((Ue).toNat * 5)).off + 2,none⟩=some (.int .i64 ((Ea Aa Ue).f2))∧w'.cell? ⟨(Ig.add ((Ue).toNat * 5)).block,(Ig.add ((Ue).toNat * 5)).off + 3,none⟩=some (.int .i64 ((Ea Aa Ue).f3))∧w'.cell? ⟨(Ig.add ((Ue).toNat * 5)).block,(Ig.add ((Ue).toNat * 5)).off + 4,none⟩=some (.int .i64 ((Ea Aa Ue).f4))) (ds:=[]) #[false,false,false,false,false,false,false,false,false,false,false,false] (by kernel_rfl) rfl rfl ⟨(ia oa.out 0).trans rfl,(ia oa.out 1).trans rfl,(ia oa.out 2).trans rfl,(ia oa.out 3).trans rfl,(ia oa.out 4).trans rfl,(Sa HB.out Yx),(Sa HB.out Xx),(Sa HB.out Wx),(Sa HB.out Vx),(Sa HB.out Ux)⟩ (fun hHeld=>?_);refine jj Wa.ER Wa.AL (fun qg iw=>?_);generalize wr.drew=yC at oa HB Fz Jo Io Ho Fo Eo hHeld ⊢;refine zd (i:=0) (N:=some 75) (v:=?_) (a':=?_) #[true,false,false,false,false,false,false,false,false,false,false,false] rfl rfl (Sc qg.out (by kernel_rfl)) (fun _ _ _ h=>h) (Or.inl ⟨by rfl,?_⟩) ?_ ?_;rotate_left
             ·intro w';go_simp;with_reducible rfl
             rotate_left
             ·simp only [Act.put,List.setIfInBounds_toArray,List.set_cons_zero,List.set_cons_succ,Zb,dc]
              rfl
             refine zd (i:=1) (N:=some 76) (v:=?_) (a':=?_) #[true,true,false,false,false,false,false,false,false,false,false,false] rfl rfl (Sc qg.out (by kernel_rfl)) (fun _ _ _ h=>h) (Or.inl ⟨by rfl,?_⟩) ?_ ?_;rotate_left
             ·intro w';go_simp;with_reducible rfl
             rotate_left
             ·simp only [Act.put,List.setIfInBounds_toArray,List.set_cons_zero,List.set_cons_succ,Zb,dc]
              rfl
             refine zd (i:=2) (N:=some 77) (v:=?_) (a':=?_) #[true,true,true,false,false,false,false,false,false,false,false,false] rfl rfl (Sc qg.out (by kernel_rfl)) (fun _ _ _ h=>h) (Or.inl ⟨by rfl,?_⟩) ?_ ?_;rotate_left
             ·intro w';go_simp;with_reducible rfl
             rotate_left
             ·simp only [Act.put,List.setIfInBounds_toArray,List.set_cons_zero,List.set_cons_succ,Zb,dc]
              rfl
             refine zd (i:=4) (N:=some 79) (v:=?_) (a':=?_) #[true,true,true,false,true,false,false,false,false,false,false,false] rfl rfl (Sc qg.out (by kernel_rfl)) (fun _ _ _ h=>h) (Or.inl ⟨by rfl,?_⟩) ?_ ?_;rotate_left
             ·intro w';go_simp;with_reducible rfl
             rotate_left
             ·simp only [Act.put,List.setIfInBounds_toArray,List.set_cons_zero,List.set_cons_succ,Zb,dc]
              rfl
             refine zd (i:=6) (N:=some 81) (v:=?_) (a':=?_) #[true,true,true,false,true,false,true,false,false,false,false,false] rfl rfl (Sc qg.out (by kernel_rfl)) (fun _ _ _ h=>h) (Or.inl ⟨by rfl,?_⟩) ?_ ?_;rotate_left
             ·intro w';go_simp;with_reducible rfl
             rotate_left
             ·simp only [Act.put,List.setIfInBounds_toArray,List.set_cons_zero,List.set_cons_succ,Zb,dc]
              rfl
             refine Ug (i:=3) (N:=some 78) (v:=?_) (a':=?_) #[true,true,true,true,true,false,true,false,false,false,false,false] rfl rfl (Gf qg.out iw.out (by kernel_rfl)) (fun _ _ _ h=>h) (Or.inl ⟨by rfl,?_⟩) hHeld ?_ ?_;rotate_left
             ·rintro w' ⟨s0,s1,s2,s3,s4,s5,s6,s7,s8,s9⟩;go_simp;with_reducible rfl
             rotate_left
             ·simp only [Act.put,List.setIfInBounds_toArray,List.set_cons_zero,List.set_cons_succ,Zb,dc]
              rfl
             refine Ug (i:=5) (N:=some 80) (v:=?_) (a':=?_) #[true,true,true,true,true,true,true,false,false,false,false,false] rfl rfl (Gf qg.out iw.out (by kernel_rfl)) (fun _ _ _ h=>h) (Or.inl ⟨by rfl,?_⟩) hHeld ?_ ?_;rotate_left
             ·rintro w' ⟨s0,s1,s2,s3,s4,s5,s6,s7,s8,s9⟩;go_simp;with_reducible rfl
             rotate_left
             ·simp only [Act.put,List.setIfInBounds_toArray,List.set_cons_zero,List.set_cons_succ,Zb,dc]
              rfl
             refine zd (i:=7) (N:=some 82) (v:=?_) (a':=?_) #[true,true,true,true,true,true,true,true,false,false,false,false] rfl rfl (Sc qg.out (by kernel_rfl)) (fun _ _ _ h=>h) (Or.inl ⟨by rfl,?_⟩) ?_ ?_;rotate_left
             ·intro w';go_simp;with_reducible rfl
             rotate_left
             ·simp only [Act.put,List.setIfInBounds_toArray,List.set_cons_zero,List.set_cons_succ,Zb,dc]
              rfl
             refine Ug (i:=8) (N:=some 83) (v:=?_) (a':=?_) #[true,true,true,true,true,true,true,true,true,false,false,false] rfl rfl (Gf qg.out iw.out (by kernel_rfl)) (fun _ _ _ h=>h) (Or.inl ⟨by rfl,?_⟩) hHeld ?_ ?_;rotate_left
             ·rintro w' ⟨s0,s1,s2,s3,s4,s5,s6,s7,s8,s9⟩;go_simp;with_reducible rfl
             rotate_left
             ·simp only [Act.put,List.setIfInBounds_toArray,List.set_cons_zero,List.set_cons_succ,Zb,dc]
              rfl
             refine Qw (i:=9) (N:=some 84) #[true,true,true,true,true,true,true,true,true,true,false,false] rfl rfl (Mr qg.out (by kernel_rfl)) (by decide) (fun K hK=>?_);refine Et Try.func71 (by kernel_rfl) rfl #[.agg #[.slice Xa Ra.length Ya,.int .i64 La,.int .i64 Ja,.int .i64 Ma,.slice (some Ig) Aa.length Fb],.agg #[.slice QD ((Ea Aa Ue).f0).length zD,.int .i64 ((Ea Aa Ue).f1),.int .i64 ((Ea Aa Ue).f2),.int .i64 ((Ea Aa Ue).f3),.int .i64 ((Ea Aa Ue).f4)]] (by rfl) rfl rfl (by (try simp only [List.map_toArray,List.map_cons,List.map_nil]);first|done|rfl|(simp only [List.length_drop,List.length_take];rfl)) ?_;with_reducible refine (ic.calls k3 _ _ Ra La Ja Ma _ _ Aa _ _ ((Ea Aa Ue).f0) ((Ea Aa Ue).f1) ((Ea Aa Ue).f2) ((Ea Aa Ue).f3) ((Ea Aa Ue).f4) true _ ?yc ?uc ?Gd ?Ed ?Cx ?Bx A33.out).mono ?_
             (case yc=>repeat (first|exact (Kd.Jb Ye.out HB.out)|(with_reducible refine Kd.Rb ?_ _)|(with_reducible refine Kd.Qb ?_ _)|(with_reducible refine Kd.Yb ?_)))
             (case uc=>exact gf.out)
             (case Gd=>repeat (first|exact (Kd.Jb wg.out HB.out)|(with_reducible refine Kd.Rb ?_ _)|(with_reducible refine Kd.Qb ?_ _)|(with_reducible refine Kd.Yb ?_)))
             (case Ed=>exact ei.out)
             (case Cx=>repeat (first|exact (Kd.Jb Fz.out HB.out)|(with_reducible refine Kd.Rb ?_ _)|(with_reducible refine Kd.Qb ?_ _)|(with_reducible refine Kd.Yb ?_)))
             (case Bx=>exact cI.out)
             rintro e CV ⟨rfl,hb⟩;refine ⟨_,rfl,?_⟩;have yb:=ga.mk (Va (g:=ya) (o:=.cells #[.slice Xa Ra.length Ya,.int .i64 La,.int .i64 Ja,.int .i64 Ma,.slice (some Ig) Aa.length Fb] 30 (0,0)) (by (with_reducible repeat (first|refine Ba ?_ _|refine Fa ?_|refine Ca ?_ _));exact oa.out) hb);have Ib:=ga.mk (Qa (by repeat (first|(with_reducible first|exact HB.out|apply qa|apply ja|apply ta|refine ua ?_ Ta.out)|exact HB.out)) hb);clear oa HB;have oa:=yb;have HB:=Ib;clear yb Ib;(try clear hb);(try clear bk);(try clear hk);(try clear hi);refine hK.out _ _ ⟨(ia oa.out 0).trans rfl,(ia oa.out 1).trans rfl,(ia oa.out 2).trans rfl,(ia oa.out 3).trans rfl,(ia oa.out 4).trans rfl,(Sa HB.out Yx),(Sa HB.out Xx),(Sa HB.out Wx),(Sa HB.out Vx),(Sa HB.out Ux)⟩ (fun hHeld=>?_);clear hK K;refine xp (a':=?_) ?_ ?_;rotate_left
             ·show Act.put _ (some 84) _=_
              simp only [Act.put,List.setIfInBounds_toArray,List.set_cons_zero,List.set_cons_succ,Zb,dc]
              rfl
             refine zd (i:=10) (N:=some 85) (v:=?_) (a':=?_) #[true,true,true,true,true,true,true,true,true,true,true,false] rfl rfl (Sc qg.out (by kernel_rfl)) (fun _ _ _ h=>h) (Or.inl ⟨by rfl,?_⟩) ?_ ?_;rotate_left
             ·intro w';go_simp;with_reducible rfl
             rotate_left
             ·simp only [Act.put,List.setIfInBounds_toArray,List.set_cons_zero,List.set_cons_succ,Zb,dc]
              rfl
             refine zd (i:=11) (N:=some 86) (v:=?_) (a':=?_) #[true,true,true,true,true,true,true,true,true,true,true,true] rfl rfl (Sc qg.out (by kernel_rfl)) (fun _ _ _ h=>h) (Or.inl ⟨by rfl,?_⟩) ?_ ?_;rotate_left
             ·intro w';go_simp;with_reducible rfl
             rotate_left
             ·simp only [Act.put,List.setIfInBounds_toArray,List.set_cons_zero,List.set_cons_succ,Zb,dc]
              rfl
             refine jr (Cn qg.out (by kernel_rfl)) ?_
             try go_wp2
             go_roundg k3
             case measure=>have:=Xf.out;have:=HJ8.out;have:=tC.out;omega
             case rel=>exact ⟨(wrap64 (eF + (((Ea Aa Ue).f0).length:Int))),(wrap64 (Ue + 1)),(by first|rfl|(simp;done)|(simp [*];done)),(by first|rfl|(simp;done)|(simp [*];done)),H',⟨by have:=Xf.out;have:=HJ8.out;have:=tC.out;omega⟩,⟨by (with_reducible repeat (first|refine Ba ?_ _|refine Fa ?_|refine Ca ?_ _));exact oa.out⟩,⟨by repeat (first|(with_reducible first|exact HB.out|apply qa|apply ja|apply ta|refine ua ?_ Ta.out)|exact HB.out)⟩⟩
            ·replace DJ:=Bool.eq_false_iff.mpr DJ;subst DJ;have H1:(some false)=some r:=by rw [if_neg (show ¬ (false=true) by decide)] at H;exact H
             clear H;have H:=H1;clear H1;obtain rfl:=Option.some.inj H;have vH:wr.cell? ⟨ya,0,none⟩=some (.slice Xa Ra.length Ya):=(ia oa.out 0).trans rfl;have uH:wr.cell? ⟨ya,1,none⟩=some (.int .i64 La):=(ia oa.out 1).trans rfl;have tH:wr.cell? ⟨ya,2,none⟩=some (.int .i64 Ja):=(ia oa.out 2).trans rfl;have sH:wr.cell? ⟨ya,3,none⟩=some (.int .i64 Ma):=(ia oa.out 3).trans rfl;have rH:wr.cell? ⟨ya,4,none⟩=some (.slice Mb Aa.length Fb):=(ia oa.out 4).trans rfl;have zG:=aa oa.out 0;have yG:=aa oa.out 1;have xG:=aa oa.out 2;have wG:=aa oa.out 3;have vG:=aa oa.out 4;have zo:0 ≤ (Ue:Int):=Ua;have xo:Ue < (Aa.length:Int):=Ua;obtain ⟨Ig,Lk,Fk,sD,ri,yj,xj,wj,uj,Nh,Oh⟩:=Vi wg.out Ue zo xo;cases sD;replace ri:=Sa HB.out ri;replace yj:=Sa HB.out yj;replace xj:=Sa HB.out xj;replace wj:=Sa HB.out wj;replace uj:=Sa HB.out uj;have Em:=ga.mk Oh;have nw:=ga.mk Nh;clear Oh Nh;replace zo:=eq_true zo;replace xo:=eq_true xo
             try go_wp2
             have yb:=ga.mk (Fa oa.out);have Ib:=ga.mk (ta HB.out);clear oa HB;have oa:=yb;have HB:=Ib;clear yb Ib;have vK:0 ≤ (Ue:Int):=Ua;have pK:Ue < (Aa.length:Int):=Ua;obtain ⟨tU,QD,zD,V6,Jo,Io,Ho,Fo,Eo,Cy,Fy⟩:=Vi wg.out Ue vK pK;have Ux:=Eo;have Vx:=Fo;have Wx:=Ho;have Xx:=Io;have Yx:=Jo;obtain rfl:Ig=tU:=(by injection V6);replace Jo:=Sa HB.out Jo;replace Io:=Sa HB.out Io;replace Ho:=Sa HB.out Ho;replace Fo:=Sa HB.out Fo;replace Eo:=Sa HB.out Eo;have Fz:=ga.mk Fy;have cI:=ga.mk Cy;clear Fy Cy;replace vK:=eq_true vK;replace pK:=eq_true pK;refine Km (n:=12) (S:=fun w'=>w'.cell? ⟨ya,0,none⟩=some (.slice Xa Ra.length Ya)∧w'.cell? ⟨ya,1,none⟩=some (.int .i64 La)∧w'.cell? ⟨ya,2,none⟩=some (.int .i64 Ja)∧w'.cell? ⟨ya,3,none⟩=some (.int .i64 Ma)∧w'.cell? ⟨ya,4,none⟩=some (.slice (some Ig) Aa.length Fb)∧w'.cell? (Ig.add ((Ue).toNat * 5))=some (.slice QD ((Ea Aa Ue).f0).length zD)∧w'.cell? ⟨(Ig.add ((Ue).toNat * 5)).block,(Ig.add ((Ue).toNat * 5)).off + 1,none⟩=some (.int .i64 ((Ea Aa Ue).f1))∧w'.cell? ⟨(Ig.add ((Ue).toNat * 5)).block,(Ig.add ((Ue).toNat * 5)).off + 2,none⟩=some (.int .i64 ((Ea Aa Ue).f2))∧w'.cell? ⟨(Ig.add ((Ue).toNat * 5)).block,(Ig.add ((Ue).toNat * 5)).off + 3,none⟩=some (.int .i64 ((Ea Aa Ue).f3))∧w'.cell? ⟨(Ig.add ((Ue).toNat * 5)).block,(Ig.add ((Ue).toNat * 5)).off + 4,none⟩=some (.int .i64 ((Ea Aa Ue).f4))) (ds:=[]) #[false,false,false,false,false,false,false,false,false,false,false,false] (by kernel_rfl) rfl rfl ⟨(ia oa.out 0).trans rfl,(ia oa.out 1).trans rfl,(ia oa.out 2).trans rfl,(ia oa.out 3).trans rfl,(ia oa.out 4).trans rfl,(Sa HB.out Yx),(Sa HB.out Xx),(Sa HB.out Wx),(Sa HB.out Vx),(Sa HB.out Ux)⟩ (fun hHeld=>?_);refine jj Wa.ER Wa.AL (fun qg iw=>?_);generalize wr.drew=w39 at oa HB Fz Jo Io Ho Fo Eo hHeld ⊢;refine zd (i:=0) (N:=some 75) (v:=?_) (a':=?_) #[true,false,false,false,false,false,false,false,false,false,false,false] rfl rfl (Sc qg.out (by kernel_rfl)) (fun _ _ _ h=>h) (Or.inl ⟨by rfl,?_⟩) ?_ ?_;rotate_left
             ·intro w';go_simp;with_reducible rfl
             rotate_left
             ·simp only [Act.put,List.setIfInBounds_toArray,List.set_cons_zero,List.set_cons_succ,Zb,dc]
              rfl
             refine zd (i:=1) (N:=some 76) (v:=?_) (a':=?_) #[true,true,false,false,false,false,false,false,false,false,false,false] rfl rfl (Sc qg.out (by kernel_rfl)) (fun _ _ _ h=>h) (Or.inl ⟨by rfl,?_⟩) ?_ ?_;rotate_left
             ·intro w';go_simp;with_reducible rfl
             rotate_left
             ·simp only [Act.put,List.setIfInBounds_toArray,List.set_cons_zero,List.set_cons_succ,Zb,dc]
              rfl
             refine zd (i:=2) (N:=some 77) (v:=?_) (a':=?_) #[true,true,true,false,false,false,false,false,false,false,false,false] rfl rfl (Sc qg.out (by kernel_rfl)) (fun _ _ _ h=>h) (Or.inl ⟨by rfl,?_⟩) ?_ ?_;rotate_left
             ·intro w';go_simp;with_reducible rfl
             rotate_left
             ·simp only [Act.put,List.setIfInBounds_toArray,List.set_cons_zero,List.set_cons_succ,Zb,dc]
              rfl
             refine zd (i:=4) (N:=some 79) (v:=?_) (a':=?_) #[true,true,true,false,true,false,false,false,false,false,false,false] rfl rfl (Sc qg.out (by kernel_rfl)) (fun _ _ _ h=>h) (Or.inl ⟨by rfl,?_⟩) ?_ ?_;rotate_left
             ·intro w';go_simp;with_reducible rfl
             rotate_left
             ·simp only [Act.put,List.setIfInBounds_toArray,List.set_cons_zero,List.set_cons_succ,Zb,dc]
              rfl
             refine zd (i:=6) (N:=some 81) (v:=?_) (a':=?_) #[true,true,true,false,true,false,true,false,false,false,false,false] rfl rfl (Sc qg.out (by kernel_rfl)) (fun _ _ _ h=>h) (Or.inl ⟨by rfl,?_⟩) ?_ ?_;rotate_left
             ·intro w';go_simp;with_reducible rfl
             rotate_left
             ·simp only [Act.put,List.setIfInBounds_toArray,List.set_cons_zero,List.set_cons_succ,Zb,dc]
              rfl
             refine Ug (i:=3) (N:=some 78) (v:=?_) (a':=?_) #[true,true,true,true,true,false,true,false,false,false,false,false] rfl rfl (Gf qg.out iw.out (by kernel_rfl)) (fun _ _ _ h=>h) (Or.inl ⟨by rfl,?_⟩) hHeld ?_ ?_;rotate_left
             ·rintro w' ⟨s0,s1,s2,s3,s4,s5,s6,s7,s8,s9⟩;go_simp;with_reducible rfl
             rotate_left
             ·simp only [Act.put,List.setIfInBounds_toArray,List.set_cons_zero,List.set_cons_succ,Zb,dc]
              rfl
             refine Ug (i:=5) (N:=some 80) (v:=?_) (a':=?_) #[true,true,true,true,true,true,true,false,false,false,false,false] rfl rfl (Gf qg.out iw.out (by kernel_rfl)) (fun _ _ _ h=>h) (Or.inl ⟨by rfl,?_⟩) hHeld ?_ ?_;rotate_left
             ·rintro w' ⟨s0,s1,s2,s3,s4,s5,s6,s7,s8,s9⟩;go_simp;with_reducible rfl
             rotate_left
             ·simp only [Act.put,List.setIfInBounds_toArray,List.set_cons_zero,List.set_cons_succ,Zb,dc]
              rfl
             refine zd (i:=7) (N:=some 82) (v:=?_) (a':=?_) #[true,true,true,true,true,true,true,true,false,false,false,false] rfl rfl (Sc qg.out (by kernel_rfl)) (fun _ _ _ h=>h) (Or.inl ⟨by rfl,?_⟩) ?_ ?_;rotate_left
             ·intro w';go_simp;with_reducible rfl
             rotate_left
             ·simp only [Act.put,List.setIfInBounds_toArray,List.set_cons_zero,List.set_cons_succ,Zb,dc]
              rfl
             refine Ug (i:=8) (N:=some 83) (v:=?_) (a':=?_) #[true,true,true,true,true,true,true,true,true,false,false,false] rfl rfl (Gf qg.out iw.out (by kernel_rfl)) (fun _ _ _ h=>h) (Or.inl ⟨by rfl,?_⟩) hHeld ?_ ?_;rotate_left
             ·rintro w' ⟨s0,s1,s2,s3,s4,s5,s6,s7,s8,s9⟩;go_simp;with_reducible rfl
             rotate_left
             ·simp only [Act.put,List.setIfInBounds_toArray,List.set_cons_zero,List.set_cons_succ,Zb,dc]
              rfl
             refine Qw (i:=9) (N:=some 84) #[true,true,true,true,true,true,true,true,true,true,false,false] rfl rfl (Mr qg.out (by kernel_rfl)) (by decide) (fun K hK=>?_);refine Et Try.func71 (by kernel_rfl) rfl #[.agg #[.slice Xa Ra.length Ya,.int .i64 La,.int .i64 Ja,.int .i64 Ma,.slice (some Ig) Aa.length Fb],.agg #[.slice QD ((Ea Aa Ue).f0).length zD,.int .i64 ((Ea Aa Ue).f1),.int .i64 ((Ea Aa Ue).f2),.int .i64 ((Ea Aa Ue).f3),.int .i64 ((Ea Aa Ue).f4)]] (by rfl) rfl rfl (by (try simp only [List.map_toArray,List.map_cons,List.map_nil]);first|done|rfl|(simp only [List.length_drop,List.length_take];rfl)) ?_;with_reducible refine (ic.calls k3 _ _ Ra La Ja Ma _ _ Aa _ _ ((Ea Aa Ue).f0) ((Ea Aa Ue).f1) ((Ea Aa Ue).f2) ((Ea Aa Ue).f3) ((Ea Aa Ue).f4) false _ ?yc ?uc ?Gd ?Ed ?Cx ?Bx A33.out).mono ?_
             (case yc=>repeat (first|exact (Kd.Jb Ye.out HB.out)|(with_reducible refine Kd.Rb ?_ _)|(with_reducible refine Kd.Qb ?_ _)|(with_reducible refine Kd.Yb ?_)))
             (case uc=>exact gf.out)
             (case Gd=>repeat (first|exact (Kd.Jb wg.out HB.out)|(with_reducible refine Kd.Rb ?_ _)|(with_reducible refine Kd.Qb ?_ _)|(with_reducible refine Kd.Yb ?_)))
             (case Ed=>exact ei.out)
             (case Cx=>repeat (first|exact (Kd.Jb Fz.out HB.out)|(with_reducible refine Kd.Rb ?_ _)|(with_reducible refine Kd.Qb ?_ _)|(with_reducible refine Kd.Yb ?_)))
             (case Bx=>exact cI.out)
             rintro e w40 ⟨rfl,hb⟩;refine ⟨_,rfl,?_⟩;have yb:=ga.mk (Va (g:=ya) (o:=.cells #[.slice Xa Ra.length Ya,.int .i64 La,.int .i64 Ja,.int .i64 Ma,.slice (some Ig) Aa.length Fb] 30 (0,0)) (by (with_reducible repeat (first|refine Ba ?_ _|refine Fa ?_|refine Ca ?_ _));exact oa.out) hb);have Ib:=ga.mk (Qa (by repeat (first|(with_reducible first|exact HB.out|apply qa|apply ja|apply ta|refine ua ?_ Ta.out)|exact HB.out)) hb);clear oa HB;have oa:=yb;have HB:=Ib;clear yb Ib;(try clear hb);(try clear bk);(try clear hk);(try clear hi);refine hK.out _ _ ⟨(ia oa.out 0).trans rfl,(ia oa.out 1).trans rfl,(ia oa.out 2).trans rfl,(ia oa.out 3).trans rfl,(ia oa.out 4).trans rfl,(Sa HB.out Yx),(Sa HB.out Xx),(Sa HB.out Wx),(Sa HB.out Vx),(Sa HB.out Ux)⟩ (fun hHeld=>?_);clear hK K;refine xp (a':=?_) ?_ ?_;rotate_left
             ·show Act.put _ (some 84) _=_
              simp only [Act.put,List.setIfInBounds_toArray,List.set_cons_zero,List.set_cons_succ,Zb,dc]
              rfl
             refine zd (i:=10) (N:=some 85) (v:=?_) (a':=?_) #[true,true,true,true,true,true,true,true,true,true,true,false] rfl rfl (Sc qg.out (by kernel_rfl)) (fun _ _ _ h=>h) (Or.inl ⟨by rfl,?_⟩) ?_ ?_;rotate_left
             ·intro w';go_simp;with_reducible rfl
             rotate_left
             ·simp only [Act.put,List.setIfInBounds_toArray,List.set_cons_zero,List.set_cons_succ,Zb,dc]
              rfl
             refine zd (i:=11) (N:=some 86) (v:=?_) (a':=?_) #[true,true,true,true,true,true,true,true,true,true,true,true] rfl rfl (Sc qg.out (by kernel_rfl)) (fun _ _ _ h=>h) (Or.inl ⟨by rfl,?_⟩) ?_ ?_;rotate_left
             ·intro w';go_simp;with_reducible rfl
             rotate_left
             ·simp only [Act.put,List.setIfInBounds_toArray,List.set_cons_zero,List.set_cons_succ,Zb,dc]
              rfl
             refine jr (Cn qg.out (by kernel_rfl)) ?_
             try go_wp2
             go_ret;exact ⟨by first|rfl|(simp [Oa,Na] <;> rfl)|(simp [*,Oa,Na] <;> rfl),by repeat (first|(with_reducible first|exact HB.out|apply qa|apply ja|apply ta|refine ua ?_ Ta.out)|exact HB.out)⟩
          ·rw [if_neg XQ] at H;exact absurd H (by simp)
         ·rw [if_neg i_] at H;have Oae:decide (Ue < (Aa.length:Int))=false:=decide_eq_false i_;clear i_;obtain rfl:=Option.some.inj H;have fO:wr.cell? ⟨ya,0,none⟩=some (.slice Xa Ra.length Ya):=(ia oa.out 0).trans rfl;have eO:wr.cell? ⟨ya,1,none⟩=some (.int .i64 La):=(ia oa.out 1).trans rfl;have dO:wr.cell? ⟨ya,2,none⟩=some (.int .i64 Ja):=(ia oa.out 2).trans rfl;have cO:wr.cell? ⟨ya,3,none⟩=some (.int .i64 Ma):=(ia oa.out 3).trans rfl;have bO:wr.cell? ⟨ya,4,none⟩=some (.slice Mb Aa.length Fb):=(ia oa.out 4).trans rfl;have XM:=aa oa.out 0;have WM:=aa oa.out 1;have VM:=aa oa.out 2;have UM:=aa oa.out 3;have SM:=aa oa.out 4;go_wp2;go_ret;exact ⟨by first|rfl|(simp [Oa,Na] <;> rfl)|(simp [*,Oa,Na] <;> rfl),by repeat (first|(with_reducible first|exact HB.out|apply qa|apply ja|apply ta|refine ua ?_ Ta.out)|exact HB.out)⟩
end Go.Proofs.Ytkigbdceceeenaa.P
end
