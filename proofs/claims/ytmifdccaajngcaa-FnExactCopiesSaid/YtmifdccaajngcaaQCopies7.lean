import Derived.Test.YtmifdccaajngcaaQCopies1
import Derived.Test.YtmifdccaajngcaaQCopies6
import Derived.Test.YtmifdccaajngcaaQCopies5
set_option maxHeartbeats 8000000
set_option maxRecDepth 100000
section
namespace Go.Proofs.Ytmifdccaajngcaa.P
open Go.RowKit Go.Proofs.Oa.Rb Go.Proofs.Oa.Ee Go.Proofs.Oa.Wf
set_option linter.unusedVariables false
set_option linter.unusedSimpArgs false
attribute [local go_sem] xj uj Zk Yk ai Zh wj tj
def Xb.l0:Nat→Int→List Int→Int→Int→Int→List (Te)→List (ee)→Int→Int→Int→Int→Option (Bool)
 | 0,_,_,_,_,_,_,_,_,_,_,_=>none
 | k + 1,x5,Sd,ie,yd,Ld,Fc,ag,Gj,nk,Qi,Oi=>if x5 < (ag.length:Int) then (if 0 ≤ x5 then ((Ya.f k Sd ie yd Ld Fc ((Fa ag x5).f0) ((Fa ag x5).f1) ((Fa ag x5).f2) ((Fa ag x5).f3) ((Fa ag x5).f4) ((Fa ag x5).f5) ((Fa ag x5).f6)).bind fun t104=>(if t104=true then (Xb.l0 k (wrap64 (x5 + 1)) Sd ie yd Ld Fc ag Gj nk Qi Oi) else (some false))) else (none)) else ((Wa.f Qi 0 (wrap64 ((Fc.length:Int) - 1))).bind fun t105=>((Wa.f nk 0 (wrap64 (Ld - 1))).bind fun t106=>(if Gj=0 then (if t105=true then (if nk=0 then (some (Oi == 0)) else (some false)) else (some false)) else (if Gj=1 then (if t105=true then (if t106=true then ((Wa.f Oi 0 (wrap64 ((Fc.length:Int) - 1))).bind fun t107=>(some t107)) else (some false)) else (some false)) else (if Gj=2 then (if t106=true then (if Qi=0 then (some (Oi == 0)) else (some false)) else (some false)) else (some false))))))
def Xb.f (k:Nat) (Sa:List Int) (Pa:Int) (Na:Int) (Ma:Int) (La:List (Te)) (Dc:List (ee)) (Ob:Int) (Gb:Int) (Ib:Int) (fc:Int):Option (Bool):=Xb.l0 k 0 Sa Pa Na Ma La Dc Ob Gb Ib fc
def Xb.T4:Bool × List (List Nat × List Nat):=(true,[([],[]),([],[]),([1],[1]),([],[]),([2,3],[2,3]),([4],[4]),([0,5],[0,5]),([6],[6])])
def Xb.B4:List Nat:=[0,0,2,0,14,30,63,127]
theorem Xb.DZ:zm .any (opsOf Try.f87 4)=Xb.T4:=by kernel_rfl
theorem Xb.lV:Dm Xb.T4.2 Xb.B4=true:=by kernel_rfl
theorem Xb.calls (k:Nat) (xb:Option Addr) (qb:Nat) (Sa:List Int) (Pa:Int) (Na:Int) (Ma:Int) (Qb:Option Addr) (Fb:Nat) (La:List (Te)) (Ff:Option Addr) (kf:Nat) (Dc:List (ee)) (Ob:Int) (Gb:Int) (Ib:Int) (fc:Int) (r:Bool) (w:World) (zf:Kd.C (Kd.int .i64) w xb Sa.length Sa) (uf:Sa.length ≤ qb) (Ig:Kd.C Tk w Qb La.length La) (Cg:La.length ≤ Fb) (Ms:Kd.C Vh w Ff Dc.length Dc) (Qs:Dc.length ≤ kf) (h:Xb.f k Sa Pa Na Ma La Dc Ob Gb Ib fc=some r) :
  Calls Try.prog 87 #[.agg #[.slice xb Sa.length qb,.int .i64 Pa,.int .i64 Na,.int .i64 Ma,.slice Qb La.length Fb],.agg #[.slice Ff Dc.length kf,.int .i64 Ob,.int .i64 Gb,.int .i64 Ib,.int .i64 fc]] w fun e w'=>e = .returned (.bool r)∧Below w.heap.size w w':=by
 have ME:=Try.underlying30;have KE:=Try.underlying68;have JE:=Try.underlying70;have Qf:=ia.mk zf;have sg:=ia.mk uf;clear zf uf;have Dh:=ia.mk Ig;have Xj:=ia.mk Cg;clear Ig Cg;have Cm:=ia.mk Ms;have ko:=ia.mk Qs;clear Ms Qs;have HB:=ia.mk (Below.refl w.heap.size w);have H:(Xb.l0 k 0 Sa Pa Na Ma La Dc Ob Gb Ib fc)=some r:=h;clear h;have H':=ia.mk H;clear H;go_enter Try.func87,Try.ntmps87;go_wp2_with (first|((with_reducible refine Bb (N:=2) rfl ?_);(try (refine Fi (by rfl) ?_;dsimp only));refine Ab ?hg (N:=2) ?hd (cs:=#[.slice xb Sa.length qb,.int .i64 Pa,.int .i64 Na,.int .i64 Ma,.slice Qb La.length Fb]) (t:=30) ?hr ?_;(case hd=>rfl);(case hg=>rfl);(case hr=>first|(go_simp;done)|(go_simp;rfl));intro Da hg w3 Nb hb;have Kb:=ia.mk (Ra (by repeat (first|(with_reducible first|exact HB.out|apply oa|apply ja|apply qa)|exact HB.out)) hb);have Ub:=ia.mk (Nb);have yc:=ia.mk ((by rw [hg];exact (Qa (by repeat (first|(with_reducible first|exact HB.out|apply oa|apply ja|apply qa)|exact HB.out))):w.heap.size ≤ Da));have Tc:=ia.mk ((by rw [hg];exact (Qa (by repeat (first|(with_reducible first|exact HB.out|apply oa|apply ja|apply qa)|exact HB.out))):w.heap.size ≤ Da));clear HB;have HB:=Kb;have ta:=Ub;have Df:=yc;have Ua:=Tc;clear Kb Ub yc Tc hb Nb hg)|((with_reducible refine Bb (N:=3) rfl ?_);(try (refine Fi (by rfl) ?_;dsimp only));refine Ab ?hg (N:=3) ?hd (cs:=#[.slice Ff Dc.length kf,.int .i64 Ob,.int .i64 Gb,.int .i64 Ib,.int .i64 fc]) (t:=68) ?hr ?_;(case hd=>rfl);(case hg=>rfl);(case hr=>first|(go_simp;done)|(go_simp;rfl));intro Ga hg w4 Nb hb;have Kb:=ia.mk (Ta (g:=Da) (o:=.cells #[.slice xb Sa.length qb,.int .i64 Pa,.int .i64 Na,.int .i64 Ma,.slice Qb La.length Fb] 30 (0,0)) (by (with_reducible repeat (first|refine Aa ?_ _|refine Ca ?_|refine za ?_ _));exact ta.out) hb);have Ub:=ia.mk (Ra (by repeat (first|(with_reducible first|exact HB.out|apply oa|apply ja|apply qa|refine ua ?_ Ua.out)|exact HB.out)) hb);have yc:=ia.mk (Nb);have Tc:=ia.mk ((by rw [hg];exact (Qa (by repeat (first|(with_reducible first|exact HB.out|apply oa|apply ja|apply qa|refine ua ?_ Ua.out)|exact HB.out))):w.heap.size ≤ Ga));have tf:=ia.mk ((by rw [hg];exact (Qa (by repeat (first|(with_reducible first|exact HB.out|apply oa|apply ja|apply qa|refine ua ?_ Ua.out)|exact HB.out))):w.heap.size ≤ Ga));have Tf:=ia.mk ((by rw [hg];exact Nat.ne_of_lt (Wb (g:=Da) (o:=.cells #[.slice xb Sa.length qb,.int .i64 Pa,.int .i64 Na,.int .i64 Ma,.slice Qb La.length Fb] 30 (0,0)) (by (with_reducible repeat (first|refine Aa ?_ _|refine Ca ?_|refine za ?_ _));exact ta.out)):Da ≠ Ga));have cg:=ia.mk ((by rw [hg];exact Nat.ne_of_gt (Wb (g:=Da) (o:=.cells #[.slice xb Sa.length qb,.int .i64 Pa,.int .i64 Na,.int .i64 Ma,.slice Qb La.length Fb] 30 (0,0)) (by (with_reducible repeat (first|refine Aa ?_ _|refine Ca ?_|refine za ?_ _));exact ta.out)):Ga ≠ Da));clear ta HB;have ta:=Kb;have HB:=Ub;have ya:=yc;have ni:=Tc;have Cb:=tf;have Za:=Tf;have Xa:=cg;clear Kb Ub yc Tc tf Tf cg hb Nb hg))
 go_loopg [5] k (fun kq v5 w'=>∃ (Ea:Int),v5 = .int .i64 Ea∧ia (Xb.l0 kq Ea Sa Pa Na Ma La Dc Ob Gb Ib fc=some r)∧ia (kq ≤ k)∧ia (w'.heap[Da]? = some (.cells #[(.slice xb Sa.length qb),.int .i64 Pa,.int .i64 Na,.int .i64 Ma,(.slice Qb La.length Fb)] 30 (0,0)))∧ia (w'.heap[Ga]? = some (.cells #[(.slice Ff Dc.length kf),.int .i64 Ob,.int .i64 Gb,.int .i64 Ib,.int .i64 fc] 68 (0,0)))∧ia (Below w.heap.size w w'))
 case atStart=>exact ⟨(0),(by first|rfl|(simp;done)|(simp [*];done)),H',⟨Nat.le_refl _⟩,⟨by (with_reducible repeat (first|refine Aa ?_ _|refine Ca ?_|refine za ?_ _));exact ta.out⟩,⟨by (with_reducible repeat (first|refine Aa ?_ _|refine Ca ?_|refine za ?_ _));exact ya.out⟩,⟨by repeat (first|(with_reducible first|exact HB.out|apply oa|apply ja|apply qa|refine ua ?_ Ua.out|refine ua ?_ Cb.out)|exact HB.out)⟩⟩
 case round =>
  clear H'
  try clear c1
  try clear p2
  (try clear HA);(try clear Kh);(try clear ta);(try clear ya);(try clear HB);obtain ⟨Ea,rfl,HA,Kh,ta,ya,HB⟩:=hrel;cases gk with
  | zero=>exact absurd HA.out (by simp [Xb.l0])
  | succ k1 =>
   have H:=HA.out;clear HA;simp only [Xb.l0] at H
   by_cases c5:Ea < (Dc.length:Int)
   ·rw [if_pos c5] at H;have yo:decide (Ea < (Dc.length:Int))=true:=decide_eq_true c5;clear c5
    by_cases c6:0 ≤ Ea
    ·rw [if_pos c6] at H;have xo:decide (0 ≤ Ea)=true:=decide_eq_true c6;clear c6;replace H:=Option.bind_eq_some_iff.mp H;obtain ⟨t104,QF,H⟩:=H;replace H:(if t104=true then (Xb.l0 k1 (wrap64 (Ea + 1)) Sa Pa Na Ma La Dc Ob Gb Ib fc) else (some false))=some r:=H;have A7:=ia.mk QF;clear QF
     by_cases c8:t104=true
     ·subst c8;have H1:(Xb.l0 k1 (wrap64 (Ea + 1)) Sa Pa Na Ma La Dc Ob Gb Ib fc)=some r:=by rw [if_pos rfl] at H;exact H
      clear H;have H:=H1;clear H1;have H':=ia.mk H;clear H;have YW:=Xa.out;have WW:=Za.out;have Tj:wr.cell? ⟨Ga,0,none⟩=some (.slice Ff Dc.length kf):=(ga ya.out 0).trans rfl;have Sj:wr.cell? ⟨Ga,1,none⟩=some (.int .i64 Ob):=(ga ya.out 1).trans rfl;have Rj:wr.cell? ⟨Ga,2,none⟩=some (.int .i64 Gb):=(ga ya.out 2).trans rfl;have Qj:wr.cell? ⟨Ga,3,none⟩=some (.int .i64 Ib):=(ga ya.out 3).trans rfl;have Pj:wr.cell? ⟨Ga,4,none⟩=some (.int .i64 fc):=(ga ya.out 4).trans rfl;have Oj:=aa ya.out 0;have Nj:=aa ya.out 1;have Mj:=aa ya.out 2;have Lj:=aa ya.out 3;have Kj:=aa ya.out 4
      try go_wp2
      have Kb:=ia.mk (Ca ta.out);have Ub:=ia.mk (Ca ya.out);have yc:=ia.mk (qa HB.out);clear ta ya HB;have ta:=Kb;have ya:=Ub;have HB:=yc;clear Kb Ub yc;have Sg:0 ≤ (Ea:Int):=of_decide_eq_true (by first|(with_reducible assumption)|assumption);have Rg:Ea < (Dc.length:Int):=of_decide_eq_true (by first|(with_reducible assumption)|assumption);obtain ⟨bf,Ol,Yc,qe,me,ke,je,Vf,Uf⟩:=Re Cm.out Ea Sg Rg;have xu:=Uf;have yu:=Vf;have zu:=je;have Au:=ke;have Bu:=me;have Cu:=qe;have Du:=Yc;cases Ol;replace Yc:=Ba HB.out Yc;replace qe:=Ba HB.out qe;replace me:=Ba HB.out me;replace ke:=Ba HB.out ke;replace je:=Ba HB.out je;replace Vf:=Ba HB.out Vf;replace Uf:=Ba HB.out Uf;replace Sg:=eq_true Sg;replace Rg:=eq_true Rg;refine Nl (n:=8) (S:=fun w'=>w'.cell? ⟨Da,0,none⟩=some (.slice xb Sa.length qb)∧w'.cell? ⟨Da,1,none⟩=some (.int .i64 Pa)∧w'.cell? ⟨Da,2,none⟩=some (.int .i64 Na)∧w'.cell? ⟨Da,3,none⟩=some (.int .i64 Ma)∧w'.cell? ⟨Da,4,none⟩=some (.slice Qb La.length Fb)∧w'.cell? ⟨Ga,0,none⟩=some (.slice (some bf) Dc.length kf)∧w'.cell? ⟨Ga,1,none⟩=some (.int .i64 Ob)∧w'.cell? ⟨Ga,2,none⟩=some (.int .i64 Gb)∧w'.cell? ⟨Ga,3,none⟩=some (.int .i64 Ib)∧w'.cell? ⟨Ga,4,none⟩=some (.int .i64 fc)∧w'.cell? (bf.add ((Ea).toNat * 7))=some (.int .i64 ((Fa Dc Ea).f0))∧w'.cell? ⟨(bf.add ((Ea).toNat * 7)).block,(bf.add ((Ea).toNat * 7)).off + 1,none⟩=some (.int .i64 ((Fa Dc Ea).f1))∧w'.cell? ⟨(bf.add ((Ea).toNat * 7)).block,(bf.add ((Ea).toNat * 7)).off + 2,none⟩=some (.int .i64 ((Fa Dc Ea).f2))∧w'.cell? ⟨(bf.add ((Ea).toNat * 7)).block,(bf.add ((Ea).toNat * 7)).off + 3,none⟩=some (.int .i64 ((Fa Dc Ea).f3))∧w'.cell? ⟨(bf.add ((Ea).toNat * 7)).block,(bf.add ((Ea).toNat * 7)).off + 4,none⟩=some (.int .i64 ((Fa Dc Ea).f4))∧w'.cell? ⟨(bf.add ((Ea).toNat * 7)).block,(bf.add ((Ea).toNat * 7)).off + 5,none⟩=some (.int .i64 ((Fa Dc Ea).f5))∧w'.cell? ⟨(bf.add ((Ea).toNat * 7)).block,(bf.add ((Ea).toNat * 7)).off + 6,none⟩=some (.string ((Fa Dc Ea).f6))) (ds:=[]) #[false,false,false,false,false,false,false,false] (by kernel_rfl) rfl rfl ⟨(ga ta.out 0).trans rfl,(ga ta.out 1).trans rfl,(ga ta.out 2).trans rfl,(ga ta.out 3).trans rfl,(ga ta.out 4).trans rfl,(ga ya.out 0).trans rfl,(ga ya.out 1).trans rfl,(ga ya.out 2).trans rfl,(ga ya.out 3).trans rfl,(ga ya.out 4).trans rfl,(Ba HB.out Du),(Ba HB.out Cu),(Ba HB.out Bu),(Ba HB.out Au),(Ba HB.out zu),(Ba HB.out yu),(Ba HB.out xu)⟩ (fun hHeld=>?_);refine Yh Xb.DZ Xb.lV (fun xg Us=>?_);generalize wr.drew=zi at ta ya HB Yc qe me ke je Vf Uf hHeld ⊢;refine Ad (i:=1) (N:=some 16) (v:=?_) (a':=?_) #[false,true,false,false,false,false,false,false] rfl rfl (Qc xg.out (by kernel_rfl)) (fun _ _ _ h=>h) (Or.inl ⟨by rfl,?_⟩) ?_ ?_;rotate_left
      ·intro w';go_simp;with_reducible rfl
      rotate_left
      ·simp only [Act.put,List.setIfInBounds_toArray,List.set_cons_zero,List.set_cons_succ,dc,ec]
       rfl
      refine Ad (i:=3) (N:=some 18) (v:=?_) (a':=?_) #[false,true,false,true,false,false,false,false] rfl rfl (Qc xg.out (by kernel_rfl)) (fun _ _ _ h=>h) (Or.inl ⟨by rfl,?_⟩) ?_ ?_;rotate_left
      ·intro w';go_simp;with_reducible rfl
      rotate_left
      ·simp only [Act.put,List.setIfInBounds_toArray,List.set_cons_zero,List.set_cons_succ,dc,ec]
       rfl
      refine Lh (i:=0) (N:=some 15) (v:=?_) (a':=?_) #[true,true,false,true,false,false,false,false] rfl rfl (Xf xg.out Us.out (by kernel_rfl)) (fun _ _ _ h=>h) (Or.inl ⟨by rfl,?_⟩) hHeld ?_ ?_;rotate_left
      ·rintro w' ⟨s0,s1,s2,s3,s4,s5,s6,s7,s8,s9,RQ,OQ,NQ,MQ,KZ,JZ,IZ⟩;go_simp;with_reducible rfl
      rotate_left
      ·simp only [Act.put,List.setIfInBounds_toArray,List.set_cons_zero,List.set_cons_succ,dc,ec]
       rfl
      refine Lh (i:=2) (N:=some 17) (v:=?_) (a':=?_) #[true,true,true,true,false,false,false,false] rfl rfl (Xf xg.out Us.out (by kernel_rfl)) (fun _ _ _ h=>h) (Or.inl ⟨by rfl,?_⟩) hHeld ?_ ?_;rotate_left
      ·rintro w' ⟨s0,s1,s2,s3,s4,s5,s6,s7,s8,s9,RQ,OQ,NQ,MQ,KZ,JZ,IZ⟩;go_simp;with_reducible rfl
      rotate_left
      ·simp only [Act.put,List.setIfInBounds_toArray,List.set_cons_zero,List.set_cons_succ,dc,ec]
       rfl
      refine Ad (i:=4) (N:=some 19) (v:=?_) (a':=?_) #[true,true,true,true,true,false,false,false] rfl rfl (Qc xg.out (by kernel_rfl)) (fun _ _ _ h=>h) (Or.inl ⟨by rfl,?_⟩) ?_ ?_;rotate_left
      ·intro w';go_simp;with_reducible rfl
      rotate_left
      ·simp only [Act.put,List.setIfInBounds_toArray,List.set_cons_zero,List.set_cons_succ,dc,ec]
       rfl
      refine Lh (i:=5) (N:=some 20) (v:=?_) (a':=?_) #[true,true,true,true,true,true,false,false] rfl rfl (Xf xg.out Us.out (by kernel_rfl)) (fun _ _ _ h=>h) (Or.inl ⟨by rfl,?_⟩) hHeld ?_ ?_;rotate_left
      ·rintro w' ⟨s0,s1,s2,s3,s4,s5,s6,s7,s8,s9,RQ,OQ,NQ,MQ,KZ,JZ,IZ⟩;go_simp;with_reducible rfl
      rotate_left
      ·simp only [Act.put,List.setIfInBounds_toArray,List.set_cons_zero,List.set_cons_succ,dc,ec]
       rfl
      refine zw (i:=6) (N:=some 21) #[true,true,true,true,true,true,true,false] rfl rfl (vo xg.out (by kernel_rfl)) (by decide) (fun K hK=>?_);refine Eo Try.func111 (by kernel_rfl) rfl #[.agg #[.slice xb Sa.length qb,.int .i64 Pa,.int .i64 Na,.int .i64 Ma,.slice Qb La.length Fb],.agg #[.int .i64 ((Fa Dc Ea).f0),.int .i64 ((Fa Dc Ea).f1),.int .i64 ((Fa Dc Ea).f2),.int .i64 ((Fa Dc Ea).f3),.int .i64 ((Fa Dc Ea).f4),.int .i64 ((Fa Dc Ea).f5),.string ((Fa Dc Ea).f6)]] (by rfl) rfl rfl (by (try simp only [List.map_toArray,List.map_cons,List.map_nil]);first|done|rfl|(simp only [List.length_drop,List.length_take];rfl)) ?_;with_reducible refine (Ya.calls k1 _ _ Sa Pa Na Ma _ _ La ((Fa Dc Ea).f0) ((Fa Dc Ea).f1) ((Fa Dc Ea).f2) ((Fa Dc Ea).f3) ((Fa Dc Ea).f4) ((Fa Dc Ea).f5) ((Fa Dc Ea).f6) true _ ?Pc ?Oc ?Hf ?Gf A7.out).mono ?_
      (case Pc=>repeat (first|exact (Kd.Eb Qf.out HB.out)|(with_reducible refine Kd.nc ?_ _)|(with_reducible refine Kd.mc ?_ _)|(with_reducible refine Kd.Rc ?_)))
      (case Oc=>exact sg.out)
      (case Hf=>repeat (first|exact (Kd.Eb Dh.out HB.out)|(with_reducible refine Kd.nc ?_ _)|(with_reducible refine Kd.mc ?_ _)|(with_reducible refine Kd.Rc ?_)))
      (case Gf=>exact Xj.out)
      rintro e nE ⟨rfl,hb⟩;refine ⟨_,rfl,?_⟩;have Kb:=ia.mk (Ta (g:=Da) (o:=.cells #[.slice xb Sa.length qb,.int .i64 Pa,.int .i64 Na,.int .i64 Ma,.slice Qb La.length Fb] 30 (0,0)) (by (with_reducible repeat (first|refine Aa ?_ _|refine Ca ?_|refine za ?_ _));exact ta.out) hb);have Ub:=ia.mk (Ta (g:=Ga) (o:=.cells #[.slice (some bf) Dc.length kf,.int .i64 Ob,.int .i64 Gb,.int .i64 Ib,.int .i64 fc] 68 (0,0)) (by (with_reducible repeat (first|refine Aa ?_ _|refine Ca ?_|refine za ?_ _));exact ya.out) hb);have yc:=ia.mk (Ra (by repeat (first|(with_reducible first|exact HB.out|apply oa|apply ja|apply qa|refine ua ?_ Ua.out|refine ua ?_ Cb.out)|exact HB.out)) hb);clear ta ya HB;have ta:=Kb;have ya:=Ub;have HB:=yc;clear Kb Ub yc;(try clear hb);(try clear ij);(try clear hk);(try clear hi);refine hK.out _ _ ⟨(ga ta.out 0).trans rfl,(ga ta.out 1).trans rfl,(ga ta.out 2).trans rfl,(ga ta.out 3).trans rfl,(ga ta.out 4).trans rfl,(ga ya.out 0).trans rfl,(ga ya.out 1).trans rfl,(ga ya.out 2).trans rfl,(ga ya.out 3).trans rfl,(ga ya.out 4).trans rfl,(Ba HB.out Du),(Ba HB.out Cu),(Ba HB.out Bu),(Ba HB.out Au),(Ba HB.out zu),(Ba HB.out yu),(Ba HB.out xu)⟩ (fun hHeld=>?_);clear hK K;refine Bo (a':=?_) ?_ ?_;rotate_left
      ·show Act.put _ (some 21) _=_
       simp only [Act.put,List.setIfInBounds_toArray,List.set_cons_zero,List.set_cons_succ,dc,ec]
       rfl
      refine Ad (i:=7) (N:=some 22) (v:=?_) (a':=?_) #[true,true,true,true,true,true,true,true] rfl rfl (Qc xg.out (by kernel_rfl)) (fun _ _ _ h=>h) (Or.inl ⟨by rfl,?_⟩) ?_ ?_;rotate_left
      ·intro w';go_simp;with_reducible rfl
      rotate_left
      ·simp only [Act.put,List.setIfInBounds_toArray,List.set_cons_zero,List.set_cons_succ,dc,ec]
       rfl
      refine Io (Jl xg.out (by kernel_rfl)) ?_
      try go_wp2
      go_roundg k1
      case measure=>have:=Kh.out;omega
      case rel=>exact ⟨(wrap64 (Ea + 1)),(by first|rfl|(simp;done)|(simp [*];done)),H',⟨by have:=Kh.out;omega⟩,⟨by (with_reducible repeat (first|refine Aa ?_ _|refine Ca ?_|refine za ?_ _));exact ta.out⟩,⟨by (with_reducible repeat (first|refine Aa ?_ _|refine Ca ?_|refine za ?_ _));exact ya.out⟩,⟨by repeat (first|(with_reducible first|exact HB.out|apply oa|apply ja|apply qa|refine ua ?_ Ua.out|refine ua ?_ Cb.out)|exact HB.out)⟩⟩
     ·replace c8:=Bool.eq_false_iff.mpr c8;subst c8;have H1:(some false)=some r:=by rw [if_neg (show ¬ (false=true) by decide)] at H;exact H
      clear H;have H:=H1;clear H1;obtain rfl:=Option.some.inj H;have fal:=Xa.out;have Bak:=Za.out;have Xm:wr.cell? ⟨Ga,0,none⟩=some (.slice Ff Dc.length kf):=(ga ya.out 0).trans rfl;have Wm:wr.cell? ⟨Ga,1,none⟩=some (.int .i64 Ob):=(ga ya.out 1).trans rfl;have Vm:wr.cell? ⟨Ga,2,none⟩=some (.int .i64 Gb):=(ga ya.out 2).trans rfl;have Um:wr.cell? ⟨Ga,3,none⟩=some (.int .i64 Ib):=(ga ya.out 3).trans rfl;have Sm:wr.cell? ⟨Ga,4,none⟩=some (.int .i64 fc):=(ga ya.out 4).trans rfl;have Rm:=aa ya.out 0;have Qm:=aa ya.out 1;have Pm:=aa ya.out 2;have Om:=aa ya.out 3;have Nm:=aa ya.out 4
      try go_wp2
      have Kb:=ia.mk (Ca ta.out);have Ub:=ia.mk (Ca ya.out);have yc:=ia.mk (qa HB.out);clear ta ya HB;have ta:=Kb;have ya:=Ub;have HB:=yc;clear Kb Ub yc;have Sg:0 ≤ (Ea:Int):=of_decide_eq_true (by first|(with_reducible assumption)|assumption);have Rg:Ea < (Dc.length:Int):=of_decide_eq_true (by first|(with_reducible assumption)|assumption);obtain ⟨bf,Ol,Yc,qe,me,ke,je,Vf,Uf⟩:=Re Cm.out Ea Sg Rg;have xu:=Uf;have yu:=Vf;have zu:=je;have Au:=ke;have Bu:=me;have Cu:=qe;have Du:=Yc;cases Ol;replace Yc:=Ba HB.out Yc;replace qe:=Ba HB.out qe;replace me:=Ba HB.out me;replace ke:=Ba HB.out ke;replace je:=Ba HB.out je;replace Vf:=Ba HB.out Vf;replace Uf:=Ba HB.out Uf;replace Sg:=eq_true Sg;replace Rg:=eq_true Rg;refine Nl (n:=8) (S:=fun w'=>w'.cell? ⟨Da,0,none⟩=some (.slice xb Sa.length qb)∧w'.cell? ⟨Da,1,none⟩=some (.int .i64 Pa)∧w'.cell? ⟨Da,2,none⟩=some (.int .i64 Na)∧w'.cell? ⟨Da,3,none⟩=some (.int .i64 Ma)∧w'.cell? ⟨Da,4,none⟩=some (.slice Qb La.length Fb)∧w'.cell? ⟨Ga,0,none⟩=some (.slice (some bf) Dc.length kf)∧w'.cell? ⟨Ga,1,none⟩=some (.int .i64 Ob)∧w'.cell? ⟨Ga,2,none⟩=some (.int .i64 Gb)∧w'.cell? ⟨Ga,3,none⟩=some (.int .i64 Ib)∧w'.cell? ⟨Ga,4,none⟩=some (.int .i64 fc)∧w'.cell? (bf.add ((Ea).toNat * 7))=some (.int .i64 ((Fa Dc Ea).f0))∧w'.cell? ⟨(bf.add ((Ea).toNat * 7)).block,(bf.add ((Ea).toNat * 7)).off + 1,none⟩=some (.int .i64 ((Fa Dc Ea).f1))∧w'.cell? ⟨(bf.add ((Ea).toNat * 7)).block,(bf.add ((Ea).toNat * 7)).off + 2,none⟩=some (.int .i64 ((Fa Dc Ea).f2))∧w'.cell? ⟨(bf.add ((Ea).toNat * 7)).block,(bf.add ((Ea).toNat * 7)).off + 3,none⟩=some (.int .i64 ((Fa Dc Ea).f3))∧w'.cell? ⟨(bf.add ((Ea).toNat * 7)).block,(bf.add ((Ea).toNat * 7)).off + 4,none⟩=some (.int .i64 ((Fa Dc Ea).f4))∧w'.cell? ⟨(bf.add ((Ea).toNat * 7)).block,(bf.add ((Ea).toNat * 7)).off + 5,none⟩=some (.int .i64 ((Fa Dc Ea).f5))∧w'.cell? ⟨(bf.add ((Ea).toNat * 7)).block,(bf.add ((Ea).toNat * 7)).off + 6,none⟩=some (.string ((Fa Dc Ea).f6))) (ds:=[]) #[false,false,false,false,false,false,false,false] (by kernel_rfl) rfl rfl ⟨(ga ta.out 0).trans rfl,(ga ta.out 1).trans rfl,(ga ta.out 2).trans rfl,(ga ta.out 3).trans rfl,(ga ta.out 4).trans rfl,(ga ya.out 0).trans rfl,(ga ya.out 1).trans rfl,(ga ya.out 2).trans rfl,(ga ya.out 3).trans rfl,(ga ya.out 4).trans rfl,(Ba HB.out Du),(Ba HB.out Cu),(Ba HB.out Bu),(Ba HB.out Au),(Ba HB.out zu),(Ba HB.out yu),(Ba HB.out xu)⟩ (fun hHeld=>?_);refine Yh Xb.DZ Xb.lV (fun xg Us=>?_);generalize wr.drew=Mp at ta ya HB Yc qe me ke je Vf Uf hHeld ⊢;refine Ad (i:=1) (N:=some 16) (v:=?_) (a':=?_) #[false,true,false,false,false,false,false,false] rfl rfl (Qc xg.out (by kernel_rfl)) (fun _ _ _ h=>h) (Or.inl ⟨by rfl,?_⟩) ?_ ?_;rotate_left
      ·intro w';go_simp;with_reducible rfl
      rotate_left
      ·simp only [Act.put,List.setIfInBounds_toArray,List.set_cons_zero,List.set_cons_succ,dc,ec]
       rfl
      refine Ad (i:=3) (N:=some 18) (v:=?_) (a':=?_) #[false,true,false,true,false,false,false,false] rfl rfl (Qc xg.out (by kernel_rfl)) (fun _ _ _ h=>h) (Or.inl ⟨by rfl,?_⟩) ?_ ?_;rotate_left
      ·intro w';go_simp;with_reducible rfl
      rotate_left
      ·simp only [Act.put,List.setIfInBounds_toArray,List.set_cons_zero,List.set_cons_succ,dc,ec]
       rfl
      refine Lh (i:=0) (N:=some 15) (v:=?_) (a':=?_) #[true,true,false,true,false,false,false,false] rfl rfl (Xf xg.out Us.out (by kernel_rfl)) (fun _ _ _ h=>h) (Or.inl ⟨by rfl,?_⟩) hHeld ?_ ?_;rotate_left
      ·rintro w' ⟨s0,s1,s2,s3,s4,s5,s6,s7,s8,s9,RQ,OQ,NQ,MQ,KZ,JZ,IZ⟩;go_simp;with_reducible rfl
      rotate_left
      ·simp only [Act.put,List.setIfInBounds_toArray,List.set_cons_zero,List.set_cons_succ,dc,ec]
       rfl
      refine Lh (i:=2) (N:=some 17) (v:=?_) (a':=?_) #[true,true,true,true,false,false,false,false] rfl rfl (Xf xg.out Us.out (by kernel_rfl)) (fun _ _ _ h=>h) (Or.inl ⟨by rfl,?_⟩) hHeld ?_ ?_;rotate_left
      ·rintro w' ⟨s0,s1,s2,s3,s4,s5,s6,s7,s8,s9,RQ,OQ,NQ,MQ,KZ,JZ,IZ⟩;go_simp;with_reducible rfl
      rotate_left
      ·simp only [Act.put,List.setIfInBounds_toArray,List.set_cons_zero,List.set_cons_succ,dc,ec]
       rfl
      refine Ad (i:=4) (N:=some 19) (v:=?_) (a':=?_) #[true,true,true,true,true,false,false,false] rfl rfl (Qc xg.out (by kernel_rfl)) (fun _ _ _ h=>h) (Or.inl ⟨by rfl,?_⟩) ?_ ?_;rotate_left
      ·intro w';go_simp;with_reducible rfl
      rotate_left
      ·simp only [Act.put,List.setIfInBounds_toArray,List.set_cons_zero,List.set_cons_succ,dc,ec]
       rfl
      refine Lh (i:=5) (N:=some 20) (v:=?_) (a':=?_) #[true,true,true,true,true,true,false,false] rfl rfl (Xf xg.out Us.out (by kernel_rfl)) (fun _ _ _ h=>h) (Or.inl ⟨by rfl,?_⟩) hHeld ?_ ?_;rotate_left
      ·rintro w' ⟨s0,s1,s2,s3,s4,s5,s6,s7,s8,s9,RQ,OQ,NQ,MQ,KZ,JZ,IZ⟩;go_simp;with_reducible rfl
      rotate_left
      ·simp only [Act.put,List.setIfInBounds_toArray,List.set_cons_zero,List.set_cons_succ,dc,ec]
       rfl
      refine zw (i:=6) (N:=some 21) #[true,true,true,true,true,true,true,false] rfl rfl (vo xg.out (by kernel_rfl)) (by decide) (fun K hK=>?_);refine Eo Try.func111 (by kernel_rfl) rfl #[.agg #[.slice xb Sa.length qb,.int .i64 Pa,.int .i64 Na,.int .i64 Ma,.slice Qb La.length Fb],.agg #[.int .i64 ((Fa Dc Ea).f0),.int .i64 ((Fa Dc Ea).f1),.int .i64 ((Fa Dc Ea).f2),.int .i64 ((Fa Dc Ea).f3),.int .i64 ((Fa Dc Ea).f4),.int .i64 ((Fa Dc Ea).f5),.string ((Fa Dc Ea).f6)]] (by rfl) rfl rfl (by (try simp only [List.map_toArray,List.map_cons,List.map_nil]);first|done|rfl|(simp only [List.length_drop,List.length_take];rfl)) ?_;with_reducible refine (Ya.calls k1 _ _ Sa Pa Na Ma _ _ La ((Fa Dc Ea).f0) ((Fa Dc Ea).f1) ((Fa Dc Ea).f2) ((Fa Dc Ea).f3) ((Fa Dc Ea).f4) ((Fa Dc Ea).f5) ((Fa Dc Ea).f6) false _ ?Pc ?Oc ?Hf ?Gf A7.out).mono ?_
      (case Pc=>repeat (first|exact (Kd.Eb Qf.out HB.out)|(with_reducible refine Kd.nc ?_ _)|(with_reducible refine Kd.mc ?_ _)|(with_reducible refine Kd.Rc ?_)))
      (case Oc=>exact sg.out)
      (case Hf=>repeat (first|exact (Kd.Eb Dh.out HB.out)|(with_reducible refine Kd.nc ?_ _)|(with_reducible refine Kd.mc ?_ _)|(with_reducible refine Kd.Rc ?_)))
      (case Gf=>exact Xj.out)
      rintro e qA ⟨rfl,hb⟩;refine ⟨_,rfl,?_⟩;have Kb:=ia.mk (Ta (g:=Da) (o:=.cells #[.slice xb Sa.length qb,.int .i64 Pa,.int .i64 Na,.int .i64 Ma,.slice Qb La.length Fb] 30 (0,0)) (by (with_reducible repeat (first|refine Aa ?_ _|refine Ca ?_|refine za ?_ _));exact ta.out) hb);have Ub:=ia.mk (Ta (g:=Ga) (o:=.cells #[.slice (some bf) Dc.length kf,.int .i64 Ob,.int .i64 Gb,.int .i64 Ib,.int .i64 fc] 68 (0,0)) (by (with_reducible repeat (first|refine Aa ?_ _|refine Ca ?_|refine za ?_ _));exact ya.out) hb);have yc:=ia.mk (Ra (by repeat (first|(with_reducible first|exact HB.out|apply oa|apply ja|apply qa|refine ua ?_ Ua.out|refine ua ?_ Cb.out)|exact HB.out)) hb);clear ta ya HB;have ta:=Kb;have ya:=Ub;have HB:=yc;clear Kb Ub yc;(try clear hb);(try clear ij);(try clear hk);(try clear hi);refine hK.out _ _ ⟨(ga ta.out 0).trans rfl,(ga ta.out 1).trans rfl,(ga ta.out 2).trans rfl,(ga ta.out 3).trans rfl,(ga ta.out 4).trans rfl,(ga ya.out 0).trans rfl,(ga ya.out 1).trans rfl,(ga ya.out 2).trans rfl,(ga ya.out 3).trans rfl,(ga ya.out 4).trans rfl,(Ba HB.out Du),(Ba HB.out Cu),(Ba HB.out Bu),(Ba HB.out Au),(Ba HB.out zu),(Ba HB.out yu),(Ba HB.out xu)⟩ (fun hHeld=>?_);clear hK K;refine Bo (a':=?_) ?_ ?_;rotate_left
      ·show Act.put _ (some 21) _=_
       simp only [Act.put,List.setIfInBounds_toArray,List.set_cons_zero,List.set_cons_succ,dc,ec]
       rfl
      refine Ad (i:=7) (N:=some 22) (v:=?_) (a':=?_) #[true,true,true,true,true,true,true,true] rfl rfl (Qc xg.out (by kernel_rfl)) (fun _ _ _ h=>h) (Or.inl ⟨by rfl,?_⟩) ?_ ?_;rotate_left
      ·intro w';go_simp;with_reducible rfl
      rotate_left
      ·simp only [Act.put,List.setIfInBounds_toArray,List.set_cons_zero,List.set_cons_succ,dc,ec]
       rfl
      refine Io (Jl xg.out (by kernel_rfl)) ?_
      try go_wp2
      go_ret;exact ⟨by first|rfl|(simp [Ja,Ia] <;> rfl)|(simp [*,Ja,Ia] <;> rfl),by repeat (first|(with_reducible first|exact HB.out|apply oa|apply ja|apply qa|refine ua ?_ Ua.out|refine ua ?_ Cb.out)|exact HB.out)⟩
    ·rw [if_neg c6] at H;exact absurd H (by simp)
   ·rw [if_neg c5] at H;have yo:decide (Ea < (Dc.length:Int))=false:=decide_eq_false c5;clear c5;replace H:=Option.bind_eq_some_iff.mp H;obtain ⟨t105,g_,H⟩:=H;replace H:((Wa.f Gb 0 (wrap64 (Ma - 1))).bind fun t106=>(if Ob=0 then (if t105=true then (if Gb=0 then (some (fc == 0)) else (some false)) else (some false)) else (if Ob=1 then (if t105=true then (if t106=true then ((Wa.f fc 0 (wrap64 ((La.length:Int) - 1))).bind fun t107=>(some t107)) else (some false)) else (some false)) else (if Ob=2 then (if t106=true then (if Ib=0 then (some (fc == 0)) else (some false)) else (some false)) else (some false)))))=some r:=H;have DQ:=ia.mk g_;clear g_;replace H:=Option.bind_eq_some_iff.mp H;obtain ⟨t106,f_,H⟩:=H;replace H:(if Ob=0 then (if t105=true then (if Gb=0 then (some (fc == 0)) else (some false)) else (some false)) else (if Ob=1 then (if t105=true then (if t106=true then ((Wa.f fc 0 (wrap64 ((La.length:Int) - 1))).bind fun t107=>(some t107)) else (some false)) else (some false)) else (if Ob=2 then (if t106=true then (if Ib=0 then (some (fc == 0)) else (some false)) else (some false)) else (some false))))=some r:=H;have CQ:=ia.mk f_;clear f_
    by_cases Rs:Ob=0
    ·rw [if_pos Rs] at H;have TA:(Ob == 0)=true:=beq_iff_eq.mpr Rs;have B8:(Ob != 0)=false:=bne_eq_false_iff_eq.mpr Rs;clear Rs
     by_cases fA:t105=true
     ·subst fA;have H1:(if Gb=0 then (some (fc == 0)) else (some false))=some r:=by rw [if_pos rfl] at H;exact H
      clear H;have H:=H1;clear H1
      by_cases sx:Gb=0
      ·rw [if_pos sx] at H;have vK:(Gb == 0)=true:=beq_iff_eq.mpr sx;have r8:(Gb != 0)=false:=bne_eq_false_iff_eq.mpr sx;clear sx;obtain rfl:=Option.some.inj H;have E1:=Xa.out;have N0:=Za.out;have eo:wr.cell? ⟨Ga,0,none⟩=some (.slice Ff Dc.length kf):=(ga ya.out 0).trans rfl;have Zn:wr.cell? ⟨Ga,1,none⟩=some (.int .i64 Ob):=(ga ya.out 1).trans rfl;have Yn:wr.cell? ⟨Ga,2,none⟩=some (.int .i64 Gb):=(ga ya.out 2).trans rfl;have Xn:wr.cell? ⟨Ga,3,none⟩=some (.int .i64 Ib):=(ga ya.out 3).trans rfl;have Wn:wr.cell? ⟨Ga,4,none⟩=some (.int .i64 fc):=(ga ya.out 4).trans rfl;have Vn:=aa ya.out 0;have Un:=aa ya.out 1;have Tn:=aa ya.out 2;have Sn:=aa ya.out 3;have Rn:=aa ya.out 4;have Ov:wr.cell? ⟨Da,0,none⟩=some (.slice xb Sa.length qb):=(ga ta.out 0).trans rfl;have Nv:wr.cell? ⟨Da,1,none⟩=some (.int .i64 Pa):=(ga ta.out 1).trans rfl;have Mv:wr.cell? ⟨Da,2,none⟩=some (.int .i64 Na):=(ga ta.out 2).trans rfl;have Lv:wr.cell? ⟨Da,3,none⟩=some (.int .i64 Ma):=(ga ta.out 3).trans rfl;have Kv:wr.cell? ⟨Da,4,none⟩=some (.slice Qb La.length Fb):=(ga ta.out 4).trans rfl;have av:=aa ta.out 0;have Zu:=aa ta.out 1;have Yu:=aa ta.out 2;have Xu:=aa ta.out 3;have Wu:=aa ta.out 4;go_wp2_with (first|((with_reducible refine jb (f:=54) rfl ?_);refine Lc (some 29) rfl rfl Try.func54 (by kernel_rfl) rfl #[.int .i64 Ib,.int .i64 0,.int .i64 (wrap64 ((La.length:Int) - 1))] rfl (by (try simp only [List.map_toArray,List.map_cons,List.map_nil]);first|done|rfl|(simp only [List.length_drop,List.length_take];rfl)) ?_;(with_reducible refine (Wa.calls Ib 0 (wrap64 ((La.length:Int) - 1)) true _ DQ.out).mono ?_);rintro e w' ⟨rfl,⟨nd,rfl⟩⟩;refine ⟨_,rfl,?_⟩)|((with_reducible refine jb (f:=54) rfl ?_);refine Lc (some 35) rfl rfl Try.func54 (by kernel_rfl) rfl #[.int .i64 Gb,.int .i64 0,.int .i64 (wrap64 (Ma - 1))] rfl (by (try simp only [List.map_toArray,List.map_cons,List.map_nil]);first|done|rfl|(simp only [List.length_drop,List.length_take];rfl)) ?_;(with_reducible refine (Wa.calls Gb 0 (wrap64 (Ma - 1)) t106 _ CQ.out).mono ?_);rintro e w' ⟨rfl,⟨nd,rfl⟩⟩;refine ⟨_,rfl,?_⟩));go_ret;exact ⟨by first|rfl|(simp [Ja,Ia] <;> rfl)|(simp [*,Ja,Ia] <;> rfl),by repeat (first|(with_reducible first|exact HB.out|apply oa|apply ja|apply qa|refine ua ?_ Ua.out|refine ua ?_ Cb.out)|exact HB.out)⟩
      ·rw [if_neg sx] at H;have vK:(Gb == 0)=false:=beq_eq_false_iff_ne.mpr sx;have r8:(Gb != 0)=true:=bne_iff_ne.mpr sx;obtain rfl:=Option.some.inj H;have yN:=Xa.out;have vN:=Za.out;have Jv:wr.cell? ⟨Ga,0,none⟩=some (.slice Ff Dc.length kf):=(ga ya.out 0).trans rfl;have Iv:wr.cell? ⟨Ga,1,none⟩=some (.int .i64 Ob):=(ga ya.out 1).trans rfl;have Hv:wr.cell? ⟨Ga,2,none⟩=some (.int .i64 Gb):=(ga ya.out 2).trans rfl;have Gv:wr.cell? ⟨Ga,3,none⟩=some (.int .i64 Ib):=(ga ya.out 3).trans rfl;have Fv:wr.cell? ⟨Ga,4,none⟩=some (.int .i64 fc):=(ga ya.out 4).trans rfl;have Vu:=aa ya.out 0;have Uu:=aa ya.out 1;have Tu:=aa ya.out 2;have Su:=aa ya.out 3;have Ru:=aa ya.out 4;have Cr:wr.cell? ⟨Da,0,none⟩=some (.slice xb Sa.length qb):=(ga ta.out 0).trans rfl;have Br:wr.cell? ⟨Da,1,none⟩=some (.int .i64 Pa):=(ga ta.out 1).trans rfl;have Ar:wr.cell? ⟨Da,2,none⟩=some (.int .i64 Na):=(ga ta.out 2).trans rfl;have vr:wr.cell? ⟨Da,3,none⟩=some (.int .i64 Ma):=(ga ta.out 3).trans rfl;have ur:wr.cell? ⟨Da,4,none⟩=some (.slice Qb La.length Fb):=(ga ta.out 4).trans rfl;have Vq:=aa ta.out 0;have Uq:=aa ta.out 1;have Sq:=aa ta.out 2;have Rq:=aa ta.out 3;have Qq:=aa ta.out 4;go_wp2_with (first|((with_reducible refine jb (f:=54) rfl ?_);refine Lc (some 29) rfl rfl Try.func54 (by kernel_rfl) rfl #[.int .i64 Ib,.int .i64 0,.int .i64 (wrap64 ((La.length:Int) - 1))] rfl (by (try simp only [List.map_toArray,List.map_cons,List.map_nil]);first|done|rfl|(simp only [List.length_drop,List.length_take];rfl)) ?_;(with_reducible refine (Wa.calls Ib 0 (wrap64 ((La.length:Int) - 1)) true _ DQ.out).mono ?_);rintro e w' ⟨rfl,⟨nd,rfl⟩⟩;refine ⟨_,rfl,?_⟩)|((with_reducible refine jb (f:=54) rfl ?_);refine Lc (some 35) rfl rfl Try.func54 (by kernel_rfl) rfl #[.int .i64 Gb,.int .i64 0,.int .i64 (wrap64 (Ma - 1))] rfl (by (try simp only [List.map_toArray,List.map_cons,List.map_nil]);first|done|rfl|(simp only [List.length_drop,List.length_take];rfl)) ?_;(with_reducible refine (Wa.calls Gb 0 (wrap64 (Ma - 1)) t106 _ CQ.out).mono ?_);rintro e w' ⟨rfl,⟨nd,rfl⟩⟩;refine ⟨_,rfl,?_⟩));go_ret;exact ⟨by first|rfl|(simp [Ja,Ia] <;> rfl)|(simp [*,Ja,Ia] <;> rfl),by repeat (first|(with_reducible first|exact HB.out|apply oa|apply ja|apply qa|refine ua ?_ Ua.out|refine ua ?_ Cb.out)|exact HB.out)⟩
     ·replace fA:=Bool.eq_false_iff.mpr fA;subst fA;have H1:(some false)=some r:=by rw [if_neg (show ¬ (false=true) by decide)] at H;exact H
      clear H;have H:=H1;clear H1;obtain rfl:=Option.some.inj H;have Yak:=Xa.out;have uak:=Za.out;have bK:wr.cell? ⟨Ga,0,none⟩=some (.slice Ff Dc.length kf):=(ga ya.out 0).trans rfl;have aK:wr.cell? ⟨Ga,1,none⟩=some (.int .i64 Ob):=(ga ya.out 1).trans rfl;have ZJ:wr.cell? ⟨Ga,2,none⟩=some (.int .i64 Gb):=(ga ya.out 2).trans rfl;have YJ:wr.cell? ⟨Ga,3,none⟩=some (.int .i64 Ib):=(ga ya.out 3).trans rfl;have XJ:wr.cell? ⟨Ga,4,none⟩=some (.int .i64 fc):=(ga ya.out 4).trans rfl;have UI:=aa ya.out 0;have TI:=aa ya.out 1;have SI:=aa ya.out 2;have RI:=aa ya.out 3;have QI:=aa ya.out 4;have WJ:wr.cell? ⟨Da,0,none⟩=some (.slice xb Sa.length qb):=(ga ta.out 0).trans rfl;have VJ:wr.cell? ⟨Da,1,none⟩=some (.int .i64 Pa):=(ga ta.out 1).trans rfl;have UJ:wr.cell? ⟨Da,2,none⟩=some (.int .i64 Na):=(ga ta.out 2).trans rfl;have TJ:wr.cell? ⟨Da,3,none⟩=some (.int .i64 Ma):=(ga ta.out 3).trans rfl;have SJ:wr.cell? ⟨Da,4,none⟩=some (.slice Qb La.length Fb):=(ga ta.out 4).trans rfl;have PI:=aa ta.out 0;have OI:=aa ta.out 1;have NI:=aa ta.out 2;have MI:=aa ta.out 3;have LI:=aa ta.out 4;go_wp2_with (first|((with_reducible refine jb (f:=54) rfl ?_);refine Lc (some 29) rfl rfl Try.func54 (by kernel_rfl) rfl #[.int .i64 Ib,.int .i64 0,.int .i64 (wrap64 ((La.length:Int) - 1))] rfl (by (try simp only [List.map_toArray,List.map_cons,List.map_nil]);first|done|rfl|(simp only [List.length_drop,List.length_take];rfl)) ?_;(with_reducible refine (Wa.calls Ib 0 (wrap64 ((La.length:Int) - 1)) false _ DQ.out).mono ?_);rintro e w' ⟨rfl,⟨nd,rfl⟩⟩;refine ⟨_,rfl,?_⟩)|((with_reducible refine jb (f:=54) rfl ?_);refine Lc (some 35) rfl rfl Try.func54 (by kernel_rfl) rfl #[.int .i64 Gb,.int .i64 0,.int .i64 (wrap64 (Ma - 1))] rfl (by (try simp only [List.map_toArray,List.map_cons,List.map_nil]);first|done|rfl|(simp only [List.length_drop,List.length_take];rfl)) ?_;(with_reducible refine (Wa.calls Gb 0 (wrap64 (Ma - 1)) t106 _ CQ.out).mono ?_);rintro e w' ⟨rfl,⟨nd,rfl⟩⟩;refine ⟨_,rfl,?_⟩));go_ret;exact ⟨by first|rfl|(simp [Ja,Ia] <;> rfl)|(simp [*,Ja,Ia] <;> rfl),by repeat (first|(with_reducible first|exact HB.out|apply oa|apply ja|apply qa|refine ua ?_ Ua.out|refine ua ?_ Cb.out)|exact HB.out)⟩
    ·rw [if_neg Rs] at H;have TA:(Ob == 0)=false:=beq_eq_false_iff_ne.mpr Rs;have B8:(Ob != 0)=true:=bne_iff_ne.mpr Rs
     by_cases PF:Ob=1
     ·rw [if_pos PF] at H;have lO:(Ob == 1)=true:=beq_iff_eq.mpr PF;have kO:(Ob != 1)=false:=bne_eq_false_iff_eq.mpr PF;clear PF
      by_cases yT:t105=true
      ·subst yT;have H1:(if t106=true then ((Wa.f fc 0 (wrap64 ((La.length:Int) - 1))).bind fun t107=>(some t107)) else (some false))=some r:=by rw [if_pos rfl] at H;exact H
       clear H;have H:=H1;clear H1
       by_cases vQ:t106=true
       ·subst vQ;have H1:((Wa.f fc 0 (wrap64 ((La.length:Int) - 1))).bind fun t107=>(some t107))=some r:=by rw [if_pos rfl] at H;exact H
        clear H;have H:=H1;clear H1;replace H:=Option.bind_eq_some_iff.mp H;obtain ⟨t107,U9,H⟩:=H;replace H:(some t107)=some r:=H;have A34:=ia.mk U9;clear U9;obtain rfl:=Option.some.inj H;have CU:=Xa.out;have wU:=Za.out;have ZC:wr.cell? ⟨Ga,0,none⟩=some (.slice Ff Dc.length kf):=(ga ya.out 0).trans rfl;have YC:wr.cell? ⟨Ga,1,none⟩=some (.int .i64 Ob):=(ga ya.out 1).trans rfl;have XC:wr.cell? ⟨Ga,2,none⟩=some (.int .i64 Gb):=(ga ya.out 2).trans rfl;have WC:wr.cell? ⟨Ga,3,none⟩=some (.int .i64 Ib):=(ga ya.out 3).trans rfl;have VC:wr.cell? ⟨Ga,4,none⟩=some (.int .i64 fc):=(ga ya.out 4).trans rfl;have SB:=aa ya.out 0;have RB:=aa ya.out 1;have QB:=aa ya.out 2;have PB:=aa ya.out 3;have OB:=aa ya.out 4;have KJ:wr.cell? ⟨Da,0,none⟩=some (.slice xb Sa.length qb):=(ga ta.out 0).trans rfl;have JJ:wr.cell? ⟨Da,1,none⟩=some (.int .i64 Pa):=(ga ta.out 1).trans rfl;have IJ:wr.cell? ⟨Da,2,none⟩=some (.int .i64 Na):=(ga ta.out 2).trans rfl;have HJ:wr.cell? ⟨Da,3,none⟩=some (.int .i64 Ma):=(ga ta.out 3).trans rfl;have GJ:wr.cell? ⟨Da,4,none⟩=some (.slice Qb La.length Fb):=(ga ta.out 4).trans rfl;have CI:=aa ta.out 0;have BI:=aa ta.out 1;have zI:=aa ta.out 2;have yI:=aa ta.out 3;have xI:=aa ta.out 4;go_wp2_with (first|((with_reducible refine jb (f:=54) rfl ?_);refine Lc (some 29) rfl rfl Try.func54 (by kernel_rfl) rfl #[.int .i64 Ib,.int .i64 0,.int .i64 (wrap64 ((La.length:Int) - 1))] rfl (by (try simp only [List.map_toArray,List.map_cons,List.map_nil]);first|done|rfl|(simp only [List.length_drop,List.length_take];rfl)) ?_;(with_reducible refine (Wa.calls Ib 0 (wrap64 ((La.length:Int) - 1)) true _ DQ.out).mono ?_);rintro e w' ⟨rfl,⟨nd,rfl⟩⟩;refine ⟨_,rfl,?_⟩)|((with_reducible refine jb (f:=54) rfl ?_);refine Lc (some 35) rfl rfl Try.func54 (by kernel_rfl) rfl #[.int .i64 Gb,.int .i64 0,.int .i64 (wrap64 (Ma - 1))] rfl (by (try simp only [List.map_toArray,List.map_cons,List.map_nil]);first|done|rfl|(simp only [List.length_drop,List.length_take];rfl)) ?_;(with_reducible refine (Wa.calls Gb 0 (wrap64 (Ma - 1)) true _ CQ.out).mono ?_);rintro e w' ⟨rfl,⟨nd,rfl⟩⟩;refine ⟨_,rfl,?_⟩)|(go_at_call 54;(with_reducible refine (Wa.calls fc 0 (wrap64 ((La.length:Int) - 1)) t107 _ A34.out).mono ?_);rintro e w' ⟨rfl,⟨nd,rfl⟩⟩));go_ret;exact ⟨by first|rfl|(simp [Ja,Ia] <;> rfl)|(simp [*,Ja,Ia] <;> rfl),by repeat (first|(with_reducible first|exact HB.out|apply oa|apply ja|apply qa|refine ua ?_ Ua.out|refine ua ?_ Cb.out)|exact HB.out)⟩
       ·replace vQ:=Bool.eq_false_iff.mpr vQ;subst vQ;have H1:(some false)=some r:=by rw [if_neg (show ¬ (false=true) by decide)] at H;exact H
        clear H;have H:=H1;clear H1;obtain rfl:=Option.some.inj H;have Uak:=Xa.out;have qak:=Za.out;have SC:wr.cell? ⟨Ga,0,none⟩=some (.slice Ff Dc.length kf):=(ga ya.out 0).trans rfl;have RC:wr.cell? ⟨Ga,1,none⟩=some (.int .i64 Ob):=(ga ya.out 1).trans rfl;have QC:wr.cell? ⟨Ga,2,none⟩=some (.int .i64 Gb):=(ga ya.out 2).trans rfl;have PC:wr.cell? ⟨Ga,3,none⟩=some (.int .i64 Ib):=(ga ya.out 3).trans rfl;have OC:wr.cell? ⟨Ga,4,none⟩=some (.int .i64 fc):=(ga ya.out 4).trans rfl;have LB:=aa ya.out 0;have KB:=aa ya.out 1;have JB:=aa ya.out 2;have IB:=aa ya.out 3;have FB:=aa ya.out 4;have qy:wr.cell? ⟨Da,0,none⟩=some (.slice xb Sa.length qb):=(ga ta.out 0).trans rfl;have oy:wr.cell? ⟨Da,1,none⟩=some (.int .i64 Pa):=(ga ta.out 1).trans rfl;have ny:wr.cell? ⟨Da,2,none⟩=some (.int .i64 Na):=(ga ta.out 2).trans rfl;have jy:wr.cell? ⟨Da,3,none⟩=some (.int .i64 Ma):=(ga ta.out 3).trans rfl;have iy:wr.cell? ⟨Da,4,none⟩=some (.slice Qb La.length Fb):=(ga ta.out 4).trans rfl;have Tx:=aa ta.out 0;have Sx:=aa ta.out 1;have Rx:=aa ta.out 2;have Qx:=aa ta.out 3;have Px:=aa ta.out 4;go_wp2_with (first|((with_reducible refine jb (f:=54) rfl ?_);refine Lc (some 29) rfl rfl Try.func54 (by kernel_rfl) rfl #[.int .i64 Ib,.int .i64 0,.int .i64 (wrap64 ((La.length:Int) - 1))] rfl (by (try simp only [List.map_toArray,List.map_cons,List.map_nil]);first|done|rfl|(simp only [List.length_drop,List.length_take];rfl)) ?_;(with_reducible refine (Wa.calls Ib 0 (wrap64 ((La.length:Int) - 1)) true _ DQ.out).mono ?_);rintro e w' ⟨rfl,⟨nd,rfl⟩⟩;refine ⟨_,rfl,?_⟩)|((with_reducible refine jb (f:=54) rfl ?_);refine Lc (some 35) rfl rfl Try.func54 (by kernel_rfl) rfl #[.int .i64 Gb,.int .i64 0,.int .i64 (wrap64 (Ma - 1))] rfl (by (try simp only [List.map_toArray,List.map_cons,List.map_nil]);first|done|rfl|(simp only [List.length_drop,List.length_take];rfl)) ?_;(with_reducible refine (Wa.calls Gb 0 (wrap64 (Ma - 1)) false _ CQ.out).mono ?_);rintro e w' ⟨rfl,⟨nd,rfl⟩⟩;refine ⟨_,rfl,?_⟩));go_ret;exact ⟨by first|rfl|(simp [Ja,Ia] <;> rfl)|(simp [*,Ja,Ia] <;> rfl),by repeat (first|(with_reducible first|exact HB.out|apply oa|apply ja|apply qa|refine ua ?_ Ua.out|refine ua ?_ Cb.out)|exact HB.out)⟩
      ·replace yT:=Bool.eq_false_iff.mpr yT;subst yT;have H1:(some false)=some r:=by rw [if_neg (show ¬ (false=true) by decide)] at H;exact H
       clear H;have H:=H1;clear H1;obtain rfl:=Option.some.inj H;have V0:=Xa.out;have m0:=Za.out;have IC:wr.cell? ⟨Ga,0,none⟩=some (.slice Ff Dc.length kf):=(ga ya.out 0).trans rfl;have GC:wr.cell? ⟨Ga,1,none⟩=some (.int .i64 Ob):=(ga ya.out 1).trans rfl;have FC:wr.cell? ⟨Ga,2,none⟩=some (.int .i64 Gb):=(ga ya.out 2).trans rfl;have EC:wr.cell? ⟨Ga,3,none⟩=some (.int .i64 Ib):=(ga ya.out 3).trans rfl;have DC:wr.cell? ⟨Ga,4,none⟩=some (.int .i64 fc):=(ga ya.out 4).trans rfl;have zB:=aa ya.out 0;have yB:=aa ya.out 1;have xB:=aa ya.out 2;have wB:=aa ya.out 3;have vB:=aa ya.out 4;have QS:wr.cell? ⟨Da,0,none⟩=some (.slice xb Sa.length qb):=(ga ta.out 0).trans rfl;have PS:wr.cell? ⟨Da,1,none⟩=some (.int .i64 Pa):=(ga ta.out 1).trans rfl;have OS:wr.cell? ⟨Da,2,none⟩=some (.int .i64 Na):=(ga ta.out 2).trans rfl;have NS:wr.cell? ⟨Da,3,none⟩=some (.int .i64 Ma):=(ga ta.out 3).trans rfl;have MS:wr.cell? ⟨Da,4,none⟩=some (.slice Qb La.length Fb):=(ga ta.out 4).trans rfl;have FR:=aa ta.out 0;have ER:=aa ta.out 1;have DR:=aa ta.out 2;have CR:=aa ta.out 3;have BR:=aa ta.out 4;go_wp2_with (first|((with_reducible refine jb (f:=54) rfl ?_);refine Lc (some 29) rfl rfl Try.func54 (by kernel_rfl) rfl #[.int .i64 Ib,.int .i64 0,.int .i64 (wrap64 ((La.length:Int) - 1))] rfl (by (try simp only [List.map_toArray,List.map_cons,List.map_nil]);first|done|rfl|(simp only [List.length_drop,List.length_take];rfl)) ?_;(with_reducible refine (Wa.calls Ib 0 (wrap64 ((La.length:Int) - 1)) false _ DQ.out).mono ?_);rintro e w' ⟨rfl,⟨nd,rfl⟩⟩;refine ⟨_,rfl,?_⟩)|((with_reducible refine jb (f:=54) rfl ?_);refine Lc (some 35) rfl rfl Try.func54 (by kernel_rfl) rfl #[.int .i64 Gb,.int .i64 0,.int .i64 (wrap64 (Ma - 1))] rfl (by (try simp only [List.map_toArray,List.map_cons,List.map_nil]);first|done|rfl|(simp only [List.length_drop,List.length_take];rfl)) ?_;(with_reducible refine (Wa.calls Gb 0 (wrap64 (Ma - 1)) t106 _ CQ.out).mono ?_);rintro e w' ⟨rfl,⟨nd,rfl⟩⟩;refine ⟨_,rfl,?_⟩));go_ret;exact ⟨by first|rfl|(simp [Ja,Ia] <;> rfl)|(simp [*,Ja,Ia] <;> rfl),by repeat (first|(with_reducible first|exact HB.out|apply oa|apply ja|apply qa|refine ua ?_ Ua.out|refine ua ?_ Cb.out)|exact HB.out)⟩
     ·rw [if_neg PF] at H;have lO:(Ob == 1)=false:=beq_eq_false_iff_ne.mpr PF;have kO:(Ob != 1)=true:=bne_iff_ne.mpr PF
      by_cases aH:Ob=2
      ·rw [if_pos aH] at H;have jO:(Ob == 2)=true:=beq_iff_eq.mpr aH;have iO:(Ob != 2)=false:=bne_eq_false_iff_eq.mpr aH;clear aH
       by_cases xT:t106=true
       ·subst xT;have H1:(if Ib=0 then (some (fc == 0)) else (some false))=some r:=by rw [if_pos rfl] at H;exact H
        clear H;have H:=H1;clear H1
        by_cases ZG:Ib=0
        ·rw [if_pos ZG] at H;have gO:(Ib == 0)=true:=beq_iff_eq.mpr ZG;have fO:(Ib != 0)=false:=bne_eq_false_iff_eq.mpr ZG;clear ZG;obtain rfl:=Option.some.inj H;have xN:=Xa.out;have uN:=Za.out;have Dv:wr.cell? ⟨Ga,0,none⟩=some (.slice Ff Dc.length kf):=(ga ya.out 0).trans rfl;have Cv:wr.cell? ⟨Ga,1,none⟩=some (.int .i64 Ob):=(ga ya.out 1).trans rfl;have Bv:wr.cell? ⟨Ga,2,none⟩=some (.int .i64 Gb):=(ga ya.out 2).trans rfl;have Av:wr.cell? ⟨Ga,3,none⟩=some (.int .i64 Ib):=(ga ya.out 3).trans rfl;have zv:wr.cell? ⟨Ga,4,none⟩=some (.int .i64 fc):=(ga ya.out 4).trans rfl;have Qu:=aa ya.out 0;have Pu:=aa ya.out 1;have Ou:=aa ya.out 2;have Nu:=aa ya.out 3;have Mu:=aa ya.out 4;have zS:wr.cell? ⟨Da,0,none⟩=some (.slice xb Sa.length qb):=(ga ta.out 0).trans rfl;have yS:wr.cell? ⟨Da,1,none⟩=some (.int .i64 Pa):=(ga ta.out 1).trans rfl;have xS:wr.cell? ⟨Da,2,none⟩=some (.int .i64 Na):=(ga ta.out 2).trans rfl;have wS:wr.cell? ⟨Da,3,none⟩=some (.int .i64 Ma):=(ga ta.out 3).trans rfl;have vS:wr.cell? ⟨Da,4,none⟩=some (.slice Qb La.length Fb):=(ga ta.out 4).trans rfl;have tR:=aa ta.out 0;have sR:=aa ta.out 1;have rR:=aa ta.out 2;have qR:=aa ta.out 3;have pR:=aa ta.out 4;go_wp2_with (first|((with_reducible refine jb (f:=54) rfl ?_);refine Lc (some 29) rfl rfl Try.func54 (by kernel_rfl) rfl #[.int .i64 Ib,.int .i64 0,.int .i64 (wrap64 ((La.length:Int) - 1))] rfl (by (try simp only [List.map_toArray,List.map_cons,List.map_nil]);first|done|rfl|(simp only [List.length_drop,List.length_take];rfl)) ?_;(with_reducible refine (Wa.calls Ib 0 (wrap64 ((La.length:Int) - 1)) t105 _ DQ.out).mono ?_);rintro e w' ⟨rfl,⟨nd,rfl⟩⟩;refine ⟨_,rfl,?_⟩)|((with_reducible refine jb (f:=54) rfl ?_);refine Lc (some 35) rfl rfl Try.func54 (by kernel_rfl) rfl #[.int .i64 Gb,.int .i64 0,.int .i64 (wrap64 (Ma - 1))] rfl (by (try simp only [List.map_toArray,List.map_cons,List.map_nil]);first|done|rfl|(simp only [List.length_drop,List.length_take];rfl)) ?_;(with_reducible refine (Wa.calls Gb 0 (wrap64 (Ma - 1)) true _ CQ.out).mono ?_);rintro e w' ⟨rfl,⟨nd,rfl⟩⟩;refine ⟨_,rfl,?_⟩));go_ret;exact ⟨by first|rfl|(simp [Ja,Ia] <;> rfl)|(simp [*,Ja,Ia] <;> rfl),by repeat (first|(with_reducible first|exact HB.out|apply oa|apply ja|apply qa|refine ua ?_ Ua.out|refine ua ?_ Cb.out)|exact HB.out)⟩
        ·rw [if_neg ZG] at H;have gO:(Ib == 0)=false:=beq_eq_false_iff_ne.mpr ZG;have fO:(Ib != 0)=true:=bne_iff_ne.mpr ZG;obtain rfl:=Option.some.inj H;have Rak:=Xa.out;have nak:=Za.out;have tJ:wr.cell? ⟨Ga,0,none⟩=some (.slice Ff Dc.length kf):=(ga ya.out 0).trans rfl;have sJ:wr.cell? ⟨Ga,1,none⟩=some (.int .i64 Ob):=(ga ya.out 1).trans rfl;have rJ:wr.cell? ⟨Ga,2,none⟩=some (.int .i64 Gb):=(ga ya.out 2).trans rfl;have qJ:wr.cell? ⟨Ga,3,none⟩=some (.int .i64 Ib):=(ga ya.out 3).trans rfl;have pJ:wr.cell? ⟨Ga,4,none⟩=some (.int .i64 fc):=(ga ya.out 4).trans rfl;have kI:=aa ya.out 0;have jI:=aa ya.out 1;have iI:=aa ya.out 2;have gI:=aa ya.out 3;have fI:=aa ya.out 4;have oJ:wr.cell? ⟨Da,0,none⟩=some (.slice xb Sa.length qb):=(ga ta.out 0).trans rfl;have nJ:wr.cell? ⟨Da,1,none⟩=some (.int .i64 Pa):=(ga ta.out 1).trans rfl;have mJ:wr.cell? ⟨Da,2,none⟩=some (.int .i64 Na):=(ga ta.out 2).trans rfl;have lJ:wr.cell? ⟨Da,3,none⟩=some (.int .i64 Ma):=(ga ta.out 3).trans rfl;have kJ:wr.cell? ⟨Da,4,none⟩=some (.slice Qb La.length Fb):=(ga ta.out 4).trans rfl;have eI:=aa ta.out 0;have dI:=aa ta.out 1;have cI:=aa ta.out 2;have bI:=aa ta.out 3;have aI:=aa ta.out 4;go_wp2_with (first|((with_reducible refine jb (f:=54) rfl ?_);refine Lc (some 29) rfl rfl Try.func54 (by kernel_rfl) rfl #[.int .i64 Ib,.int .i64 0,.int .i64 (wrap64 ((La.length:Int) - 1))] rfl (by (try simp only [List.map_toArray,List.map_cons,List.map_nil]);first|done|rfl|(simp only [List.length_drop,List.length_take];rfl)) ?_;(with_reducible refine (Wa.calls Ib 0 (wrap64 ((La.length:Int) - 1)) t105 _ DQ.out).mono ?_);rintro e w' ⟨rfl,⟨nd,rfl⟩⟩;refine ⟨_,rfl,?_⟩)|((with_reducible refine jb (f:=54) rfl ?_);refine Lc (some 35) rfl rfl Try.func54 (by kernel_rfl) rfl #[.int .i64 Gb,.int .i64 0,.int .i64 (wrap64 (Ma - 1))] rfl (by (try simp only [List.map_toArray,List.map_cons,List.map_nil]);first|done|rfl|(simp only [List.length_drop,List.length_take];rfl)) ?_;(with_reducible refine (Wa.calls Gb 0 (wrap64 (Ma - 1)) true _ CQ.out).mono ?_);rintro e w' ⟨rfl,⟨nd,rfl⟩⟩;refine ⟨_,rfl,?_⟩));go_ret;exact ⟨by first|rfl|(simp [Ja,Ia] <;> rfl)|(simp [*,Ja,Ia] <;> rfl),by repeat (first|(with_reducible first|exact HB.out|apply oa|apply ja|apply qa|refine ua ?_ Ua.out|refine ua ?_ Cb.out)|exact HB.out)⟩
       ·replace xT:=Bool.eq_false_iff.mpr xT;subst xT;have H1:(some false)=some r:=by rw [if_neg (show ¬ (false=true) by decide)] at H;exact H
        clear H;have H:=H1;clear H1;obtain rfl:=Option.some.inj H;have Qak:=Xa.out;have mak:=Za.out;have Jae:wr.cell? ⟨Ga,0,none⟩=some (.slice Ff Dc.length kf):=(ga ya.out 0).trans rfl;have Iae:wr.cell? ⟨Ga,1,none⟩=some (.int .i64 Ob):=(ga ya.out 1).trans rfl;have Hae:wr.cell? ⟨Ga,2,none⟩=some (.int .i64 Gb):=(ga ya.out 2).trans rfl;have Gae:wr.cell? ⟨Ga,3,none⟩=some (.int .i64 Ib):=(ga ya.out 3).trans rfl;have Fae:wr.cell? ⟨Ga,4,none⟩=some (.int .i64 fc):=(ga ya.out 4).trans rfl;have Gab:=aa ya.out 0;have Fab:=aa ya.out 1;have Eab:=aa ya.out 2;have Dab:=aa ya.out 3;have Cab:=aa ya.out 4;have Eae:wr.cell? ⟨Da,0,none⟩=some (.slice xb Sa.length qb):=(ga ta.out 0).trans rfl;have Dae:wr.cell? ⟨Da,1,none⟩=some (.int .i64 Pa):=(ga ta.out 1).trans rfl;have Cae:wr.cell? ⟨Da,2,none⟩=some (.int .i64 Na):=(ga ta.out 2).trans rfl;have Bae:wr.cell? ⟨Da,3,none⟩=some (.int .i64 Ma):=(ga ta.out 3).trans rfl;have Aae:wr.cell? ⟨Da,4,none⟩=some (.slice Qb La.length Fb):=(ga ta.out 4).trans rfl;have Bab:=aa ta.out 0;have Aab:=aa ta.out 1;have zab:=aa ta.out 2;have yab:=aa ta.out 3;have xab:=aa ta.out 4;go_wp2_with (first|((with_reducible refine jb (f:=54) rfl ?_);refine Lc (some 29) rfl rfl Try.func54 (by kernel_rfl) rfl #[.int .i64 Ib,.int .i64 0,.int .i64 (wrap64 ((La.length:Int) - 1))] rfl (by (try simp only [List.map_toArray,List.map_cons,List.map_nil]);first|done|rfl|(simp only [List.length_drop,List.length_take];rfl)) ?_;(with_reducible refine (Wa.calls Ib 0 (wrap64 ((La.length:Int) - 1)) t105 _ DQ.out).mono ?_);rintro e w' ⟨rfl,⟨nd,rfl⟩⟩;refine ⟨_,rfl,?_⟩)|((with_reducible refine jb (f:=54) rfl ?_);refine Lc (some 35) rfl rfl Try.func54 (by kernel_rfl) rfl #[.int .i64 Gb,.int .i64 0,.int .i64 (wrap64 (Ma - 1))] rfl (by (try simp only [List.map_toArray,List.map_cons,List.map_nil]);first|done|rfl|(simp only [List.length_drop,List.length_take];rfl)) ?_;(with_reducible refine (Wa.calls Gb 0 (wrap64 (Ma - 1)) false _ CQ.out).mono ?_);rintro e w' ⟨rfl,⟨nd,rfl⟩⟩;refine ⟨_,rfl,?_⟩));go_ret;exact ⟨by first|rfl|(simp [Ja,Ia] <;> rfl)|(simp [*,Ja,Ia] <;> rfl),by repeat (first|(with_reducible first|exact HB.out|apply oa|apply ja|apply qa|refine ua ?_ Ua.out|refine ua ?_ Cb.out)|exact HB.out)⟩
      ·rw [if_neg aH] at H;have jO:(Ob == 2)=false:=beq_eq_false_iff_ne.mpr aH;have iO:(Ob != 2)=true:=bne_iff_ne.mpr aH;obtain rfl:=Option.some.inj H;have Pak:=Xa.out;have lak:=Za.out;have zae:wr.cell? ⟨Ga,0,none⟩=some (.slice Ff Dc.length kf):=(ga ya.out 0).trans rfl;have yae:wr.cell? ⟨Ga,1,none⟩=some (.int .i64 Ob):=(ga ya.out 1).trans rfl;have xae:wr.cell? ⟨Ga,2,none⟩=some (.int .i64 Gb):=(ga ya.out 2).trans rfl;have wae:wr.cell? ⟨Ga,3,none⟩=some (.int .i64 Ib):=(ga ya.out 3).trans rfl;have vae:wr.cell? ⟨Ga,4,none⟩=some (.int .i64 fc):=(ga ya.out 4).trans rfl;have wab:=aa ya.out 0;have vab:=aa ya.out 1;have uab:=aa ya.out 2;have sab:=aa ya.out 3;have rab:=aa ya.out 4;have sS:wr.cell? ⟨Da,0,none⟩=some (.slice xb Sa.length qb):=(ga ta.out 0).trans rfl;have rS:wr.cell? ⟨Da,1,none⟩=some (.int .i64 Pa):=(ga ta.out 1).trans rfl;have pS:wr.cell? ⟨Da,2,none⟩=some (.int .i64 Na):=(ga ta.out 2).trans rfl;have oS:wr.cell? ⟨Da,3,none⟩=some (.int .i64 Ma):=(ga ta.out 3).trans rfl;have nS:wr.cell? ⟨Da,4,none⟩=some (.slice Qb La.length Fb):=(ga ta.out 4).trans rfl;have lR:=aa ta.out 0;have kR:=aa ta.out 1;have jR:=aa ta.out 2;have iR:=aa ta.out 3;have gR:=aa ta.out 4;go_wp2_with (first|((with_reducible refine jb (f:=54) rfl ?_);refine Lc (some 29) rfl rfl Try.func54 (by kernel_rfl) rfl #[.int .i64 Ib,.int .i64 0,.int .i64 (wrap64 ((La.length:Int) - 1))] rfl (by (try simp only [List.map_toArray,List.map_cons,List.map_nil]);first|done|rfl|(simp only [List.length_drop,List.length_take];rfl)) ?_;(with_reducible refine (Wa.calls Ib 0 (wrap64 ((La.length:Int) - 1)) t105 _ DQ.out).mono ?_);rintro e w' ⟨rfl,⟨nd,rfl⟩⟩;refine ⟨_,rfl,?_⟩)|((with_reducible refine jb (f:=54) rfl ?_);refine Lc (some 35) rfl rfl Try.func54 (by kernel_rfl) rfl #[.int .i64 Gb,.int .i64 0,.int .i64 (wrap64 (Ma - 1))] rfl (by (try simp only [List.map_toArray,List.map_cons,List.map_nil]);first|done|rfl|(simp only [List.length_drop,List.length_take];rfl)) ?_;(with_reducible refine (Wa.calls Gb 0 (wrap64 (Ma - 1)) t106 _ CQ.out).mono ?_);rintro e w' ⟨rfl,⟨nd,rfl⟩⟩;refine ⟨_,rfl,?_⟩));go_ret;exact ⟨by first|rfl|(simp [Ja,Ia] <;> rfl)|(simp [*,Ja,Ia] <;> rfl),by repeat (first|(with_reducible first|exact HB.out|apply oa|apply ja|apply qa|refine ua ?_ Ua.out|refine ua ?_ Cb.out)|exact HB.out)⟩
mutual
def Va.l0:Nat→Int→List Int→Int→Int→Int→List (Te)→Option (Bool)
 | 0,_,_,_,_,_,_=>none
 | k + 1,x3,Sd,ie,yd,Ld,Fc=>if x3 < (Sd.length:Int) then (if 0 ≤ x3 then ((Wa.f (rd Sd x3) 1 16).bind fun t103=>(if t103=true then (Va.l0 k (wrap64 (x3 + 1)) Sd ie yd Ld Fc) else (some false))) else (none)) else ((Wa.f (Sd.length:Int) 1 4).bind fun t104=>(if t104=true then ((Wa.f yd 0 20).bind fun t105=>(if t105=true then ((Wa.f ie 0 6).bind fun t106=>(if t106=true then (if ie > yd then (Va.j1 k true Sd ie yd Ld Fc) else ((Wa.f Ld yd 1000).bind fun t107=>(if t107=true then ((Wa.f (Fc.length:Int) 1 300).bind fun t108=>(Va.j1 k (!t108) Sd ie yd Ld Fc)) else (Va.j1 k true Sd ie yd Ld Fc)))) else (Va.j1 k true Sd ie yd Ld Fc))) else (Va.j1 k true Sd ie yd Ld Fc))) else (Va.j1 k true Sd ie yd Ld Fc)))
def Va.j1:Nat→Bool→List Int→Int→Int→Int→List (Te)→Option (Bool)
 | 0,_,_,_,_,_,_=>none
 | k + 1,x58,Sd,ie,yd,Ld,Fc=>if x58=true then (some false) else (Va.l1 k 0 0 Sd ie yd Ld Fc)
def Va.l1:Nat→Int→Int→List Int→Int→Int→Int→List (Te)→Option (Bool)
 | 0,_,_,_,_,_,_,_=>none
 | k + 1,x4,x5,Sd,ie,yd,Ld,Fc=>if x5 < (Fc.length:Int) then (if 0 ≤ x5 then (if (wrap64 (x4 + (((Ka Fc x5).f0).length:Int))) > 1000 then (some false) else ((Xb.f k Sd ie yd Ld Fc ((Ka Fc x5).f0) ((Ka Fc x5).f1) ((Ka Fc x5).f2) ((Ka Fc x5).f3) ((Ka Fc x5).f4)).bind fun t111=>(if t111=true then (Va.l1 k (wrap64 (x4 + (((Ka Fc x5).f0).length:Int))) (wrap64 (x5 + 1)) Sd ie yd Ld Fc) else (some false)))) else (none)) else (some true)
end
def Va.f (k:Nat) (Sa:List Int) (Pa:Int) (Na:Int) (Ma:Int) (La:List (Te)):Option (Bool):=Va.l0 k 0 Sa Pa Na Ma La
def Va.T13:Bool × List (List Nat × List Nat):=(true,[([],[]),([0],[0]),([1],[1]),([2],[2]),([2],[2]),([4,2],[2,4]),([2],[2]),([5,6,2],[2,5,6]),([7,2],[2,7]),([3,8,2,2],[2,3,8]),([9,2],[2,9]),([2,10],[2,10])])
def Va.B13:List Nat:=[0,1,3,7,7,23,7,119,247,511,1023,2047]
theorem Va.yM:zm .any (opsOf Try.f53 13)=Va.T13:=by kernel_rfl
theorem Va.lH:Dm Va.T13.2 Va.B13=true:=by kernel_rfl
theorem Va.calls (k:Nat) (xb:Option Addr) (qb:Nat) (Sa:List Int) (Pa:Int) (Na:Int) (Ma:Int) (Qb:Option Addr) (Fb:Nat) (La:List (Te)) (r:Bool) (w:World) (zf:Kd.C (Kd.int .i64) w xb Sa.length Sa) (uf:Sa.length ≤ qb) (Ig:Kd.C Tk w Qb La.length La) (Cg:La.length ≤ Fb) (h:Va.f k Sa Pa Na Ma La=some r) :
  Calls Try.prog 53 #[.agg #[.slice xb Sa.length qb,.int .i64 Pa,.int .i64 Na,.int .i64 Ma,.slice Qb La.length Fb]] w fun e w'=>e = .returned (.bool r)∧Below w.heap.size w w':=by
 have ME:=Try.underlying30;have KE:=Try.underlying68;have Qf:=ia.mk zf;have sg:=ia.mk uf;clear zf uf;have Dh:=ia.mk Ig;have Xj:=ia.mk Cg;clear Ig Cg;have HB:=ia.mk (Below.refl w.heap.size w);have H:(Va.l0 k 0 Sa Pa Na Ma La)=some r:=h;clear h;have H':=ia.mk H;clear H;go_enter Try.func53,Try.ntmps53;go_wp2_with (first|((with_reducible refine Bb (N:=1) rfl ?_);(try (refine Fi (by rfl) ?_;dsimp only));refine Ab ?hg (N:=1) ?hd (cs:=#[.slice xb Sa.length qb,.int .i64 Pa,.int .i64 Na,.int .i64 Ma,.slice Qb La.length Fb]) (t:=30) ?hr ?_;(case hd=>rfl);(case hg=>rfl);(case hr=>first|(go_simp;done)|(go_simp;rfl));intro Da hg w2 Nb hb;have Kb:=ia.mk (Ra (by repeat (first|(with_reducible first|exact HB.out|apply oa|apply ja|apply qa)|exact HB.out)) hb);have Ub:=ia.mk (Nb);have yc:=ia.mk ((by rw [hg];exact (Qa (by repeat (first|(with_reducible first|exact HB.out|apply oa|apply ja|apply qa)|exact HB.out))):w.heap.size ≤ Da));have Tc:=ia.mk ((by rw [hg];exact (Qa (by repeat (first|(with_reducible first|exact HB.out|apply oa|apply ja|apply qa)|exact HB.out))):w.heap.size ≤ Da));clear HB;have HB:=Kb;have ta:=Ub;have Df:=yc;have Ua:=Tc;clear Kb Ub yc Tc hb Nb hg))
 go_loopg [3] k (fun kq v3 w'=>∃ (Ue:Int),v3 = .int .i64 Ue∧ia (Va.l0 kq Ue Sa Pa Na Ma La=some r)∧ia (kq ≤ k)∧ia (w'.heap[Da]? = some (.cells #[(.slice xb Sa.length qb),.int .i64 Pa,.int .i64 Na,.int .i64 Ma,(.slice Qb La.length Fb)] 30 (0,0)))∧ia (Below w.heap.size w w'))
 case atStart=>exact ⟨(0),(by first|rfl|(simp;done)|(simp [*];done)),H',⟨Nat.le_refl _⟩,⟨by (with_reducible repeat (first|refine Aa ?_ _|refine Ca ?_|refine za ?_ _));exact ta.out⟩,⟨by repeat (first|(with_reducible first|exact HB.out|apply oa|apply ja|apply qa|refine ua ?_ Ua.out)|exact HB.out)⟩⟩
 case round =>
  clear H'
  try clear p2
  (try clear HA);(try clear Kh);(try clear ta);(try clear HB);obtain ⟨Ue,rfl,HA,Kh,ta,HB⟩:=hrel;cases gk with
  | zero=>exact absurd HA.out (by simp [Va.l0])
  | succ k1 =>
   have H:=HA.out;clear HA;simp only [Va.l0] at H
   by_cases c3:Ue < (Sa.length:Int)
   ·rw [if_pos c3] at H;have Hh:decide (Ue < (Sa.length:Int))=true:=decide_eq_true c3;clear c3
    by_cases c4:0 ≤ Ue
    ·rw [if_pos c4] at H;have jk:decide (0 ≤ Ue)=true:=decide_eq_true c4;clear c4;replace H:=Option.bind_eq_some_iff.mp H;obtain ⟨t103,gW,H⟩:=H;replace H:(if t103=true then (Va.l0 k1 (wrap64 (Ue + 1)) Sa Pa Na Ma La) else (some false))=some r:=H;have A5:=ia.mk gW;clear gW
     by_cases c6:t103=true
     ·subst c6;have H1:(Va.l0 k1 (wrap64 (Ue + 1)) Sa Pa Na Ma La)=some r:=by rw [if_pos rfl] at H;exact H
      clear H;have H:=H1;clear H1;have H':=ia.mk H;clear H;have xq:wr.cell? ⟨Da,0,none⟩=some (.slice xb Sa.length qb):=(ga ta.out 0).trans rfl;have vq:wr.cell? ⟨Da,1,none⟩=some (.int .i64 Pa):=(ga ta.out 1).trans rfl;have uq:wr.cell? ⟨Da,2,none⟩=some (.int .i64 Na):=(ga ta.out 2).trans rfl;have sq:wr.cell? ⟨Da,3,none⟩=some (.int .i64 Ma):=(ga ta.out 3).trans rfl;have rq:wr.cell? ⟨Da,4,none⟩=some (.slice Qb La.length Fb):=(ga ta.out 4).trans rfl;have qq:=aa ta.out 0;have pq:=aa ta.out 1;have oq:=aa ta.out 2;have mq:=aa ta.out 3;have lq:=aa ta.out 4;have Gg:0 ≤ (Ue:Int):=of_decide_eq_true (by first|(with_reducible assumption)|assumption);have Fg:Ue < (Sa.length:Int):=of_decide_eq_true (by first|(with_reducible assumption)|assumption);obtain ⟨De,Il,Bd⟩:=Kd.Bh Qf.out Ue Gg Fg;cases Il;replace Bd:=Ba HB.out Bd;replace Gg:=eq_true Gg;replace Fg:=eq_true Fg;go_wp2_with (first|((with_reducible refine jb (f:=54) rfl ?_);refine Lc (some 18) rfl rfl Try.func54 (by kernel_rfl) rfl #[.int .i64 (rd Sa Ue),.int .i64 1,.int .i64 16] rfl (by (try simp only [List.map_toArray,List.map_cons,List.map_nil]);first|done|rfl|(simp only [List.length_drop,List.length_take];rfl)) ?_;(with_reducible refine (Wa.calls (rd Sa Ue) 1 16 true _ A5.out).mono ?_);rintro e w' ⟨rfl,⟨nd,rfl⟩⟩;refine ⟨_,rfl,?_⟩))
      go_roundg k1
      case measure=>have:=Kh.out;omega
      case rel=>exact ⟨(wrap64 (Ue + 1)),(by first|rfl|(simp;done)|(simp [*];done)),H',⟨by have:=Kh.out;omega⟩,⟨by (with_reducible repeat (first|refine Aa ?_ _|refine Ca ?_|refine za ?_ _));exact ta.out⟩,⟨by repeat (first|(with_reducible first|exact HB.out|apply oa|apply ja|apply qa|refine ua ?_ Ua.out)|exact HB.out)⟩⟩
     ·replace c6:=Bool.eq_false_iff.mpr c6;subst c6;have H1:(some false)=some r:=by rw [if_neg (show ¬ (false=true) by decide)] at H;exact H
      clear H;have H:=H1;clear H1;obtain rfl:=Option.some.inj H;have IG:wr.cell? ⟨Da,0,none⟩=some (.slice xb Sa.length qb):=(ga ta.out 0).trans rfl;have GG:wr.cell? ⟨Da,1,none⟩=some (.int .i64 Pa):=(ga ta.out 1).trans rfl;have FG:wr.cell? ⟨Da,2,none⟩=some (.int .i64 Na):=(ga ta.out 2).trans rfl;have EG:wr.cell? ⟨Da,3,none⟩=some (.int .i64 Ma):=(ga ta.out 3).trans rfl;have DG:wr.cell? ⟨Da,4,none⟩=some (.slice Qb La.length Fb):=(ga ta.out 4).trans rfl;have yG:=aa ta.out 0;have xG:=aa ta.out 1;have wG:=aa ta.out 2;have vG:=aa ta.out 3;have uG:=aa ta.out 4;have Gg:0 ≤ (Ue:Int):=of_decide_eq_true (by first|(with_reducible assumption)|assumption);have Fg:Ue < (Sa.length:Int):=of_decide_eq_true (by first|(with_reducible assumption)|assumption);obtain ⟨De,Il,Bd⟩:=Kd.Bh Qf.out Ue Gg Fg;cases Il;replace Bd:=Ba HB.out Bd;replace Gg:=eq_true Gg;replace Fg:=eq_true Fg;go_wp2_with (first|((with_reducible refine jb (f:=54) rfl ?_);refine Lc (some 18) rfl rfl Try.func54 (by kernel_rfl) rfl #[.int .i64 (rd Sa Ue),.int .i64 1,.int .i64 16] rfl (by (try simp only [List.map_toArray,List.map_cons,List.map_nil]);first|done|rfl|(simp only [List.length_drop,List.length_take];rfl)) ?_;(with_reducible refine (Wa.calls (rd Sa Ue) 1 16 false _ A5.out).mono ?_);rintro e w' ⟨rfl,⟨nd,rfl⟩⟩;refine ⟨_,rfl,?_⟩));go_ret;exact ⟨by first|rfl|(simp [Ja,Ia] <;> rfl)|(simp [*,Ja,Ia] <;> rfl),by repeat (first|(with_reducible first|exact HB.out|apply oa|apply ja|apply qa|refine ua ?_ Ua.out)|exact HB.out)⟩
    ·rw [if_neg c4] at H;exact absurd H (by simp)
   ·rw [if_neg c3] at H;have Hh:decide (Ue < (Sa.length:Int))=false:=decide_eq_false c3;clear c3;have Vw:=ia.mk H;clear H;have Tj:wr.cell? ⟨Da,0,none⟩=some (.slice xb Sa.length qb):=(ga ta.out 0).trans rfl;have Sj:wr.cell? ⟨Da,1,none⟩=some (.int .i64 Pa):=(ga ta.out 1).trans rfl;have Rj:wr.cell? ⟨Da,2,none⟩=some (.int .i64 Na):=(ga ta.out 2).trans rfl;have Qj:wr.cell? ⟨Da,3,none⟩=some (.int .i64 Ma):=(ga ta.out 3).trans rfl;have Pj:wr.cell? ⟨Da,4,none⟩=some (.slice Qb La.length Fb):=(ga ta.out 4).trans rfl;have Oj:=aa ta.out 0;have Nj:=aa ta.out 1;have Mj:=aa ta.out 2;have Lj:=aa ta.out 3;have Kj:=aa ta.out 4
    go_upto_region 6 with (fail)
    go_cut [58] (fun v58 wc=>∃ (kq:Nat) (JH:Bool),v58 = .bool JH∧ia (Va.j1 kq JH Sa Pa Na Ma La=some r)∧ia (kq ≤ k1)∧ia (wc.heap[Da]? = some (.cells #[(.slice xb Sa.length qb),.int .i64 Pa,.int .i64 Na,.int .i64 Ma,(.slice Qb La.length Fb)] 30 (0,0)))∧ia (Below w.heap.size w wc))
    case first =>
     have H:=Vw.out;clear Vw;replace H:=Option.bind_eq_some_iff.mp H;obtain ⟨t104,FF,H⟩:=H;replace H:(if t104=true then ((Wa.f Na 0 20).bind fun t105=>(if t105=true then ((Wa.f Pa 0 6).bind fun t106=>(if t106=true then (if Pa > Na then (Va.j1 k1 true Sa Pa Na Ma La) else ((Wa.f Ma Na 1000).bind fun t107=>(if t107=true then ((Wa.f (La.length:Int) 1 300).bind fun t108=>(Va.j1 k1 (!t108) Sa Pa Na Ma La)) else (Va.j1 k1 true Sa Pa Na Ma La)))) else (Va.j1 k1 true Sa Pa Na Ma La))) else (Va.j1 k1 true Sa Pa Na Ma La))) else (Va.j1 k1 true Sa Pa Na Ma La))=some r:=H;have kQ:=ia.mk FF;clear FF
     by_cases iA:t104=true
     ·subst iA;have H1:((Wa.f Na 0 20).bind fun t105=>(if t105=true then ((Wa.f Pa 0 6).bind fun t106=>(if t106=true then (if Pa > Na then (Va.j1 k1 true Sa Pa Na Ma La) else ((Wa.f Ma Na 1000).bind fun t107=>(if t107=true then ((Wa.f (La.length:Int) 1 300).bind fun t108=>(Va.j1 k1 (!t108) Sa Pa Na Ma La)) else (Va.j1 k1 true Sa Pa Na Ma La)))) else (Va.j1 k1 true Sa Pa Na Ma La))) else (Va.j1 k1 true Sa Pa Na Ma La)))=some r:=by rw [if_pos rfl] at H;exact H
      clear H;have H:=H1;clear H1;replace H:=Option.bind_eq_some_iff.mp H;obtain ⟨t105,l_,H⟩:=H;replace H:(if t105=true then ((Wa.f Pa 0 6).bind fun t106=>(if t106=true then (if Pa > Na then (Va.j1 k1 true Sa Pa Na Ma La) else ((Wa.f Ma Na 1000).bind fun t107=>(if t107=true then ((Wa.f (La.length:Int) 1 300).bind fun t108=>(Va.j1 k1 (!t108) Sa Pa Na Ma La)) else (Va.j1 k1 true Sa Pa Na Ma La)))) else (Va.j1 k1 true Sa Pa Na Ma La))) else (Va.j1 k1 true Sa Pa Na Ma La))=some r:=H;have o_:=ia.mk l_;clear l_
      by_cases kZ:t105=true
      ·subst kZ;have H1:((Wa.f Pa 0 6).bind fun t106=>(if t106=true then (if Pa > Na then (Va.j1 k1 true Sa Pa Na Ma La) else ((Wa.f Ma Na 1000).bind fun t107=>(if t107=true then ((Wa.f (La.length:Int) 1 300).bind fun t108=>(Va.j1 k1 (!t108) Sa Pa Na Ma La)) else (Va.j1 k1 true Sa Pa Na Ma La)))) else (Va.j1 k1 true Sa Pa Na Ma La)))=some r:=by rw [if_pos rfl] at H;exact H
       clear H;have H:=H1;clear H1;replace H:=Option.bind_eq_some_iff.mp H;obtain ⟨t106,i_,H⟩:=H;replace H:(if t106=true then (if Pa > Na then (Va.j1 k1 true Sa Pa Na Ma La) else ((Wa.f Ma Na 1000).bind fun t107=>(if t107=true then ((Wa.f (La.length:Int) 1 300).bind fun t108=>(Va.j1 k1 (!t108) Sa Pa Na Ma La)) else (Va.j1 k1 true Sa Pa Na Ma La)))) else (Va.j1 k1 true Sa Pa Na Ma La))=some r:=H;have A15:=ia.mk i_;clear i_
       by_cases gM:t106=true
       ·subst gM;have H1:(if Pa > Na then (Va.j1 k1 true Sa Pa Na Ma La) else ((Wa.f Ma Na 1000).bind fun t107=>(if t107=true then ((Wa.f (La.length:Int) 1 300).bind fun t108=>(Va.j1 k1 (!t108) Sa Pa Na Ma La)) else (Va.j1 k1 true Sa Pa Na Ma La))))=some r:=by rw [if_pos rfl] at H;exact H
        clear H;have H:=H1;clear H1
        by_cases UA:Pa > Na
        ·rw [if_pos UA] at H;have iw:decide (Na < Pa)=true:=decide_eq_true UA;clear UA;(first|rw [iw]|(simp only [dc,ec];rw [iw])|skip);have H':=ia.mk H;clear H;have Nr:wr.cell? ⟨Da,0,none⟩=some (.slice xb Sa.length qb):=(ga ta.out 0).trans rfl;have Mr:wr.cell? ⟨Da,1,none⟩=some (.int .i64 Pa):=(ga ta.out 1).trans rfl;have Lr:wr.cell? ⟨Da,2,none⟩=some (.int .i64 Na):=(ga ta.out 2).trans rfl;have Kr:wr.cell? ⟨Da,3,none⟩=some (.int .i64 Ma):=(ga ta.out 3).trans rfl;have Jr:wr.cell? ⟨Da,4,none⟩=some (.slice Qb La.length Fb):=(ga ta.out 4).trans rfl;have ir:=aa ta.out 0;have gr:=aa ta.out 1;have er:=aa ta.out 2;have dr:=aa ta.out 3;have cr:=aa ta.out 4;go_wp2_with (first|((with_reducible refine jb (f:=54) rfl ?_);refine Lc (some 23) rfl rfl Try.func54 (by kernel_rfl) rfl #[.int .i64 (Sa.length:Int),.int .i64 1,.int .i64 4] rfl (by (try simp only [List.map_toArray,List.map_cons,List.map_nil]);first|done|rfl|(simp only [List.length_drop,List.length_take];rfl)) ?_;(with_reducible refine (Wa.calls (Sa.length:Int) 1 4 true _ kQ.out).mono ?_);rintro e w' ⟨rfl,⟨nd,rfl⟩⟩;refine ⟨_,rfl,?_⟩)|(go_at_call 54;(with_reducible refine (Wa.calls Na 0 20 true _ o_.out).mono ?_);rintro e w' ⟨rfl,⟨nd,rfl⟩⟩)|(go_at_call 54;(with_reducible refine (Wa.calls Pa 0 6 true _ A15.out).mono ?_);rintro e w' ⟨rfl,⟨nd,rfl⟩⟩))
         go_meet
         case rel=>exact ⟨_,(true),(by first|rfl|(simp;done)|(simp [*];done)),H',⟨by have:=Kh.out;first|omega|exact Nat.le_refl _⟩,⟨by (with_reducible repeat (first|refine Aa ?_ _|refine Ca ?_|refine za ?_ _));exact ta.out⟩,⟨by repeat (first|(with_reducible first|exact HB.out|apply oa|apply ja|apply qa|refine ua ?_ Ua.out)|exact HB.out)⟩⟩
        ·rw [if_neg UA] at H;have iw:decide (Na < Pa)=false:=decide_eq_false UA;clear UA;(first|rw [iw]|(simp only [dc,ec];rw [iw])|skip);replace H:=Option.bind_eq_some_iff.mp H;obtain ⟨t107,d_,H⟩:=H;replace H:(if t107=true then ((Wa.f (La.length:Int) 1 300).bind fun t108=>(Va.j1 k1 (!t108) Sa Pa Na Ma La)) else (Va.j1 k1 true Sa Pa Na Ma La))=some r:=H;have A19:=ia.mk d_;clear d_
         by_cases fA:t107=true
         ·subst fA;have H1:((Wa.f (La.length:Int) 1 300).bind fun t108=>(Va.j1 k1 (!t108) Sa Pa Na Ma La))=some r:=by rw [if_pos rfl] at H;exact H
          clear H;have H:=H1;clear H1;replace H:=Option.bind_eq_some_iff.mp H;obtain ⟨t108,Y9,H⟩:=H;replace H:(Va.j1 k1 (!t108) Sa Pa Na Ma La)=some r:=H;have A21:=ia.mk Y9;clear Y9;have H':=ia.mk H;clear H;have Bp:wr.cell? ⟨Da,0,none⟩=some (.slice xb Sa.length qb):=(ga ta.out 0).trans rfl;have Ap:wr.cell? ⟨Da,1,none⟩=some (.int .i64 Pa):=(ga ta.out 1).trans rfl;have zp:wr.cell? ⟨Da,2,none⟩=some (.int .i64 Na):=(ga ta.out 2).trans rfl;have yp:wr.cell? ⟨Da,3,none⟩=some (.int .i64 Ma):=(ga ta.out 3).trans rfl;have xp:wr.cell? ⟨Da,4,none⟩=some (.slice Qb La.length Fb):=(ga ta.out 4).trans rfl;have Zo:=aa ta.out 0;have Yo:=aa ta.out 1;have Xo:=aa ta.out 2;have Wo:=aa ta.out 3;have Vo:=aa ta.out 4;go_wp2_with (first|((with_reducible refine jb (f:=54) rfl ?_);refine Lc (some 23) rfl rfl Try.func54 (by kernel_rfl) rfl #[.int .i64 (Sa.length:Int),.int .i64 1,.int .i64 4] rfl (by (try simp only [List.map_toArray,List.map_cons,List.map_nil]);first|done|rfl|(simp only [List.length_drop,List.length_take];rfl)) ?_;(with_reducible refine (Wa.calls (Sa.length:Int) 1 4 true _ kQ.out).mono ?_);rintro e w' ⟨rfl,⟨nd,rfl⟩⟩;refine ⟨_,rfl,?_⟩)|(go_at_call 54;(with_reducible refine (Wa.calls Na 0 20 true _ o_.out).mono ?_);rintro e w' ⟨rfl,⟨nd,rfl⟩⟩)|(go_at_call 54;(with_reducible refine (Wa.calls Pa 0 6 true _ A15.out).mono ?_);rintro e w' ⟨rfl,⟨nd,rfl⟩⟩)|(go_at_call 54;(with_reducible refine (Wa.calls Ma Na 1000 true _ A19.out).mono ?_);rintro e w' ⟨rfl,⟨nd,rfl⟩⟩)|(go_at_call 54;(with_reducible refine (Wa.calls (La.length:Int) 1 300 t108 _ A21.out).mono ?_);rintro e w' ⟨rfl,⟨nd,rfl⟩⟩))
          go_meet
          case rel=>exact ⟨_,(!t108),(by first|rfl|(simp;done)|(simp [*];done)),H',⟨by have:=Kh.out;first|omega|exact Nat.le_refl _⟩,⟨by (with_reducible repeat (first|refine Aa ?_ _|refine Ca ?_|refine za ?_ _));exact ta.out⟩,⟨by repeat (first|(with_reducible first|exact HB.out|apply oa|apply ja|apply qa|refine ua ?_ Ua.out)|exact HB.out)⟩⟩
         ·replace fA:=Bool.eq_false_iff.mpr fA;subst fA;have H1:(Va.j1 k1 true Sa Pa Na Ma La)=some r:=by rw [if_neg (show ¬ (false=true) by decide)] at H;exact H
          clear H;have H:=H1;clear H1;have H':=ia.mk H;clear H;have eo:wr.cell? ⟨Da,0,none⟩=some (.slice xb Sa.length qb):=(ga ta.out 0).trans rfl;have Zn:wr.cell? ⟨Da,1,none⟩=some (.int .i64 Pa):=(ga ta.out 1).trans rfl;have Yn:wr.cell? ⟨Da,2,none⟩=some (.int .i64 Na):=(ga ta.out 2).trans rfl;have Xn:wr.cell? ⟨Da,3,none⟩=some (.int .i64 Ma):=(ga ta.out 3).trans rfl;have Wn:wr.cell? ⟨Da,4,none⟩=some (.slice Qb La.length Fb):=(ga ta.out 4).trans rfl;have Vn:=aa ta.out 0;have Un:=aa ta.out 1;have Tn:=aa ta.out 2;have Sn:=aa ta.out 3;have Rn:=aa ta.out 4;go_wp2_with (first|((with_reducible refine jb (f:=54) rfl ?_);refine Lc (some 23) rfl rfl Try.func54 (by kernel_rfl) rfl #[.int .i64 (Sa.length:Int),.int .i64 1,.int .i64 4] rfl (by (try simp only [List.map_toArray,List.map_cons,List.map_nil]);first|done|rfl|(simp only [List.length_drop,List.length_take];rfl)) ?_;(with_reducible refine (Wa.calls (Sa.length:Int) 1 4 true _ kQ.out).mono ?_);rintro e w' ⟨rfl,⟨nd,rfl⟩⟩;refine ⟨_,rfl,?_⟩)|(go_at_call 54;(with_reducible refine (Wa.calls Na 0 20 true _ o_.out).mono ?_);rintro e w' ⟨rfl,⟨nd,rfl⟩⟩)|(go_at_call 54;(with_reducible refine (Wa.calls Pa 0 6 true _ A15.out).mono ?_);rintro e w' ⟨rfl,⟨nd,rfl⟩⟩)|(go_at_call 54;(with_reducible refine (Wa.calls Ma Na 1000 false _ A19.out).mono ?_);rintro e w' ⟨rfl,⟨nd,rfl⟩⟩))
          go_meet
          case rel=>exact ⟨_,(true),(by first|rfl|(simp;done)|(simp [*];done)),H',⟨by have:=Kh.out;first|omega|exact Nat.le_refl _⟩,⟨by (with_reducible repeat (first|refine Aa ?_ _|refine Ca ?_|refine za ?_ _));exact ta.out⟩,⟨by repeat (first|(with_reducible first|exact HB.out|apply oa|apply ja|apply qa|refine ua ?_ Ua.out)|exact HB.out)⟩⟩
       ·replace gM:=Bool.eq_false_iff.mpr gM;subst gM;have H1:(Va.j1 k1 true Sa Pa Na Ma La)=some r:=by rw [if_neg (show ¬ (false=true) by decide)] at H;exact H
        clear H;have H:=H1;clear H1;have H':=ia.mk H;clear H;have Ov:wr.cell? ⟨Da,0,none⟩=some (.slice xb Sa.length qb):=(ga ta.out 0).trans rfl;have Nv:wr.cell? ⟨Da,1,none⟩=some (.int .i64 Pa):=(ga ta.out 1).trans rfl;have Mv:wr.cell? ⟨Da,2,none⟩=some (.int .i64 Na):=(ga ta.out 2).trans rfl;have Lv:wr.cell? ⟨Da,3,none⟩=some (.int .i64 Ma):=(ga ta.out 3).trans rfl;have Kv:wr.cell? ⟨Da,4,none⟩=some (.slice Qb La.length Fb):=(ga ta.out 4).trans rfl;have av:=aa ta.out 0;have Zu:=aa ta.out 1;have Yu:=aa ta.out 2;have Xu:=aa ta.out 3;have Wu:=aa ta.out 4;go_wp2_with (first|((with_reducible refine jb (f:=54) rfl ?_);refine Lc (some 23) rfl rfl Try.func54 (by kernel_rfl) rfl #[.int .i64 (Sa.length:Int),.int .i64 1,.int .i64 4] rfl (by (try simp only [List.map_toArray,List.map_cons,List.map_nil]);first|done|rfl|(simp only [List.length_drop,List.length_take];rfl)) ?_;(with_reducible refine (Wa.calls (Sa.length:Int) 1 4 true _ kQ.out).mono ?_);rintro e w' ⟨rfl,⟨nd,rfl⟩⟩;refine ⟨_,rfl,?_⟩)|(go_at_call 54;(with_reducible refine (Wa.calls Na 0 20 true _ o_.out).mono ?_);rintro e w' ⟨rfl,⟨nd,rfl⟩⟩)|(go_at_call 54;(with_reducible refine (Wa.calls Pa 0 6 false _ A15.out).mono ?_);rintro e w' ⟨rfl,⟨nd,rfl⟩⟩))
        go_meet
        case rel=>exact ⟨_,(true),(by first|rfl|(simp;done)|(simp [*];done)),H',⟨by have:=Kh.out;first|omega|exact Nat.le_refl _⟩,⟨by (with_reducible repeat (first|refine Aa ?_ _|refine Ca ?_|refine za ?_ _));exact ta.out⟩,⟨by repeat (first|(with_reducible first|exact HB.out|apply oa|apply ja|apply qa|refine ua ?_ Ua.out)|exact HB.out)⟩⟩
      ·replace kZ:=Bool.eq_false_iff.mpr kZ;subst kZ;have H1:(Va.j1 k1 true Sa Pa Na Ma La)=some r:=by rw [if_neg (show ¬ (false=true) by decide)] at H;exact H
       clear H;have H:=H1;clear H1;have H':=ia.mk H;clear H;have Ir:wr.cell? ⟨Da,0,none⟩=some (.slice xb Sa.length qb):=(ga ta.out 0).trans rfl;have Hr:wr.cell? ⟨Da,1,none⟩=some (.int .i64 Pa):=(ga ta.out 1).trans rfl;have Gr:wr.cell? ⟨Da,2,none⟩=some (.int .i64 Na):=(ga ta.out 2).trans rfl;have Er:wr.cell? ⟨Da,3,none⟩=some (.int .i64 Ma):=(ga ta.out 3).trans rfl;have Dr:wr.cell? ⟨Da,4,none⟩=some (.slice Qb La.length Fb):=(ga ta.out 4).trans rfl;have br:=aa ta.out 0;have Zq:=aa ta.out 1;have Yq:=aa ta.out 2;have Xq:=aa ta.out 3;have Wq:=aa ta.out 4;go_wp2_with (first|((with_reducible refine jb (f:=54) rfl ?_);refine Lc (some 23) rfl rfl Try.func54 (by kernel_rfl) rfl #[.int .i64 (Sa.length:Int),.int .i64 1,.int .i64 4] rfl (by (try simp only [List.map_toArray,List.map_cons,List.map_nil]);first|done|rfl|(simp only [List.length_drop,List.length_take];rfl)) ?_;(with_reducible refine (Wa.calls (Sa.length:Int) 1 4 true _ kQ.out).mono ?_);rintro e w' ⟨rfl,⟨nd,rfl⟩⟩;refine ⟨_,rfl,?_⟩)|(go_at_call 54;(with_reducible refine (Wa.calls Na 0 20 false _ o_.out).mono ?_);rintro e w' ⟨rfl,⟨nd,rfl⟩⟩))
       go_meet
       case rel=>exact ⟨_,(true),(by first|rfl|(simp;done)|(simp [*];done)),H',⟨by have:=Kh.out;first|omega|exact Nat.le_refl _⟩,⟨by (with_reducible repeat (first|refine Aa ?_ _|refine Ca ?_|refine za ?_ _));exact ta.out⟩,⟨by repeat (first|(with_reducible first|exact HB.out|apply oa|apply ja|apply qa|refine ua ?_ Ua.out)|exact HB.out)⟩⟩
     ·replace iA:=Bool.eq_false_iff.mpr iA;subst iA;have H1:(Va.j1 k1 true Sa Pa Na Ma La)=some r:=by rw [if_neg (show ¬ (false=true) by decide)] at H;exact H
      clear H;have H:=H1;clear H1;have H':=ia.mk H;clear H;have Jv:wr.cell? ⟨Da,0,none⟩=some (.slice xb Sa.length qb):=(ga ta.out 0).trans rfl;have Iv:wr.cell? ⟨Da,1,none⟩=some (.int .i64 Pa):=(ga ta.out 1).trans rfl;have Hv:wr.cell? ⟨Da,2,none⟩=some (.int .i64 Na):=(ga ta.out 2).trans rfl;have Gv:wr.cell? ⟨Da,3,none⟩=some (.int .i64 Ma):=(ga ta.out 3).trans rfl;have Fv:wr.cell? ⟨Da,4,none⟩=some (.slice Qb La.length Fb):=(ga ta.out 4).trans rfl;have Vu:=aa ta.out 0;have Uu:=aa ta.out 1;have Tu:=aa ta.out 2;have Su:=aa ta.out 3;have Ru:=aa ta.out 4;go_wp2_with (first|((with_reducible refine jb (f:=54) rfl ?_);refine Lc (some 23) rfl rfl Try.func54 (by kernel_rfl) rfl #[.int .i64 (Sa.length:Int),.int .i64 1,.int .i64 4] rfl (by (try simp only [List.map_toArray,List.map_cons,List.map_nil]);first|done|rfl|(simp only [List.length_drop,List.length_take];rfl)) ?_;(with_reducible refine (Wa.calls (Sa.length:Int) 1 4 false _ kQ.out).mono ?_);rintro e w' ⟨rfl,⟨nd,rfl⟩⟩;refine ⟨_,rfl,?_⟩))
      go_meet
      case rel=>exact ⟨_,(true),(by first|rfl|(simp;done)|(simp [*];done)),H',⟨by have:=Kh.out;first|omega|exact Nat.le_refl _⟩,⟨by (with_reducible repeat (first|refine Aa ?_ _|refine Ca ?_|refine za ?_ _));exact ta.out⟩,⟨by repeat (first|(with_reducible first|exact HB.out|apply oa|apply ja|apply qa|refine ua ?_ Ua.out)|exact HB.out)⟩⟩
    case rest =>
     clear Vw
     try clear c1
     try clear p1
     try clear q1
     try clear hx1
     try clear c2
     try clear p2
     try clear c3
     try clear Hh
     try clear c4
     try clear jk
     try clear c5
     try clear c6
     try clear p6
     try clear gG
     try clear fG
     try clear QZ
     try clear iA
     try clear kZ
     try clear gM
     try clear UA
     try clear iw
     try clear fA
     try clear Tj
     try clear Sj
     try clear Rj
     try clear Qj
     try clear Pj
     try clear Nr
     try clear Mr
     try clear Lr
     try clear Kr
     try clear Jr
     try clear Bp
     try clear Ap
     try clear zp
     try clear yp
     try clear xp
     try clear eo
     try clear Zn
     try clear Yn
     try clear Xn
     try clear Wn
     try clear Ov
     try clear Nv
     try clear Mv
     try clear Lv
     try clear Kv
     try clear Ir
     try clear Hr
     try clear Gr
     try clear Er
     try clear Dr
     try clear Jv
     try clear Iv
     try clear Hv
     try clear Gv
     try clear Fv
     try clear xq
     try clear vq
     try clear uq
     try clear sq
     try clear rq
     try clear IG
     try clear GG
     try clear FG
     try clear EG
     try clear DG
     try clear Oj
     try clear Nj
     try clear Mj
     try clear Lj
     try clear Kj
     try clear ir
     try clear gr
     try clear er
     try clear dr
     try clear cr
     try clear Zo
     try clear Yo
     try clear Xo
     try clear Wo
     try clear Vo
     try clear Vn
     try clear Un
     try clear Tn
     try clear Sn
     try clear Rn
     try clear av
     try clear Zu
     try clear Yu
     try clear Xu
     try clear Wu
     try clear br
     try clear Zq
     try clear Yq
     try clear Xq
     try clear Wq
     try clear Vu
     try clear Uu
     try clear Tu
     try clear Su
     try clear Ru
     try clear qq
     try clear pq
     try clear oq
     try clear mq
     try clear lq
     try clear yG
     try clear xG
     try clear wG
     try clear vG
     try clear uG
     try clear Bd
     try clear Gg
     try clear p2
     try clear Fg
     obtain ⟨kq,JH,rfl,HA,HJ8,ta,HB⟩:=hcut;cases kq with
     | zero=>exact absurd HA.out (by simp [Va.j1])
     | succ kj8 =>
      have H:=HA.out;clear HA;simp only [Va.j1] at H
      by_cases wQ:JH=true
      ·subst wQ;have H1:(some false)=some r:=by rw [if_pos rfl] at H;exact H
       clear H;have H:=H1;clear H1;obtain rfl:=Option.some.inj H;go_wp2;go_ret;exact ⟨by first|rfl|(simp [Ja,Ia] <;> rfl)|(simp [*,Ja,Ia] <;> rfl),by repeat (first|(with_reducible first|exact HB.out|apply oa|apply ja|apply qa|refine ua ?_ Ua.out)|exact HB.out)⟩
      ·replace wQ:=Bool.eq_false_iff.mpr wQ;subst wQ;have H1:(Va.l1 kj8 0 0 Sa Pa Na Ma La)=some r:=by rw [if_neg (show ¬ (false=true) by decide)] at H;exact H
       clear H;have H:=H1;clear H1;have H':=ia.mk H;clear H;go_wp2
       go_loopg [4,5] kj8 (fun kq v4 v5 w'=>∃ (ZA:Int) (ef:Int),v4 = .int .i64 ZA∧v5 = .int .i64 ef∧ia (Va.l1 kq ZA ef Sa Pa Na Ma La=some r)∧ia (kq ≤ kj8)∧ia (w'.heap[Da]? = some (.cells #[(.slice xb Sa.length qb),.int .i64 Pa,.int .i64 Na,.int .i64 Ma,(.slice Qb La.length Fb)] 30 (0,0)))∧ia (Below w.heap.size w w'))
       case atStart=>exact ⟨(0),(0),(by first|rfl|(simp;done)|(simp [*];done)),(by first|rfl|(simp;done)|(simp [*];done)),H',⟨Nat.le_refl _⟩,⟨by (with_reducible repeat (first|refine Aa ?_ _|refine Ca ?_|refine za ?_ _));exact ta.out⟩,⟨by repeat (first|(with_reducible first|exact HB.out|apply oa|apply ja|apply qa|refine ua ?_ Ua.out)|exact HB.out)⟩⟩
       case round =>
        clear H'
        try clear c1
        try clear p1
        try clear q1
        try clear hx1
        try clear c2
        try clear p2
        try clear c3
        try clear Hh
        try clear c4
        try clear jk
        try clear c5
        try clear c6
        try clear p6
        try clear gG
        try clear fG
        try clear QZ
        try clear iA
        try clear kZ
        try clear gM
        try clear UA
        try clear iw
        try clear fA
        try clear wQ
        try clear Tj
        try clear Sj
        try clear Rj
        try clear Qj
        try clear Pj
        try clear Nr
        try clear Mr
        try clear Lr
        try clear Kr
        try clear Jr
        try clear Bp
        try clear Ap
        try clear zp
        try clear yp
        try clear xp
        try clear eo
        try clear Zn
        try clear Yn
        try clear Xn
        try clear Wn
        try clear Ov
        try clear Nv
        try clear Mv
        try clear Lv
        try clear Kv
        try clear Ir
        try clear Hr
        try clear Gr
        try clear Er
        try clear Dr
        try clear Jv
        try clear Iv
        try clear Hv
        try clear Gv
        try clear Fv
        try clear xq
        try clear vq
        try clear uq
        try clear sq
        try clear rq
        try clear IG
        try clear GG
        try clear FG
        try clear EG
        try clear DG
        try clear Oj
        try clear Nj
        try clear Mj
        try clear Lj
        try clear Kj
        try clear ir
        try clear gr
        try clear er
        try clear dr
        try clear cr
        try clear Zo
        try clear Yo
        try clear Xo
        try clear Wo
        try clear Vo
        try clear Vn
        try clear Un
        try clear Tn
        try clear Sn
        try clear Rn
        try clear av
        try clear Zu
        try clear Yu
        try clear Xu
        try clear Wu
        try clear br
        try clear Zq
        try clear Yq
        try clear Xq
        try clear Wq
        try clear Vu
        try clear Uu
        try clear Tu
        try clear Su
        try clear Ru
        try clear qq
        try clear pq
        try clear oq
        try clear mq
        try clear lq
        try clear yG
        try clear xG
        try clear wG
        try clear vG
        try clear uG
        try clear Bd
        try clear p1
        try clear gG
        try clear Gg
        try clear p2
        try clear p6
        try clear q1
        try clear fG
        try clear Fg
        (try clear HA);(try clear qZ);(try clear ta);(try clear HB);obtain ⟨ZA,ef,rfl,rfl,HA,qZ,ta,HB⟩:=hrel;cases gk with
        | zero=>exact absurd HA.out (by simp [Va.l1])
        | succ k3 =>
         have H:=HA.out;clear HA;simp only [Va.l1] at H
         by_cases ML:ef < (La.length:Int)
         ·rw [if_pos ML] at H;have mO:decide (ef < (La.length:Int))=true:=decide_eq_true ML;clear ML
          by_cases jE:0 ≤ ef
          ·rw [if_pos jE] at H;have qx:decide (0 ≤ ef)=true:=decide_eq_true jE;clear jE
           by_cases RA:(wrap64 (ZA + (((Ka La ef).f0).length:Int))) > 1000
           ·rw [if_pos RA] at H;have rF:decide (1000 < (wrap64 (ZA + (((Ka La ef).f0).length:Int))))=true:=decide_eq_true RA;clear RA;obtain rfl:=Option.some.inj H;have jD:wr.cell? ⟨Da,0,none⟩=some (.slice xb Sa.length qb):=(ga ta.out 0).trans rfl;have iD:wr.cell? ⟨Da,1,none⟩=some (.int .i64 Pa):=(ga ta.out 1).trans rfl;have hD:wr.cell? ⟨Da,2,none⟩=some (.int .i64 Na):=(ga ta.out 2).trans rfl;have gD:wr.cell? ⟨Da,3,none⟩=some (.int .i64 Ma):=(ga ta.out 3).trans rfl;have fD:wr.cell? ⟨Da,4,none⟩=some (.slice Qb La.length Fb):=(ga ta.out 4).trans rfl;have cC:=aa ta.out 0;have bC:=aa ta.out 1;have aC:=aa ta.out 2;have ZB:=aa ta.out 3;have YB:=aa ta.out 4;have ct:0 ≤ (ef:Int):=of_decide_eq_true (by first|(with_reducible assumption)|assumption);have Xs:ef < (La.length:Int):=of_decide_eq_true (by first|(with_reducible assumption)|assumption);obtain ⟨Ih,lQ,qO,WG,Ri,En,Dn,Cn,Bn,Nn,Qn⟩:=Zf Dh.out ef ct Xs;cases WG;replace Ri:=Ba HB.out Ri;replace En:=Ba HB.out En;replace Dn:=Ba HB.out Dn;replace Cn:=Ba HB.out Cn;replace Bn:=Ba HB.out Bn;have PK:=ia.mk Qn;have UK:=ia.mk Nn;clear Qn Nn;replace ct:=eq_true ct;replace Xs:=eq_true Xs
            try go_wp2
            have Kb:=ia.mk (Ca ta.out);have Ub:=ia.mk (qa HB.out);clear ta HB;have ta:=Kb;have HB:=Ub;clear Kb Ub;refine Nl (n:=12) (S:=fun w'=>True) (ds:=[]) #[false,false,false,false,false,false,false,false,false,false,false,false] (by kernel_rfl) rfl rfl trivial (fun hHeld=>?_);refine Yh Va.yM Va.lH (fun xg Us=>?_);generalize wr.drew=w32 at ta HB hHeld ⊢;refine Ad (i:=0) (N:=some 75) (v:=?_) (a':=?_) #[true,false,false,false,false,false,false,false,false,false,false,false] rfl rfl (Qc xg.out (by kernel_rfl)) (fun _ _ _ h=>h) (Or.inl ⟨by rfl,?_⟩) ?_ ?_;rotate_left
            ·intro w';go_simp;with_reducible rfl
            rotate_left
            ·simp only [Act.put,List.setIfInBounds_toArray,List.set_cons_zero,List.set_cons_succ,dc,ec]
             rfl
            refine Ad (i:=1) (N:=some 76) (v:=?_) (a':=?_) #[true,true,false,false,false,false,false,false,false,false,false,false] rfl rfl (Qc xg.out (by kernel_rfl)) (fun _ _ _ h=>h) (Or.inl ⟨by rfl,?_⟩) ?_ ?_;rotate_left
            ·intro w';go_simp;with_reducible rfl
            rotate_left
            ·simp only [Act.put,List.setIfInBounds_toArray,List.set_cons_zero,List.set_cons_succ,dc,ec]
             rfl
            refine Ad (i:=2) (N:=some 77) (v:=?_) (a':=?_) #[true,true,true,false,false,false,false,false,false,false,false,false] rfl rfl (Qc xg.out (by kernel_rfl)) (fun _ _ _ h=>h) (Or.inl ⟨by rfl,?_⟩) ?_ ?_;rotate_left
            ·intro w';go_simp;with_reducible rfl
            rotate_left
            ·simp only [Act.put,List.setIfInBounds_toArray,List.set_cons_zero,List.set_cons_succ,dc,ec]
             rfl
            refine Ad (i:=3) (N:=some 78) (v:=undef) (a':=?_) #[true,true,true,true,false,false,false,false,false,false,false,false] rfl rfl (Qc xg.out (by kernel_rfl)) (fun _ _ _ h=>h) (Or.inr ⟨by rfl,rfl⟩) ?_ ?_;rotate_left
            ·simp only [Act.put,List.setIfInBounds_toArray,List.set_cons_zero,List.set_cons_succ,dc,ec]
             rfl
            refine Ad (i:=4) (N:=some 79) (v:=undef) (a':=?_) #[true,true,true,true,true,false,false,false,false,false,false,false] rfl rfl (Qc xg.out (by kernel_rfl)) (fun _ _ _ h=>h) (Or.inr ⟨by rfl,rfl⟩) ?_ ?_;rotate_left
            ·simp only [Act.put,List.setIfInBounds_toArray,List.set_cons_zero,List.set_cons_succ,dc,ec]
             rfl
            refine Ad (i:=5) (N:=some 80) (v:=undef) (a':=?_) #[true,true,true,true,true,true,false,false,false,false,false,false] rfl rfl (Qc xg.out (by kernel_rfl)) (fun _ _ _ h=>h) (Or.inr ⟨by rfl,rfl⟩) ?_ ?_;rotate_left
            ·simp only [Act.put,List.setIfInBounds_toArray,List.set_cons_zero,List.set_cons_succ,dc,ec]
             rfl
            refine Ad (i:=6) (N:=some 81) (v:=undef) (a':=?_) #[true,true,true,true,true,true,true,false,false,false,false,false] rfl rfl (Qc xg.out (by kernel_rfl)) (fun _ _ _ h=>h) (Or.inr ⟨by rfl,rfl⟩) ?_ ?_;rotate_left
            ·simp only [Act.put,List.setIfInBounds_toArray,List.set_cons_zero,List.set_cons_succ,dc,ec]
             rfl
            refine Ad (i:=7) (N:=some 82) (v:=undef) (a':=?_) #[true,true,true,true,true,true,true,true,false,false,false,false] rfl rfl (Qc xg.out (by kernel_rfl)) (fun _ _ _ h=>h) (Or.inr ⟨by rfl,rfl⟩) ?_ ?_;rotate_left
            ·simp only [Act.put,List.setIfInBounds_toArray,List.set_cons_zero,List.set_cons_succ,dc,ec]
             rfl
            refine Ad (i:=8) (N:=some 83) (v:=undef) (a':=?_) #[true,true,true,true,true,true,true,true,true,false,false,false] rfl rfl (Qc xg.out (by kernel_rfl)) (fun _ _ _ h=>h) (Or.inr ⟨by rfl,rfl⟩) ?_ ?_;rotate_left
            ·simp only [Act.put,List.setIfInBounds_toArray,List.set_cons_zero,List.set_cons_succ,dc,ec]
             rfl
            refine Ad (i:=9) (N:=some 84) (v:=undef) (a':=?_) #[true,true,true,true,true,true,true,true,true,true,false,false] rfl rfl (Qc xg.out (by kernel_rfl)) (fun _ _ _ h=>h) (Or.inr ⟨by rfl,rfl⟩) ?_ ?_;rotate_left
            ·simp only [Act.put,List.setIfInBounds_toArray,List.set_cons_zero,List.set_cons_succ,dc,ec]
             rfl
            refine Ad (i:=10) (N:=some 85) (v:=undef) (a':=?_) #[true,true,true,true,true,true,true,true,true,true,true,false] rfl rfl (Qc xg.out (by kernel_rfl)) (fun _ _ _ h=>h) (Or.inr ⟨by rfl,rfl⟩) ?_ ?_;rotate_left
            ·simp only [Act.put,List.setIfInBounds_toArray,List.set_cons_zero,List.set_cons_succ,dc,ec]
             rfl
            refine Ad (i:=11) (N:=some 86) (v:=?_) (a':=?_) #[true,true,true,true,true,true,true,true,true,true,true,true] rfl rfl (Qc xg.out (by kernel_rfl)) (fun _ _ _ h=>h) (Or.inl ⟨by rfl,?_⟩) ?_ ?_;rotate_left
            ·intro w';go_simp;with_reducible rfl
            rotate_left
            ·simp only [Act.put,List.setIfInBounds_toArray,List.set_cons_zero,List.set_cons_succ,dc,ec]
             rfl
            refine Io (Jl xg.out (by kernel_rfl)) ?_
            try go_wp2
            go_ret;exact ⟨by first|rfl|(simp [Ja,Ia] <;> rfl)|(simp [*,Ja,Ia] <;> rfl),by repeat (first|(with_reducible first|exact HB.out|apply oa|apply ja|apply qa|refine ua ?_ Ua.out)|exact HB.out)⟩
           ·rw [if_neg RA] at H;have rF:decide (1000 < (wrap64 (ZA + (((Ka La ef).f0).length:Int))))=false:=decide_eq_false RA;clear RA;replace H:=Option.bind_eq_some_iff.mp H;obtain ⟨t111,V9,H⟩:=H;replace H:(if t111=true then (Va.l1 k3 (wrap64 (ZA + (((Ka La ef).f0).length:Int))) (wrap64 (ef + 1)) Sa Pa Na Ma La) else (some false))=some r:=H;have A33:=ia.mk V9;clear V9
            by_cases c34:t111=true
            ·subst c34;have H1:(Va.l1 k3 (wrap64 (ZA + (((Ka La ef).f0).length:Int))) (wrap64 (ef + 1)) Sa Pa Na Ma La)=some r:=by rw [if_pos rfl] at H;exact H
             clear H;have H:=H1;clear H1;have H':=ia.mk H;clear H;have eD:wr.cell? ⟨Da,0,none⟩=some (.slice xb Sa.length qb):=(ga ta.out 0).trans rfl;have dD:wr.cell? ⟨Da,1,none⟩=some (.int .i64 Pa):=(ga ta.out 1).trans rfl;have cD:wr.cell? ⟨Da,2,none⟩=some (.int .i64 Na):=(ga ta.out 2).trans rfl;have bD:wr.cell? ⟨Da,3,none⟩=some (.int .i64 Ma):=(ga ta.out 3).trans rfl;have aD:wr.cell? ⟨Da,4,none⟩=some (.slice Qb La.length Fb):=(ga ta.out 4).trans rfl;have XB:=aa ta.out 0;have WB:=aa ta.out 1;have VB:=aa ta.out 2;have UB:=aa ta.out 3;have TB:=aa ta.out 4;have ct:0 ≤ (ef:Int):=of_decide_eq_true (by first|(with_reducible assumption)|assumption);have Xs:ef < (La.length:Int):=of_decide_eq_true (by first|(with_reducible assumption)|assumption);obtain ⟨Ih,lQ,qO,WG,Ri,En,Dn,Cn,Bn,Nn,Qn⟩:=Zf Dh.out ef ct Xs;cases WG;replace Ri:=Ba HB.out Ri;replace En:=Ba HB.out En;replace Dn:=Ba HB.out Dn;replace Cn:=Ba HB.out Cn;replace Bn:=Ba HB.out Bn;have PK:=ia.mk Qn;have UK:=ia.mk Nn;clear Qn Nn;replace ct:=eq_true ct;replace Xs:=eq_true Xs
             try go_wp2
             have Kb:=ia.mk (Ca ta.out);have Ub:=ia.mk (qa HB.out);clear ta HB;have ta:=Kb;have HB:=Ub;clear Kb Ub;have dz:0 ≤ (ef:Int):=of_decide_eq_true (by first|(with_reducible assumption)|assumption);have cz:ef < (La.length:Int):=of_decide_eq_true (by first|(with_reducible assumption)|assumption);obtain ⟨Aq,Fj,Cj,cO,xk,wk,vk,uk,sk,Mn,Pn⟩:=Zf Dh.out ef dz cz;have ju:=sk;have ku:=uk;have lu:=vk;have nu:=wk;have ou:=xk;obtain rfl:Ih=Aq:=(by injection cO);replace xk:=Ba HB.out xk;replace wk:=Ba HB.out wk;replace vk:=Ba HB.out vk;replace uk:=Ba HB.out uk;replace sk:=Ba HB.out sk;have Jp:=ia.mk Pn;have Ny:=ia.mk Mn;clear Pn Mn;replace dz:=eq_true dz;replace cz:=eq_true cz;refine Nl (n:=12) (S:=fun w'=>w'.cell? ⟨Da,0,none⟩=some (.slice xb Sa.length qb)∧w'.cell? ⟨Da,1,none⟩=some (.int .i64 Pa)∧w'.cell? ⟨Da,2,none⟩=some (.int .i64 Na)∧w'.cell? ⟨Da,3,none⟩=some (.int .i64 Ma)∧w'.cell? ⟨Da,4,none⟩=some (.slice (some Ih) La.length Fb)∧w'.cell? (Ih.add ((ef).toNat * 5))=some (.slice Fj ((Ka La ef).f0).length Cj)∧w'.cell? ⟨(Ih.add ((ef).toNat * 5)).block,(Ih.add ((ef).toNat * 5)).off + 1,none⟩=some (.int .i64 ((Ka La ef).f1))∧w'.cell? ⟨(Ih.add ((ef).toNat * 5)).block,(Ih.add ((ef).toNat * 5)).off + 2,none⟩=some (.int .i64 ((Ka La ef).f2))∧w'.cell? ⟨(Ih.add ((ef).toNat * 5)).block,(Ih.add ((ef).toNat * 5)).off + 3,none⟩=some (.int .i64 ((Ka La ef).f3))∧w'.cell? ⟨(Ih.add ((ef).toNat * 5)).block,(Ih.add ((ef).toNat * 5)).off + 4,none⟩=some (.int .i64 ((Ka La ef).f4))) (ds:=[]) #[false,false,false,false,false,false,false,false,false,false,false,false] (by kernel_rfl) rfl rfl ⟨(ga ta.out 0).trans rfl,(ga ta.out 1).trans rfl,(ga ta.out 2).trans rfl,(ga ta.out 3).trans rfl,(ga ta.out 4).trans rfl,(Ba HB.out ou),(Ba HB.out nu),(Ba HB.out lu),(Ba HB.out ku),(Ba HB.out ju)⟩ (fun hHeld=>?_);refine Yh Va.yM Va.lH (fun xg Us=>?_);generalize wr.drew=dA at ta HB Jp xk wk vk uk sk hHeld ⊢;refine Ad (i:=0) (N:=some 75) (v:=?_) (a':=?_) #[true,false,false,false,false,false,false,false,false,false,false,false] rfl rfl (Qc xg.out (by kernel_rfl)) (fun _ _ _ h=>h) (Or.inl ⟨by rfl,?_⟩) ?_ ?_;rotate_left
             ·intro w';go_simp;with_reducible rfl
             rotate_left
             ·simp only [Act.put,List.setIfInBounds_toArray,List.set_cons_zero,List.set_cons_succ,dc,ec]
              rfl
             refine Ad (i:=1) (N:=some 76) (v:=?_) (a':=?_) #[true,true,false,false,false,false,false,false,false,false,false,false] rfl rfl (Qc xg.out (by kernel_rfl)) (fun _ _ _ h=>h) (Or.inl ⟨by rfl,?_⟩) ?_ ?_;rotate_left
             ·intro w';go_simp;with_reducible rfl
             rotate_left
             ·simp only [Act.put,List.setIfInBounds_toArray,List.set_cons_zero,List.set_cons_succ,dc,ec]
              rfl
             refine Ad (i:=2) (N:=some 77) (v:=?_) (a':=?_) #[true,true,true,false,false,false,false,false,false,false,false,false] rfl rfl (Qc xg.out (by kernel_rfl)) (fun _ _ _ h=>h) (Or.inl ⟨by rfl,?_⟩) ?_ ?_;rotate_left
             ·intro w';go_simp;with_reducible rfl
             rotate_left
             ·simp only [Act.put,List.setIfInBounds_toArray,List.set_cons_zero,List.set_cons_succ,dc,ec]
              rfl
             refine Ad (i:=4) (N:=some 79) (v:=?_) (a':=?_) #[true,true,true,false,true,false,false,false,false,false,false,false] rfl rfl (Qc xg.out (by kernel_rfl)) (fun _ _ _ h=>h) (Or.inl ⟨by rfl,?_⟩) ?_ ?_;rotate_left
             ·intro w';go_simp;with_reducible rfl
             rotate_left
             ·simp only [Act.put,List.setIfInBounds_toArray,List.set_cons_zero,List.set_cons_succ,dc,ec]
              rfl
             refine Ad (i:=6) (N:=some 81) (v:=?_) (a':=?_) #[true,true,true,false,true,false,true,false,false,false,false,false] rfl rfl (Qc xg.out (by kernel_rfl)) (fun _ _ _ h=>h) (Or.inl ⟨by rfl,?_⟩) ?_ ?_;rotate_left
             ·intro w';go_simp;with_reducible rfl
             rotate_left
             ·simp only [Act.put,List.setIfInBounds_toArray,List.set_cons_zero,List.set_cons_succ,dc,ec]
              rfl
             refine Lh (i:=3) (N:=some 78) (v:=?_) (a':=?_) #[true,true,true,true,true,false,true,false,false,false,false,false] rfl rfl (Xf xg.out Us.out (by kernel_rfl)) (fun _ _ _ h=>h) (Or.inl ⟨by rfl,?_⟩) hHeld ?_ ?_;rotate_left
             ·rintro w' ⟨s0,s1,s2,s3,s4,s5,s6,s7,s8,s9⟩;go_simp;with_reducible rfl
             rotate_left
             ·simp only [Act.put,List.setIfInBounds_toArray,List.set_cons_zero,List.set_cons_succ,dc,ec]
              rfl
             refine Lh (i:=5) (N:=some 80) (v:=?_) (a':=?_) #[true,true,true,true,true,true,true,false,false,false,false,false] rfl rfl (Xf xg.out Us.out (by kernel_rfl)) (fun _ _ _ h=>h) (Or.inl ⟨by rfl,?_⟩) hHeld ?_ ?_;rotate_left
             ·rintro w' ⟨s0,s1,s2,s3,s4,s5,s6,s7,s8,s9⟩;go_simp;with_reducible rfl
             rotate_left
             ·simp only [Act.put,List.setIfInBounds_toArray,List.set_cons_zero,List.set_cons_succ,dc,ec]
              rfl
             refine Ad (i:=7) (N:=some 82) (v:=?_) (a':=?_) #[true,true,true,true,true,true,true,true,false,false,false,false] rfl rfl (Qc xg.out (by kernel_rfl)) (fun _ _ _ h=>h) (Or.inl ⟨by rfl,?_⟩) ?_ ?_;rotate_left
             ·intro w';go_simp;with_reducible rfl
             rotate_left
             ·simp only [Act.put,List.setIfInBounds_toArray,List.set_cons_zero,List.set_cons_succ,dc,ec]
              rfl
             refine Lh (i:=8) (N:=some 83) (v:=?_) (a':=?_) #[true,true,true,true,true,true,true,true,true,false,false,false] rfl rfl (Xf xg.out Us.out (by kernel_rfl)) (fun _ _ _ h=>h) (Or.inl ⟨by rfl,?_⟩) hHeld ?_ ?_;rotate_left
             ·rintro w' ⟨s0,s1,s2,s3,s4,s5,s6,s7,s8,s9⟩;go_simp;with_reducible rfl
             rotate_left
             ·simp only [Act.put,List.setIfInBounds_toArray,List.set_cons_zero,List.set_cons_succ,dc,ec]
              rfl
             refine zw (i:=9) (N:=some 84) #[true,true,true,true,true,true,true,true,true,true,false,false] rfl rfl (vo xg.out (by kernel_rfl)) (by decide) (fun K hK=>?_);refine Eo Try.func87 (by kernel_rfl) rfl #[.agg #[.slice xb Sa.length qb,.int .i64 Pa,.int .i64 Na,.int .i64 Ma,.slice (some Ih) La.length Fb],.agg #[.slice Fj ((Ka La ef).f0).length Cj,.int .i64 ((Ka La ef).f1),.int .i64 ((Ka La ef).f2),.int .i64 ((Ka La ef).f3),.int .i64 ((Ka La ef).f4)]] (by rfl) rfl rfl (by (try simp only [List.map_toArray,List.map_cons,List.map_nil]);first|done|rfl|(simp only [List.length_drop,List.length_take];rfl)) ?_;with_reducible refine (Xb.calls k3 _ _ Sa Pa Na Ma _ _ La _ _ ((Ka La ef).f0) ((Ka La ef).f1) ((Ka La ef).f2) ((Ka La ef).f3) ((Ka La ef).f4) true _ ?Pc ?Oc ?Hf ?Gf ?Yy ?Xy A33.out).mono ?_
             (case Pc=>repeat (first|exact (Kd.Eb Qf.out HB.out)|(with_reducible refine Kd.nc ?_ _)|(with_reducible refine Kd.mc ?_ _)|(with_reducible refine Kd.Rc ?_)))
             (case Oc=>exact sg.out)
             (case Hf=>repeat (first|exact (Kd.Eb Dh.out HB.out)|(with_reducible refine Kd.nc ?_ _)|(with_reducible refine Kd.mc ?_ _)|(with_reducible refine Kd.Rc ?_)))
             (case Gf=>exact Xj.out)
             (case Yy=>repeat (first|exact (Kd.Eb Jp.out HB.out)|(with_reducible refine Kd.nc ?_ _)|(with_reducible refine Kd.mc ?_ _)|(with_reducible refine Kd.Rc ?_)))
             (case Xy=>exact Ny.out)
             rintro e w37 ⟨rfl,hb⟩;refine ⟨_,rfl,?_⟩;have Kb:=ia.mk (Ta (g:=Da) (o:=.cells #[.slice xb Sa.length qb,.int .i64 Pa,.int .i64 Na,.int .i64 Ma,.slice (some Ih) La.length Fb] 30 (0,0)) (by (with_reducible repeat (first|refine Aa ?_ _|refine Ca ?_|refine za ?_ _));exact ta.out) hb);have Ub:=ia.mk (Ra (by repeat (first|(with_reducible first|exact HB.out|apply oa|apply ja|apply qa|refine ua ?_ Ua.out)|exact HB.out)) hb);clear ta HB;have ta:=Kb;have HB:=Ub;clear Kb Ub;(try clear hb);(try clear ij);(try clear hk);(try clear hi);refine hK.out _ _ ⟨(ga ta.out 0).trans rfl,(ga ta.out 1).trans rfl,(ga ta.out 2).trans rfl,(ga ta.out 3).trans rfl,(ga ta.out 4).trans rfl,(Ba HB.out ou),(Ba HB.out nu),(Ba HB.out lu),(Ba HB.out ku),(Ba HB.out ju)⟩ (fun hHeld=>?_);clear hK K;refine Bo (a':=?_) ?_ ?_;rotate_left
             ·show Act.put _ (some 84) _=_
              simp only [Act.put,List.setIfInBounds_toArray,List.set_cons_zero,List.set_cons_succ,dc,ec]
              rfl
             refine Ad (i:=10) (N:=some 85) (v:=?_) (a':=?_) #[true,true,true,true,true,true,true,true,true,true,true,false] rfl rfl (Qc xg.out (by kernel_rfl)) (fun _ _ _ h=>h) (Or.inl ⟨by rfl,?_⟩) ?_ ?_;rotate_left
             ·intro w';go_simp;with_reducible rfl
             rotate_left
             ·simp only [Act.put,List.setIfInBounds_toArray,List.set_cons_zero,List.set_cons_succ,dc,ec]
              rfl
             refine Ad (i:=11) (N:=some 86) (v:=?_) (a':=?_) #[true,true,true,true,true,true,true,true,true,true,true,true] rfl rfl (Qc xg.out (by kernel_rfl)) (fun _ _ _ h=>h) (Or.inl ⟨by rfl,?_⟩) ?_ ?_;rotate_left
             ·intro w';go_simp;with_reducible rfl
             rotate_left
             ·simp only [Act.put,List.setIfInBounds_toArray,List.set_cons_zero,List.set_cons_succ,dc,ec]
              rfl
             refine Io (Jl xg.out (by kernel_rfl)) ?_
             try go_wp2
             go_roundg k3
             case measure=>have:=Kh.out;have:=HJ8.out;have:=qZ.out;omega
             case rel=>exact ⟨(wrap64 (ZA + (((Ka La ef).f0).length:Int))),(wrap64 (ef + 1)),(by first|rfl|(simp;done)|(simp [*];done)),(by first|rfl|(simp;done)|(simp [*];done)),H',⟨by have:=Kh.out;have:=HJ8.out;have:=qZ.out;omega⟩,⟨by (with_reducible repeat (first|refine Aa ?_ _|refine Ca ?_|refine za ?_ _));exact ta.out⟩,⟨by repeat (first|(with_reducible first|exact HB.out|apply oa|apply ja|apply qa|refine ua ?_ Ua.out)|exact HB.out)⟩⟩
            ·replace c34:=Bool.eq_false_iff.mpr c34;subst c34;have H1:(some false)=some r:=by rw [if_neg (show ¬ (false=true) by decide)] at H;exact H
             clear H;have H:=H1;clear H1;obtain rfl:=Option.some.inj H;have tr:wr.cell? ⟨Da,0,none⟩=some (.slice xb Sa.length qb):=(ga ta.out 0).trans rfl;have sr:wr.cell? ⟨Da,1,none⟩=some (.int .i64 Pa):=(ga ta.out 1).trans rfl;have nr:wr.cell? ⟨Da,2,none⟩=some (.int .i64 Na):=(ga ta.out 2).trans rfl;have kr:wr.cell? ⟨Da,3,none⟩=some (.int .i64 Ma):=(ga ta.out 3).trans rfl;have jr:wr.cell? ⟨Da,4,none⟩=some (.slice Qb La.length Fb):=(ga ta.out 4).trans rfl;have Pq:=aa ta.out 0;have Oq:=aa ta.out 1;have Nq:=aa ta.out 2;have Mq:=aa ta.out 3;have Kq:=aa ta.out 4;have ct:0 ≤ (ef:Int):=of_decide_eq_true (by first|(with_reducible assumption)|assumption);have Xs:ef < (La.length:Int):=of_decide_eq_true (by first|(with_reducible assumption)|assumption);obtain ⟨Ih,lQ,qO,WG,Ri,En,Dn,Cn,Bn,Nn,Qn⟩:=Zf Dh.out ef ct Xs;cases WG;replace Ri:=Ba HB.out Ri;replace En:=Ba HB.out En;replace Dn:=Ba HB.out Dn;replace Cn:=Ba HB.out Cn;replace Bn:=Ba HB.out Bn;have PK:=ia.mk Qn;have UK:=ia.mk Nn;clear Qn Nn;replace ct:=eq_true ct;replace Xs:=eq_true Xs
             try go_wp2
             have Kb:=ia.mk (Ca ta.out);have Ub:=ia.mk (qa HB.out);clear ta HB;have ta:=Kb;have HB:=Ub;clear Kb Ub;have dz:0 ≤ (ef:Int):=of_decide_eq_true (by first|(with_reducible assumption)|assumption);have cz:ef < (La.length:Int):=of_decide_eq_true (by first|(with_reducible assumption)|assumption);obtain ⟨Aq,Fj,Cj,cO,xk,wk,vk,uk,sk,Mn,Pn⟩:=Zf Dh.out ef dz cz;have ju:=sk;have ku:=uk;have lu:=vk;have nu:=wk;have ou:=xk;obtain rfl:Ih=Aq:=(by injection cO);replace xk:=Ba HB.out xk;replace wk:=Ba HB.out wk;replace vk:=Ba HB.out vk;replace uk:=Ba HB.out uk;replace sk:=Ba HB.out sk;have Jp:=ia.mk Pn;have Ny:=ia.mk Mn;clear Pn Mn;replace dz:=eq_true dz;replace cz:=eq_true cz;refine Nl (n:=12) (S:=fun w'=>w'.cell? ⟨Da,0,none⟩=some (.slice xb Sa.length qb)∧w'.cell? ⟨Da,1,none⟩=some (.int .i64 Pa)∧w'.cell? ⟨Da,2,none⟩=some (.int .i64 Na)∧w'.cell? ⟨Da,3,none⟩=some (.int .i64 Ma)∧w'.cell? ⟨Da,4,none⟩=some (.slice (some Ih) La.length Fb)∧w'.cell? (Ih.add ((ef).toNat * 5))=some (.slice Fj ((Ka La ef).f0).length Cj)∧w'.cell? ⟨(Ih.add ((ef).toNat * 5)).block,(Ih.add ((ef).toNat * 5)).off + 1,none⟩=some (.int .i64 ((Ka La ef).f1))∧w'.cell? ⟨(Ih.add ((ef).toNat * 5)).block,(Ih.add ((ef).toNat * 5)).off + 2,none⟩=some (.int .i64 ((Ka La ef).f2))∧w'.cell? ⟨(Ih.add ((ef).toNat * 5)).block,(Ih.add ((ef).toNat * 5)).off + 3,none⟩=some (.int .i64 ((Ka La ef).f3))∧w'.cell? ⟨(Ih.add ((ef).toNat * 5)).block,(Ih.add ((ef).toNat * 5)).off + 4,none⟩=some (.int .i64 ((Ka La ef).f4))) (ds:=[]) #[false,false,false,false,false,false,false,false,false,false,false,false] (by kernel_rfl) rfl rfl ⟨(ga ta.out 0).trans rfl,(ga ta.out 1).trans rfl,(ga ta.out 2).trans rfl,(ga ta.out 3).trans rfl,(ga ta.out 4).trans rfl,(Ba HB.out ou),(Ba HB.out nu),(Ba HB.out lu),(Ba HB.out ku),(Ba HB.out ju)⟩ (fun hHeld=>?_);refine Yh Va.yM Va.lH (fun xg Us=>?_);generalize wr.drew=Bx at ta HB Jp xk wk vk uk sk hHeld ⊢;refine Ad (i:=0) (N:=some 75) (v:=?_) (a':=?_) #[true,false,false,false,false,false,false,false,false,false,false,false] rfl rfl (Qc xg.out (by kernel_rfl)) (fun _ _ _ h=>h) (Or.inl ⟨by rfl,?_⟩) ?_ ?_;rotate_left
             ·intro w';go_simp;with_reducible rfl
             rotate_left
             ·simp only [Act.put,List.setIfInBounds_toArray,List.set_cons_zero,List.set_cons_succ,dc,ec]
              rfl
             refine Ad (i:=1) (N:=some 76) (v:=?_) (a':=?_) #[true,true,false,false,false,false,false,false,false,false,false,false] rfl rfl (Qc xg.out (by kernel_rfl)) (fun _ _ _ h=>h) (Or.inl ⟨by rfl,?_⟩) ?_ ?_;rotate_left
             ·intro w';go_simp;with_reducible rfl
             rotate_left
             ·simp only [Act.put,List.setIfInBounds_toArray,List.set_cons_zero,List.set_cons_succ,dc,ec]
              rfl
             refine Ad (i:=2) (N:=some 77) (v:=?_) (a':=?_) #[true,true,true,false,false,false,false,false,false,false,false,false] rfl rfl (Qc xg.out (by kernel_rfl)) (fun _ _ _ h=>h) (Or.inl ⟨by rfl,?_⟩) ?_ ?_;rotate_left
             ·intro w';go_simp;with_reducible rfl
             rotate_left
             ·simp only [Act.put,List.setIfInBounds_toArray,List.set_cons_zero,List.set_cons_succ,dc,ec]
              rfl
             refine Ad (i:=4) (N:=some 79) (v:=?_) (a':=?_) #[true,true,true,false,true,false,false,false,false,false,false,false] rfl rfl (Qc xg.out (by kernel_rfl)) (fun _ _ _ h=>h) (Or.inl ⟨by rfl,?_⟩) ?_ ?_;rotate_left
             ·intro w';go_simp;with_reducible rfl
             rotate_left
             ·simp only [Act.put,List.setIfInBounds_toArray,List.set_cons_zero,List.set_cons_succ,dc,ec]
              rfl
             refine Ad (i:=6) (N:=some 81) (v:=?_) (a':=?_) #[true,true,true,false,true,false,true,false,false,false,false,false] rfl rfl (Qc xg.out (by kernel_rfl)) (fun _ _ _ h=>h) (Or.inl ⟨by rfl,?_⟩) ?_ ?_;rotate_left
             ·intro w';go_simp;with_reducible rfl
             rotate_left
             ·simp only [Act.put,List.setIfInBounds_toArray,List.set_cons_zero,List.set_cons_succ,dc,ec]
              rfl
             refine Lh (i:=3) (N:=some 78) (v:=?_) (a':=?_) #[true,true,true,true,true,false,true,false,false,false,false,false] rfl rfl (Xf xg.out Us.out (by kernel_rfl)) (fun _ _ _ h=>h) (Or.inl ⟨by rfl,?_⟩) hHeld ?_ ?_;rotate_left
             ·rintro w' ⟨s0,s1,s2,s3,s4,s5,s6,s7,s8,s9⟩;go_simp;with_reducible rfl
             rotate_left
             ·simp only [Act.put,List.setIfInBounds_toArray,List.set_cons_zero,List.set_cons_succ,dc,ec]
              rfl
             refine Lh (i:=5) (N:=some 80) (v:=?_) (a':=?_) #[true,true,true,true,true,true,true,false,false,false,false,false] rfl rfl (Xf xg.out Us.out (by kernel_rfl)) (fun _ _ _ h=>h) (Or.inl ⟨by rfl,?_⟩) hHeld ?_ ?_;rotate_left
             ·rintro w' ⟨s0,s1,s2,s3,s4,s5,s6,s7,s8,s9⟩;go_simp;with_reducible rfl
             rotate_left
             ·simp only [Act.put,List.setIfInBounds_toArray,List.set_cons_zero,List.set_cons_succ,dc,ec]
              rfl
             refine Ad (i:=7) (N:=some 82) (v:=?_) (a':=?_) #[true,true,true,true,true,true,true,true,false,false,false,false] rfl rfl (Qc xg.out (by kernel_rfl)) (fun _ _ _ h=>h) (Or.inl ⟨by rfl,?_⟩) ?_ ?_;rotate_left
             ·intro w';go_simp;with_reducible rfl
             rotate_left
             ·simp only [Act.put,List.setIfInBounds_toArray,List.set_cons_zero,List.set_cons_succ,dc,ec]
              rfl
             refine Lh (i:=8) (N:=some 83) (v:=?_) (a':=?_) #[true,true,true,true,true,true,true,true,true,false,false,false] rfl rfl (Xf xg.out Us.out (by kernel_rfl)) (fun _ _ _ h=>h) (Or.inl ⟨by rfl,?_⟩) hHeld ?_ ?_;rotate_left
             ·rintro w' ⟨s0,s1,s2,s3,s4,s5,s6,s7,s8,s9⟩;go_simp;with_reducible rfl
             rotate_left
             ·simp only [Act.put,List.setIfInBounds_toArray,List.set_cons_zero,List.set_cons_succ,dc,ec]
              rfl
             refine zw (i:=9) (N:=some 84) #[true,true,true,true,true,true,true,true,true,true,false,false] rfl rfl (vo xg.out (by kernel_rfl)) (by decide) (fun K hK=>?_);refine Eo Try.func87 (by kernel_rfl) rfl #[.agg #[.slice xb Sa.length qb,.int .i64 Pa,.int .i64 Na,.int .i64 Ma,.slice (some Ih) La.length Fb],.agg #[.slice Fj ((Ka La ef).f0).length Cj,.int .i64 ((Ka La ef).f1),.int .i64 ((Ka La ef).f2),.int .i64 ((Ka La ef).f3),.int .i64 ((Ka La ef).f4)]] (by rfl) rfl rfl (by (try simp only [List.map_toArray,List.map_cons,List.map_nil]);first|done|rfl|(simp only [List.length_drop,List.length_take];rfl)) ?_;with_reducible refine (Xb.calls k3 _ _ Sa Pa Na Ma _ _ La _ _ ((Ka La ef).f0) ((Ka La ef).f1) ((Ka La ef).f2) ((Ka La ef).f3) ((Ka La ef).f4) false _ ?Pc ?Oc ?Hf ?Gf ?Yy ?Xy A33.out).mono ?_
             (case Pc=>repeat (first|exact (Kd.Eb Qf.out HB.out)|(with_reducible refine Kd.nc ?_ _)|(with_reducible refine Kd.mc ?_ _)|(with_reducible refine Kd.Rc ?_)))
             (case Oc=>exact sg.out)
             (case Hf=>repeat (first|exact (Kd.Eb Dh.out HB.out)|(with_reducible refine Kd.nc ?_ _)|(with_reducible refine Kd.mc ?_ _)|(with_reducible refine Kd.Rc ?_)))
             (case Gf=>exact Xj.out)
             (case Yy=>repeat (first|exact (Kd.Eb Jp.out HB.out)|(with_reducible refine Kd.nc ?_ _)|(with_reducible refine Kd.mc ?_ _)|(with_reducible refine Kd.Rc ?_)))
             (case Xy=>exact Ny.out)
             rintro e w40 ⟨rfl,hb⟩;refine ⟨_,rfl,?_⟩;have Kb:=ia.mk (Ta (g:=Da) (o:=.cells #[.slice xb Sa.length qb,.int .i64 Pa,.int .i64 Na,.int .i64 Ma,.slice (some Ih) La.length Fb] 30 (0,0)) (by (with_reducible repeat (first|refine Aa ?_ _|refine Ca ?_|refine za ?_ _));exact ta.out) hb);have Ub:=ia.mk (Ra (by repeat (first|(with_reducible first|exact HB.out|apply oa|apply ja|apply qa|refine ua ?_ Ua.out)|exact HB.out)) hb);clear ta HB;have ta:=Kb;have HB:=Ub;clear Kb Ub;(try clear hb);(try clear ij);(try clear hk);(try clear hi);refine hK.out _ _ ⟨(ga ta.out 0).trans rfl,(ga ta.out 1).trans rfl,(ga ta.out 2).trans rfl,(ga ta.out 3).trans rfl,(ga ta.out 4).trans rfl,(Ba HB.out ou),(Ba HB.out nu),(Ba HB.out lu),(Ba HB.out ku),(Ba HB.out ju)⟩ (fun hHeld=>?_);clear hK K;refine Bo (a':=?_) ?_ ?_;rotate_left
             ·show Act.put _ (some 84) _=_
              simp only [Act.put,List.setIfInBounds_toArray,List.set_cons_zero,List.set_cons_succ,dc,ec]
              rfl
             refine Ad (i:=10) (N:=some 85) (v:=?_) (a':=?_) #[true,true,true,true,true,true,true,true,true,true,true,false] rfl rfl (Qc xg.out (by kernel_rfl)) (fun _ _ _ h=>h) (Or.inl ⟨by rfl,?_⟩) ?_ ?_;rotate_left
             ·intro w';go_simp;with_reducible rfl
             rotate_left
             ·simp only [Act.put,List.setIfInBounds_toArray,List.set_cons_zero,List.set_cons_succ,dc,ec]
              rfl
             refine Ad (i:=11) (N:=some 86) (v:=?_) (a':=?_) #[true,true,true,true,true,true,true,true,true,true,true,true] rfl rfl (Qc xg.out (by kernel_rfl)) (fun _ _ _ h=>h) (Or.inl ⟨by rfl,?_⟩) ?_ ?_;rotate_left
             ·intro w';go_simp;with_reducible rfl
             rotate_left
             ·simp only [Act.put,List.setIfInBounds_toArray,List.set_cons_zero,List.set_cons_succ,dc,ec]
              rfl
             refine Io (Jl xg.out (by kernel_rfl)) ?_
             try go_wp2
             go_ret;exact ⟨by first|rfl|(simp [Ja,Ia] <;> rfl)|(simp [*,Ja,Ia] <;> rfl),by repeat (first|(with_reducible first|exact HB.out|apply oa|apply ja|apply qa|refine ua ?_ Ua.out)|exact HB.out)⟩
          ·rw [if_neg jE] at H;exact absurd H (by simp)
         ·rw [if_neg ML] at H;have mO:decide (ef < (La.length:Int))=false:=decide_eq_false ML;clear ML;obtain rfl:=Option.some.inj H;have NC:wr.cell? ⟨Da,0,none⟩=some (.slice xb Sa.length qb):=(ga ta.out 0).trans rfl;have MC:wr.cell? ⟨Da,1,none⟩=some (.int .i64 Pa):=(ga ta.out 1).trans rfl;have LC:wr.cell? ⟨Da,2,none⟩=some (.int .i64 Na):=(ga ta.out 2).trans rfl;have KC:wr.cell? ⟨Da,3,none⟩=some (.int .i64 Ma):=(ga ta.out 3).trans rfl;have JC:wr.cell? ⟨Da,4,none⟩=some (.slice Qb La.length Fb):=(ga ta.out 4).trans rfl;have EB:=aa ta.out 0;have DB:=aa ta.out 1;have CB:=aa ta.out 2;have BB:=aa ta.out 3;have AB:=aa ta.out 4;go_wp2;go_ret;exact ⟨by first|rfl|(simp [Ja,Ia] <;> rfl)|(simp [*,Ja,Ia] <;> rfl),by repeat (first|(with_reducible first|exact HB.out|apply oa|apply ja|apply qa|refine ua ?_ Ua.out)|exact HB.out)⟩
end Go.Proofs.Ytmifdccaajngcaa.P
end
section
namespace Go.Proofs.Ytmifdccaajngcaa.P
open Go.RowKit Go.Proofs.Oa.Rb Go.Proofs.Oa.Ee Go.Proofs.Oa.Wf
set_option linter.unusedVariables false
set_option linter.unusedSimpArgs false
open Classical in
noncomputable def Ix (n:Nat) (p:Nat→Prop):Bool:=decide (∀ j,j < n→p j)
open Classical in
theorem OL {n:Nat} {p:Nat→Prop} (h:∀ j,j < n→p j):Ix n p=true:=by
 unfold Ix;exact decide_eq_true h
open Classical in
theorem vF {n:Nat} {p:Nat→Prop}:Ix n p=true ↔ ∀ j,j < n→p j:=by
 unfold Ix;exact decide_eq_true_iff
theorem nH {n i:Nat} {p:Nat→Prop} (hi:i < n) (h:¬ p i):Ix n p=false:=by
 cases e:Ix n p with
 | false=>rfl
 | true=>exact absurd (vF.mp e i hi) h
theorem SG {ρ:Type} {n:Nat} {R e:ρ} (p:Nat→Prop) (f:Nat→Nat→Option ρ) (hend:Ev (f n) R) (hyes:∀ i,i < n→p i→∀ r,Ev (f (i + 1)) r→Ev (f i) r) (hno:∀ i,i < n→¬ p i→Ev (f i) e):Ev (f 0) (bif Ix n p then R else e):=by
 have key:∀ d i,i + d=n→(∀ j,j < i→p j)→Ev (f i) (bif Ix n p then R else e):=by
  intro d
  induction d with
  | zero =>
   intro i hi h;have:i=n:=by omega
   subst this;rw [OL h];exact hend
  | succ d ih =>
   intro i hi h
   by_cases hp:p i
   ·refine hyes i (by omega) hp _ (ih (i + 1) (by omega) ?_);intro j hj
    by_cases hji:j=i
    ·rw [hji];exact hp
    ·exact h j (by omega)
   ·rw [nH (by omega) hp];exact hno i (by omega) hp
 exact key n 0 (by omega) (fun j hj=>absurd hj (by omega))
theorem Rw {α:Type} (l:List α) (z:α) (q:α→Bool):Ix l.length (fun j=>q (l.getD j z)=true) = !(l.any fun x=>!q x):=by
 rw [Bool.eq_iff_iff,vF];simp only [Bool.not_eq_true',List.any_eq_false,Bool.not_eq_true',Bool.not_eq_false]
 constructor
 ·intro h x hx;obtain ⟨j,hj,rfl⟩:=List.mem_iff_getElem.mp hx;have:=h j hj;rw [List.getD_eq_getElem?_getD,List.getElem?_eq_getElem hj] at this
  simpa using this
 ·intro h j hj;have:=h l[j] (List.getElem_mem hj);rw [List.getD_eq_getElem?_getD,List.getElem?_eq_getElem hj]
  simpa using this
end Go.Proofs.Ytmifdccaajngcaa.P
end
section
namespace Go.Proofs.Ytmifdccaajngcaa.P
open Go.RowKit Go.Proofs.Oa.Rb Go.Proofs.Oa.Ee Go.Proofs.Oa.Wf
set_option linter.unusedVariables false
set_option linter.unusedSimpArgs false
theorem dN (a b c:Int):Wa.f a b c=some (Uk a b c):=by
 unfold Wa.f Uk
 by_cases h:a ≥ b
 ·rw [if_pos h];have h':b ≤ a:=h;simp [h']
 ·rw [if_neg h];have h':¬ b ≤ a:=h;simp [h']
end Go.Proofs.Ytmifdccaajngcaa.P
end
