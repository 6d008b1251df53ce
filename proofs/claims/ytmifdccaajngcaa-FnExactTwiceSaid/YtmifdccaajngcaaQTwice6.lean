import Derived.Test.YtmifdccaajngcaaQTwice1
import Derived.Test.YtmifdccaajngcaaQTwice5
import Derived.Test.YtmifdccaajngcaaQTwice4
set_option maxHeartbeats 8000000
set_option maxRecDepth 100000
section
namespace Go.Proofs.Ytmifdccaajngcaa.P
open Go.RowKit Go.Proofs.Na.Ec Go.Proofs.Na.gf Go.Proofs.Na.Eg
set_option linter.unusedVariables false
set_option linter.unusedSimpArgs false
attribute [local go_sem] Yk Wk Gm Fm tj sj Xk Vk
def Qc.l0:Nat→Int→List Int→Int→Int→Int→List (Vf)→List (Nd)→Int→Int→Int→Int→Option (Bool)
 | 0,_,_,_,_,_,_,_,_,_,_,_=>none
 | k + 1,x5,kf,yf,ef,bf,Ud,Rg,Al,Rl,zk,xk=>if x5 < (Rg.length:Int) then (if 0 ≤ x5 then ((Cb.f k kf yf ef bf Ud ((oa Rg x5).f0) ((oa Rg x5).f1) ((oa Rg x5).f2) ((oa Rg x5).f3) ((oa Rg x5).f4) ((oa Rg x5).f5) ((oa Rg x5).f6)).bind fun t104=>(if t104=true then (Qc.l0 k (wrap64 (x5 + 1)) kf yf ef bf Ud Rg Al Rl zk xk) else (some false))) else (none)) else ((xb.f zk 0 (wrap64 ((Ud.length:Int) - 1))).bind fun t105=>((xb.f Rl 0 (wrap64 (bf - 1))).bind fun t106=>(if Al=0 then (if t105=true then (if Rl=0 then (some (xk == 0)) else (some false)) else (some false)) else (if Al=1 then (if t105=true then (if t106=true then ((xb.f xk 0 (wrap64 ((Ud.length:Int) - 1))).bind fun t107=>(some t107)) else (some false)) else (some false)) else (if Al=2 then (if t106=true then (if zk=0 then (some (xk == 0)) else (some false)) else (some false)) else (some false))))))
def Qc.f (k:Nat) (Ta:List Int) (Ra:Int) (Qa:Int) (Pa:Int) (La:List (Vf)) (Ed:List (Nd)) (jc:Int) (Yb:Int) (Zb:Int) (Pc:Int):Option (Bool):=Qc.l0 k 0 Ta Ra Qa Pa La Ed jc Yb Zb Pc
def Qc.T4:Bool × List (List Nat × List Nat):=(true,[([],[]),([],[]),([1],[1]),([],[]),([2,3],[2,3]),([4],[4]),([0,5],[0,5]),([6],[6])])
def Qc.B4:List Nat:=[0,0,2,0,14,30,63,127]
theorem Qc.m8:qn .any (opsOf Try.f87 4)=Qc.T4:=by kernel_rfl
theorem Qc.wZ:Sl Qc.T4.2 Qc.B4=true:=by kernel_rfl
theorem Qc.calls (k:Nat) (Jb:Option Addr) (Ib:Nat) (Ta:List Int) (Ra:Int) (Qa:Int) (Pa:Int) (nc:Option Addr) (dc:Nat) (La:List (Vf)) (xg:Option Addr) (ig:Nat) (Ed:List (Nd)) (jc:Int) (Yb:Int) (Zb:Int) (Pc:Int) (r:Bool) (w:World) (pg:Kd.C (Kd.int .i64) w Jb Ta.length Ta) (kg:Ta.length ≤ Ib) (wh:Kd.C dm w nc La.length La) (qh:La.length ≤ dc) (Iv:Kd.C uh w xg Ed.length Ed) (Lv:Ed.length ≤ ig) (h:Qc.f k Ta Ra Qa Pa La Ed jc Yb Zb Pc=some r) :
  Calls Try.prog 87 #[.agg #[.slice Jb Ta.length Ib,.int .i64 Ra,.int .i64 Qa,.int .i64 Pa,.slice nc La.length dc],.agg #[.slice xg Ed.length ig,.int .i64 jc,.int .i64 Yb,.int .i64 Zb,.int .i64 Pc]] w fun e w'=>e = .returned (.bool r)∧Below w.heap.size w w':=by
 have UD:=Try.underlying30;have RG:=Try.underlying68;have TD:=Try.underlying70;have qg:=ia.mk pg;have Jg:=ia.mk kg;clear pg kg;have Qh:=ia.mk wh;have Bj:=ia.mk qh;clear wh qh;have mo:=ia.mk Iv;have mq:=ia.mk Lv;clear Iv Lv;have HB:=ia.mk (Below.refl w.heap.size w);have H:(Qc.l0 k 0 Ta Ra Qa Pa La Ed jc Yb Zb Pc)=some r:=h;clear h;have H':=ia.mk H;clear H;go_enter Try.func87,Try.ntmps87;go_wp2_with (first|((with_reducible refine Tb (N:=2) rfl ?_);(try (refine Zj (by rfl) ?_;dsimp only));refine Sb ?hg (N:=2) ?hd (cs:=#[.slice Jb Ta.length Ib,.int .i64 Ra,.int .i64 Qa,.int .i64 Pa,.slice nc La.length dc]) (t:=30) ?hr ?_;(case hd=>rfl);(case hg=>rfl);(case hr=>first|(go_simp;done)|(go_simp;rfl));intro Fa hg w3 ic hb;have Ub:=ia.mk (Oa (by repeat (first|(with_reducible first|exact HB.out|apply qa|apply ja|apply ta)|exact HB.out)) hb);have fc:=ia.mk (ic);have Fc:=ia.mk ((by rw [hg];exact (Ma (by repeat (first|(with_reducible first|exact HB.out|apply qa|apply ja|apply ta)|exact HB.out))):w.heap.size ≤ Fa));have Xc:=ia.mk ((by rw [hg];exact (Ma (by repeat (first|(with_reducible first|exact HB.out|apply qa|apply ja|apply ta)|exact HB.out))):w.heap.size ≤ Fa));clear HB;have HB:=Ub;have ya:=fc;have Kg:=Fc;have Wa:=Xc;clear Ub fc Fc Xc hb ic hg)|((with_reducible refine Tb (N:=3) rfl ?_);(try (refine Zj (by rfl) ?_;dsimp only));refine Sb ?hg (N:=3) ?hd (cs:=#[.slice xg Ed.length ig,.int .i64 jc,.int .i64 Yb,.int .i64 Zb,.int .i64 Pc]) (t:=68) ?hr ?_;(case hd=>rfl);(case hg=>rfl);(case hr=>first|(go_simp;done)|(go_simp;rfl));intro Ga hg w4 ic hb;have Ub:=ia.mk (Sa (g:=Fa) (o:=.cells #[.slice Jb Ta.length Ib,.int .i64 Ra,.int .i64 Qa,.int .i64 Pa,.slice nc La.length dc] 30 (0,0)) (by (with_reducible repeat (first|refine Ba ?_ _|refine Ca ?_|refine Aa ?_ _));exact ya.out) hb);have fc:=ia.mk (Oa (by repeat (first|(with_reducible first|exact HB.out|apply qa|apply ja|apply ta|refine ua ?_ Wa.out)|exact HB.out)) hb);have Fc:=ia.mk (ic);have Xc:=ia.mk ((by rw [hg];exact (Ma (by repeat (first|(with_reducible first|exact HB.out|apply qa|apply ja|apply ta|refine ua ?_ Wa.out)|exact HB.out))):w.heap.size ≤ Ga));have Fe:=ia.mk ((by rw [hg];exact (Ma (by repeat (first|(with_reducible first|exact HB.out|apply qa|apply ja|apply ta|refine ua ?_ Wa.out)|exact HB.out))):w.heap.size ≤ Ga));have Ve:=ia.mk ((by rw [hg];exact Nat.ne_of_lt (Mc (g:=Fa) (o:=.cells #[.slice Jb Ta.length Ib,.int .i64 Ra,.int .i64 Qa,.int .i64 Pa,.slice nc La.length dc] 30 (0,0)) (by (with_reducible repeat (first|refine Ba ?_ _|refine Ca ?_|refine Aa ?_ _));exact ya.out)):Fa ≠ Ga));have Gg:=ia.mk ((by rw [hg];exact Nat.ne_of_gt (Mc (g:=Fa) (o:=.cells #[.slice Jb Ta.length Ib,.int .i64 Ra,.int .i64 Qa,.int .i64 Pa,.slice nc La.length dc] 30 (0,0)) (by (with_reducible repeat (first|refine Ba ?_ _|refine Ca ?_|refine Aa ?_ _));exact ya.out)):Ga ≠ Fa));clear ya HB;have ya:=Ub;have HB:=fc;have Ea:=Fc;have xj:=Xc;have Xb:=Fe;have Fb:=Ve;have Eb:=Gg;clear Ub fc Fc Xc Fe Ve Gg hb ic hg))
 go_loopg [5] k (fun kq v5 w'=>∃ (za:Int),v5 = .int .i64 za∧ia (Qc.l0 kq za Ta Ra Qa Pa La Ed jc Yb Zb Pc=some r)∧ia (kq ≤ k)∧ia (w'.heap[Fa]? = some (.cells #[(.slice Jb Ta.length Ib),.int .i64 Ra,.int .i64 Qa,.int .i64 Pa,(.slice nc La.length dc)] 30 (0,0)))∧ia (w'.heap[Ga]? = some (.cells #[(.slice xg Ed.length ig),.int .i64 jc,.int .i64 Yb,.int .i64 Zb,.int .i64 Pc] 68 (0,0)))∧ia (Below w.heap.size w w'))
 case atStart=>exact ⟨(0),(by first|rfl|(simp;done)|(simp [*];done)),H',⟨Nat.le_refl _⟩,⟨by (with_reducible repeat (first|refine Ba ?_ _|refine Ca ?_|refine Aa ?_ _));exact ya.out⟩,⟨by (with_reducible repeat (first|refine Ba ?_ _|refine Ca ?_|refine Aa ?_ _));exact Ea.out⟩,⟨by repeat (first|(with_reducible first|exact HB.out|apply qa|apply ja|apply ta|refine ua ?_ Wa.out|refine ua ?_ Xb.out)|exact HB.out)⟩⟩
 case round =>
  clear H'
  try clear c1
  try clear p2
  (try clear HA);(try clear jh);(try clear ya);(try clear Ea);(try clear HB);obtain ⟨za,rfl,HA,jh,ya,Ea,HB⟩:=hrel;cases gk with
  | zero=>exact absurd HA.out (by simp [Qc.l0])
  | succ k1 =>
   have H:=HA.out;clear HA;simp only [Qc.l0] at H
   by_cases c5:za < (Ed.length:Int)
   ·rw [if_pos c5] at H;have Yo:decide (za < (Ed.length:Int))=true:=decide_eq_true c5;clear c5
    by_cases c6:0 ≤ za
    ·rw [if_pos c6] at H;have Cn:decide (0 ≤ za)=true:=decide_eq_true c6;clear c6;replace H:=Option.bind_eq_some_iff.mp H;obtain ⟨t104,gI,H⟩:=H;replace H:(if t104=true then (Qc.l0 k1 (wrap64 (za + 1)) Ta Ra Qa Pa La Ed jc Yb Zb Pc) else (some false))=some r:=H;have A7:=ia.mk gI;clear gI
     by_cases c8:t104=true
     ·subst c8;have H1:(Qc.l0 k1 (wrap64 (za + 1)) Ta Ra Qa Pa La Ed jc Yb Zb Pc)=some r:=by rw [if_pos rfl] at H;exact H
      clear H;have H:=H1;clear H1;have H':=ia.mk H;clear H;have n3:=Eb.out;have Y2:=Fb.out;have Vi:wr.cell? ⟨Ga,0,none⟩=some (.slice xg Ed.length ig):=(ga Ea.out 0).trans rfl;have Ui:wr.cell? ⟨Ga,1,none⟩=some (.int .i64 jc):=(ga Ea.out 1).trans rfl;have Ti:wr.cell? ⟨Ga,2,none⟩=some (.int .i64 Yb):=(ga Ea.out 2).trans rfl;have Si:wr.cell? ⟨Ga,3,none⟩=some (.int .i64 Zb):=(ga Ea.out 3).trans rfl;have Ri:wr.cell? ⟨Ga,4,none⟩=some (.int .i64 Pc):=(ga Ea.out 4).trans rfl;have Qi:=aa Ea.out 0;have Oi:=aa Ea.out 1;have Ni:=aa Ea.out 2;have Mi:=aa Ea.out 3;have Li:=aa Ea.out 4
      try go_wp2
      have Ub:=ia.mk (Ca ya.out);have fc:=ia.mk (Ca Ea.out);have Fc:=ia.mk (ta HB.out);clear ya Ea HB;have ya:=Ub;have Ea:=fc;have HB:=Fc;clear Ub fc Fc;have nh:0 ≤ (za:Int):=of_decide_eq_true (by first|(with_reducible assumption)|assumption);have mh:za < (Ed.length:Int):=of_decide_eq_true (by first|(with_reducible assumption)|assumption);obtain ⟨Rf,om,Td,Be,Ae,ze,ye,Mf,Lf⟩:=Yd mo.out za nh mh;have ax:=Lf;have cx:=Mf;have dx:=ye;have gx:=ze;have jx:=Ae;have ox:=Be;have qx:=Td;cases om;replace Td:=Da HB.out Td;replace Be:=Da HB.out Be;replace Ae:=Da HB.out Ae;replace ze:=Da HB.out ze;replace ye:=Da HB.out ye;replace Mf:=Da HB.out Mf;replace Lf:=Da HB.out Lf;replace nh:=eq_true nh;replace mh:=eq_true mh;refine Dj (n:=8) (S:=fun w'=>w'.cell? ⟨Fa,0,none⟩=some (.slice Jb Ta.length Ib)∧w'.cell? ⟨Fa,1,none⟩=some (.int .i64 Ra)∧w'.cell? ⟨Fa,2,none⟩=some (.int .i64 Qa)∧w'.cell? ⟨Fa,3,none⟩=some (.int .i64 Pa)∧w'.cell? ⟨Fa,4,none⟩=some (.slice nc La.length dc)∧w'.cell? ⟨Ga,0,none⟩=some (.slice (some Rf) Ed.length ig)∧w'.cell? ⟨Ga,1,none⟩=some (.int .i64 jc)∧w'.cell? ⟨Ga,2,none⟩=some (.int .i64 Yb)∧w'.cell? ⟨Ga,3,none⟩=some (.int .i64 Zb)∧w'.cell? ⟨Ga,4,none⟩=some (.int .i64 Pc)∧w'.cell? (Rf.add ((za).toNat * 7))=some (.int .i64 ((oa Ed za).f0))∧w'.cell? ⟨(Rf.add ((za).toNat * 7)).block,(Rf.add ((za).toNat * 7)).off + 1,none⟩=some (.int .i64 ((oa Ed za).f1))∧w'.cell? ⟨(Rf.add ((za).toNat * 7)).block,(Rf.add ((za).toNat * 7)).off + 2,none⟩=some (.int .i64 ((oa Ed za).f2))∧w'.cell? ⟨(Rf.add ((za).toNat * 7)).block,(Rf.add ((za).toNat * 7)).off + 3,none⟩=some (.int .i64 ((oa Ed za).f3))∧w'.cell? ⟨(Rf.add ((za).toNat * 7)).block,(Rf.add ((za).toNat * 7)).off + 4,none⟩=some (.int .i64 ((oa Ed za).f4))∧w'.cell? ⟨(Rf.add ((za).toNat * 7)).block,(Rf.add ((za).toNat * 7)).off + 5,none⟩=some (.int .i64 ((oa Ed za).f5))∧w'.cell? ⟨(Rf.add ((za).toNat * 7)).block,(Rf.add ((za).toNat * 7)).off + 6,none⟩=some (.string ((oa Ed za).f6))) (ds:=[]) #[false,false,false,false,false,false,false,false] (by kernel_rfl) rfl rfl ⟨(ga ya.out 0).trans rfl,(ga ya.out 1).trans rfl,(ga ya.out 2).trans rfl,(ga ya.out 3).trans rfl,(ga ya.out 4).trans rfl,(ga Ea.out 0).trans rfl,(ga Ea.out 1).trans rfl,(ga Ea.out 2).trans rfl,(ga Ea.out 3).trans rfl,(ga Ea.out 4).trans rfl,(Da HB.out qx),(Da HB.out ox),(Da HB.out jx),(Da HB.out gx),(Da HB.out dx),(Da HB.out cx),(Da HB.out ax)⟩ (fun hHeld=>?_);refine ah Qc.m8 Qc.wZ (fun Dd Kl=>?_);generalize wr.drew=Aj at ya Ea HB Td Be Ae ze ye Mf Lf hHeld ⊢;refine Nb (i:=1) (N:=some 16) (v:=?_) (a':=?_) #[false,true,false,false,false,false,false,false] rfl rfl (qb Dd.out (by kernel_rfl)) (fun _ _ _ h=>h) (Or.inl ⟨by rfl,?_⟩) ?_ ?_;rotate_left
      ·intro w';go_simp;with_reducible rfl
      rotate_left
      ·simp only [Act.put,List.setIfInBounds_toArray,List.set_cons_zero,List.set_cons_succ,jb,mb]
       rfl
      refine Nb (i:=3) (N:=some 18) (v:=?_) (a':=?_) #[false,true,false,true,false,false,false,false] rfl rfl (qb Dd.out (by kernel_rfl)) (fun _ _ _ h=>h) (Or.inl ⟨by rfl,?_⟩) ?_ ?_;rotate_left
      ·intro w';go_simp;with_reducible rfl
      rotate_left
      ·simp only [Act.put,List.setIfInBounds_toArray,List.set_cons_zero,List.set_cons_succ,jb,mb]
       rfl
      refine bg (i:=0) (N:=some 15) (v:=?_) (a':=?_) #[true,true,false,true,false,false,false,false] rfl rfl (Sd Dd.out Kl.out (by kernel_rfl)) (fun _ _ _ h=>h) (Or.inl ⟨by rfl,?_⟩) hHeld ?_ ?_;rotate_left
      ·rintro w' ⟨s0,s1,s2,s3,s4,s5,s6,s7,s8,s9,Us,Ts,Ss,Rs,dz,iA,gA⟩;go_simp;with_reducible rfl
      rotate_left
      ·simp only [Act.put,List.setIfInBounds_toArray,List.set_cons_zero,List.set_cons_succ,jb,mb]
       rfl
      refine bg (i:=2) (N:=some 17) (v:=?_) (a':=?_) #[true,true,true,true,false,false,false,false] rfl rfl (Sd Dd.out Kl.out (by kernel_rfl)) (fun _ _ _ h=>h) (Or.inl ⟨by rfl,?_⟩) hHeld ?_ ?_;rotate_left
      ·rintro w' ⟨s0,s1,s2,s3,s4,s5,s6,s7,s8,s9,Us,Ts,Ss,Rs,dz,iA,gA⟩;go_simp;with_reducible rfl
      rotate_left
      ·simp only [Act.put,List.setIfInBounds_toArray,List.set_cons_zero,List.set_cons_succ,jb,mb]
       rfl
      refine Nb (i:=4) (N:=some 19) (v:=?_) (a':=?_) #[true,true,true,true,true,false,false,false] rfl rfl (qb Dd.out (by kernel_rfl)) (fun _ _ _ h=>h) (Or.inl ⟨by rfl,?_⟩) ?_ ?_;rotate_left
      ·intro w';go_simp;with_reducible rfl
      rotate_left
      ·simp only [Act.put,List.setIfInBounds_toArray,List.set_cons_zero,List.set_cons_succ,jb,mb]
       rfl
      refine bg (i:=5) (N:=some 20) (v:=?_) (a':=?_) #[true,true,true,true,true,true,false,false] rfl rfl (Sd Dd.out Kl.out (by kernel_rfl)) (fun _ _ _ h=>h) (Or.inl ⟨by rfl,?_⟩) hHeld ?_ ?_;rotate_left
      ·rintro w' ⟨s0,s1,s2,s3,s4,s5,s6,s7,s8,s9,Us,Ts,Ss,Rs,dz,iA,gA⟩;go_simp;with_reducible rfl
      rotate_left
      ·simp only [Act.put,List.setIfInBounds_toArray,List.set_cons_zero,List.set_cons_succ,jb,mb]
       rfl
      refine Pq (i:=6) (N:=some 21) #[true,true,true,true,true,true,true,false] rfl rfl (nk Dd.out (by kernel_rfl)) (by decide) (fun K hK=>?_);refine vn Try.func111 (by kernel_rfl) rfl #[.agg #[.slice Jb Ta.length Ib,.int .i64 Ra,.int .i64 Qa,.int .i64 Pa,.slice nc La.length dc],.agg #[.int .i64 ((oa Ed za).f0),.int .i64 ((oa Ed za).f1),.int .i64 ((oa Ed za).f2),.int .i64 ((oa Ed za).f3),.int .i64 ((oa Ed za).f4),.int .i64 ((oa Ed za).f5),.string ((oa Ed za).f6)]] (by rfl) rfl rfl (by (try simp only [List.map_toArray,List.map_cons,List.map_nil]);first|done|rfl|(simp only [List.length_drop,List.length_take];rfl)) ?_;with_reducible refine (Cb.calls k1 _ _ Ta Ra Qa Pa _ _ La ((oa Ed za).f0) ((oa Ed za).f1) ((oa Ed za).f2) ((oa Ed za).f3) ((oa Ed za).f4) ((oa Ed za).f5) ((oa Ed za).f6) true _ ?zd ?yd ?Yf ?Xf A7.out).mono ?_
      (case zd=>repeat (first|exact (Kd.ec qg.out HB.out)|(with_reducible refine Kd.Sc ?_ _)|(with_reducible refine Kd.Rc ?_ _)|(with_reducible refine Kd.Cd ?_)))
      (case yd=>exact Jg.out)
      (case Yf=>repeat (first|exact (Kd.ec Qh.out HB.out)|(with_reducible refine Kd.Sc ?_ _)|(with_reducible refine Kd.Rc ?_ _)|(with_reducible refine Kd.Cd ?_)))
      (case Xf=>exact Bj.out)
      rintro e kG ⟨rfl,hb⟩;refine ⟨_,rfl,?_⟩;have Ub:=ia.mk (Sa (g:=Fa) (o:=.cells #[.slice Jb Ta.length Ib,.int .i64 Ra,.int .i64 Qa,.int .i64 Pa,.slice nc La.length dc] 30 (0,0)) (by (with_reducible repeat (first|refine Ba ?_ _|refine Ca ?_|refine Aa ?_ _));exact ya.out) hb);have fc:=ia.mk (Sa (g:=Ga) (o:=.cells #[.slice (some Rf) Ed.length ig,.int .i64 jc,.int .i64 Yb,.int .i64 Zb,.int .i64 Pc] 68 (0,0)) (by (with_reducible repeat (first|refine Ba ?_ _|refine Ca ?_|refine Aa ?_ _));exact Ea.out) hb);have Fc:=ia.mk (Oa (by repeat (first|(with_reducible first|exact HB.out|apply qa|apply ja|apply ta|refine ua ?_ Wa.out|refine ua ?_ Xb.out)|exact HB.out)) hb);clear ya Ea HB;have ya:=Ub;have Ea:=fc;have HB:=Fc;clear Ub fc Fc;(try clear hb);(try clear jk);(try clear hk);(try clear hi);refine hK.out _ _ ⟨(ga ya.out 0).trans rfl,(ga ya.out 1).trans rfl,(ga ya.out 2).trans rfl,(ga ya.out 3).trans rfl,(ga ya.out 4).trans rfl,(ga Ea.out 0).trans rfl,(ga Ea.out 1).trans rfl,(ga Ea.out 2).trans rfl,(ga Ea.out 3).trans rfl,(ga Ea.out 4).trans rfl,(Da HB.out qx),(Da HB.out ox),(Da HB.out jx),(Da HB.out gx),(Da HB.out dx),(Da HB.out cx),(Da HB.out ax)⟩ (fun hHeld=>?_);clear hK K;refine tn (a':=?_) ?_ ?_;rotate_left
      ·show Act.put _ (some 21) _=_
       simp only [Act.put,List.setIfInBounds_toArray,List.set_cons_zero,List.set_cons_succ,jb,mb]
       rfl
      refine Nb (i:=7) (N:=some 22) (v:=?_) (a':=?_) #[true,true,true,true,true,true,true,true] rfl rfl (qb Dd.out (by kernel_rfl)) (fun _ _ _ h=>h) (Or.inl ⟨by rfl,?_⟩) ?_ ?_;rotate_left
      ·intro w';go_simp;with_reducible rfl
      rotate_left
      ·simp only [Act.put,List.setIfInBounds_toArray,List.set_cons_zero,List.set_cons_succ,jb,mb]
       rfl
      refine kn (Xi Dd.out (by kernel_rfl)) ?_
      try go_wp2
      go_roundg k1
      case measure=>have:=jh.out;omega
      case rel=>exact ⟨(wrap64 (za + 1)),(by first|rfl|(simp;done)|(simp [*];done)),H',⟨by have:=jh.out;omega⟩,⟨by (with_reducible repeat (first|refine Ba ?_ _|refine Ca ?_|refine Aa ?_ _));exact ya.out⟩,⟨by (with_reducible repeat (first|refine Ba ?_ _|refine Ca ?_|refine Aa ?_ _));exact Ea.out⟩,⟨by repeat (first|(with_reducible first|exact HB.out|apply qa|apply ja|apply ta|refine ua ?_ Wa.out|refine ua ?_ Xb.out)|exact HB.out)⟩⟩
     ·replace c8:=Bool.eq_false_iff.mpr c8;subst c8;have H1:(some false)=some r:=by rw [if_neg (show ¬ (false=true) by decide)] at H;exact H
      clear H;have H:=H1;clear H1;obtain rfl:=Option.some.inj H;have Tas:=Eb.out;have oas:=Fb.out;have Pr:wr.cell? ⟨Ga,0,none⟩=some (.slice xg Ed.length ig):=(ga Ea.out 0).trans rfl;have Nr:wr.cell? ⟨Ga,1,none⟩=some (.int .i64 jc):=(ga Ea.out 1).trans rfl;have Mr:wr.cell? ⟨Ga,2,none⟩=some (.int .i64 Yb):=(ga Ea.out 2).trans rfl;have Lr:wr.cell? ⟨Ga,3,none⟩=some (.int .i64 Zb):=(ga Ea.out 3).trans rfl;have Kr:wr.cell? ⟨Ga,4,none⟩=some (.int .i64 Pc):=(ga Ea.out 4).trans rfl;have jr:=aa Ea.out 0;have ir:=aa Ea.out 1;have gr:=aa Ea.out 2;have er:=aa Ea.out 3;have dr:=aa Ea.out 4
      try go_wp2
      have Ub:=ia.mk (Ca ya.out);have fc:=ia.mk (Ca Ea.out);have Fc:=ia.mk (ta HB.out);clear ya Ea HB;have ya:=Ub;have Ea:=fc;have HB:=Fc;clear Ub fc Fc;have nh:0 ≤ (za:Int):=of_decide_eq_true (by first|(with_reducible assumption)|assumption);have mh:za < (Ed.length:Int):=of_decide_eq_true (by first|(with_reducible assumption)|assumption);obtain ⟨Rf,om,Td,Be,Ae,ze,ye,Mf,Lf⟩:=Yd mo.out za nh mh;have ax:=Lf;have cx:=Mf;have dx:=ye;have gx:=ze;have jx:=Ae;have ox:=Be;have qx:=Td;cases om;replace Td:=Da HB.out Td;replace Be:=Da HB.out Be;replace Ae:=Da HB.out Ae;replace ze:=Da HB.out ze;replace ye:=Da HB.out ye;replace Mf:=Da HB.out Mf;replace Lf:=Da HB.out Lf;replace nh:=eq_true nh;replace mh:=eq_true mh;refine Dj (n:=8) (S:=fun w'=>w'.cell? ⟨Fa,0,none⟩=some (.slice Jb Ta.length Ib)∧w'.cell? ⟨Fa,1,none⟩=some (.int .i64 Ra)∧w'.cell? ⟨Fa,2,none⟩=some (.int .i64 Qa)∧w'.cell? ⟨Fa,3,none⟩=some (.int .i64 Pa)∧w'.cell? ⟨Fa,4,none⟩=some (.slice nc La.length dc)∧w'.cell? ⟨Ga,0,none⟩=some (.slice (some Rf) Ed.length ig)∧w'.cell? ⟨Ga,1,none⟩=some (.int .i64 jc)∧w'.cell? ⟨Ga,2,none⟩=some (.int .i64 Yb)∧w'.cell? ⟨Ga,3,none⟩=some (.int .i64 Zb)∧w'.cell? ⟨Ga,4,none⟩=some (.int .i64 Pc)∧w'.cell? (Rf.add ((za).toNat * 7))=some (.int .i64 ((oa Ed za).f0))∧w'.cell? ⟨(Rf.add ((za).toNat * 7)).block,(Rf.add ((za).toNat * 7)).off + 1,none⟩=some (.int .i64 ((oa Ed za).f1))∧w'.cell? ⟨(Rf.add ((za).toNat * 7)).block,(Rf.add ((za).toNat * 7)).off + 2,none⟩=some (.int .i64 ((oa Ed za).f2))∧w'.cell? ⟨(Rf.add ((za).toNat * 7)).block,(Rf.add ((za).toNat * 7)).off + 3,none⟩=some (.int .i64 ((oa Ed za).f3))∧w'.cell? ⟨(Rf.add ((za).toNat * 7)).block,(Rf.add ((za).toNat * 7)).off + 4,none⟩=some (.int .i64 ((oa Ed za).f4))∧w'.cell? ⟨(Rf.add ((za).toNat * 7)).block,(Rf.add ((za).toNat * 7)).off + 5,none⟩=some (.int .i64 ((oa Ed za).f5))∧w'.cell? ⟨(Rf.add ((za).toNat * 7)).block,(Rf.add ((za).toNat * 7)).off + 6,none⟩=some (.string ((oa Ed za).f6))) (ds:=[]) #[false,false,false,false,false,false,false,false] (by kernel_rfl) rfl rfl ⟨(ga ya.out 0).trans rfl,(ga ya.out 1).trans rfl,(ga ya.out 2).trans rfl,(ga ya.out 3).trans rfl,(ga ya.out 4).trans rfl,(ga Ea.out 0).trans rfl,(ga Ea.out 1).trans rfl,(ga Ea.out 2).trans rfl,(ga Ea.out 3).trans rfl,(ga Ea.out 4).trans rfl,(Da HB.out qx),(Da HB.out ox),(Da HB.out jx),(Da HB.out gx),(Da HB.out dx),(Da HB.out cx),(Da HB.out ax)⟩ (fun hHeld=>?_);refine ah Qc.m8 Qc.wZ (fun Dd Kl=>?_);generalize wr.drew=Kq at ya Ea HB Td Be Ae ze ye Mf Lf hHeld ⊢;refine Nb (i:=1) (N:=some 16) (v:=?_) (a':=?_) #[false,true,false,false,false,false,false,false] rfl rfl (qb Dd.out (by kernel_rfl)) (fun _ _ _ h=>h) (Or.inl ⟨by rfl,?_⟩) ?_ ?_;rotate_left
      ·intro w';go_simp;with_reducible rfl
      rotate_left
      ·simp only [Act.put,List.setIfInBounds_toArray,List.set_cons_zero,List.set_cons_succ,jb,mb]
       rfl
      refine Nb (i:=3) (N:=some 18) (v:=?_) (a':=?_) #[false,true,false,true,false,false,false,false] rfl rfl (qb Dd.out (by kernel_rfl)) (fun _ _ _ h=>h) (Or.inl ⟨by rfl,?_⟩) ?_ ?_;rotate_left
      ·intro w';go_simp;with_reducible rfl
      rotate_left
      ·simp only [Act.put,List.setIfInBounds_toArray,List.set_cons_zero,List.set_cons_succ,jb,mb]
       rfl
      refine bg (i:=0) (N:=some 15) (v:=?_) (a':=?_) #[true,true,false,true,false,false,false,false] rfl rfl (Sd Dd.out Kl.out (by kernel_rfl)) (fun _ _ _ h=>h) (Or.inl ⟨by rfl,?_⟩) hHeld ?_ ?_;rotate_left
      ·rintro w' ⟨s0,s1,s2,s3,s4,s5,s6,s7,s8,s9,Us,Ts,Ss,Rs,dz,iA,gA⟩;go_simp;with_reducible rfl
      rotate_left
      ·simp only [Act.put,List.setIfInBounds_toArray,List.set_cons_zero,List.set_cons_succ,jb,mb]
       rfl
      refine bg (i:=2) (N:=some 17) (v:=?_) (a':=?_) #[true,true,true,true,false,false,false,false] rfl rfl (Sd Dd.out Kl.out (by kernel_rfl)) (fun _ _ _ h=>h) (Or.inl ⟨by rfl,?_⟩) hHeld ?_ ?_;rotate_left
      ·rintro w' ⟨s0,s1,s2,s3,s4,s5,s6,s7,s8,s9,Us,Ts,Ss,Rs,dz,iA,gA⟩;go_simp;with_reducible rfl
      rotate_left
      ·simp only [Act.put,List.setIfInBounds_toArray,List.set_cons_zero,List.set_cons_succ,jb,mb]
       rfl
      refine Nb (i:=4) (N:=some 19) (v:=?_) (a':=?_) #[true,true,true,true,true,false,false,false] rfl rfl (qb Dd.out (by kernel_rfl)) (fun _ _ _ h=>h) (Or.inl ⟨by rfl,?_⟩) ?_ ?_;rotate_left
      ·intro w';go_simp;with_reducible rfl
      rotate_left
      ·simp only [Act.put,List.setIfInBounds_toArray,List.set_cons_zero,List.set_cons_succ,jb,mb]
       rfl
      refine bg (i:=5) (N:=some 20) (v:=?_) (a':=?_) #[true,true,true,true,true,true,false,false] rfl rfl (Sd Dd.out Kl.out (by kernel_rfl)) (fun _ _ _ h=>h) (Or.inl ⟨by rfl,?_⟩) hHeld ?_ ?_;rotate_left
      ·rintro w' ⟨s0,s1,s2,s3,s4,s5,s6,s7,s8,s9,Us,Ts,Ss,Rs,dz,iA,gA⟩;go_simp;with_reducible rfl
      rotate_left
      ·simp only [Act.put,List.setIfInBounds_toArray,List.set_cons_zero,List.set_cons_succ,jb,mb]
       rfl
      refine Pq (i:=6) (N:=some 21) #[true,true,true,true,true,true,true,false] rfl rfl (nk Dd.out (by kernel_rfl)) (by decide) (fun K hK=>?_);refine vn Try.func111 (by kernel_rfl) rfl #[.agg #[.slice Jb Ta.length Ib,.int .i64 Ra,.int .i64 Qa,.int .i64 Pa,.slice nc La.length dc],.agg #[.int .i64 ((oa Ed za).f0),.int .i64 ((oa Ed za).f1),.int .i64 ((oa Ed za).f2),.int .i64 ((oa Ed za).f3),.int .i64 ((oa Ed za).f4),.int .i64 ((oa Ed za).f5),.string ((oa Ed za).f6)]] (by rfl) rfl rfl (by (try simp only [List.map_toArray,List.map_cons,List.map_nil]);first|done|rfl|(simp only [List.length_drop,List.length_take];rfl)) ?_;with_reducible refine (Cb.calls k1 _ _ Ta Ra Qa Pa _ _ La ((oa Ed za).f0) ((oa Ed za).f1) ((oa Ed za).f2) ((oa Ed za).f3) ((oa Ed za).f4) ((oa Ed za).f5) ((oa Ed za).f6) false _ ?zd ?yd ?Yf ?Xf A7.out).mono ?_
      (case zd=>repeat (first|exact (Kd.ec qg.out HB.out)|(with_reducible refine Kd.Sc ?_ _)|(with_reducible refine Kd.Rc ?_ _)|(with_reducible refine Kd.Cd ?_)))
      (case yd=>exact Jg.out)
      (case Yf=>repeat (first|exact (Kd.ec Qh.out HB.out)|(with_reducible refine Kd.Sc ?_ _)|(with_reducible refine Kd.Rc ?_ _)|(with_reducible refine Kd.Cd ?_)))
      (case Xf=>exact Bj.out)
      rintro e NC ⟨rfl,hb⟩;refine ⟨_,rfl,?_⟩;have Ub:=ia.mk (Sa (g:=Fa) (o:=.cells #[.slice Jb Ta.length Ib,.int .i64 Ra,.int .i64 Qa,.int .i64 Pa,.slice nc La.length dc] 30 (0,0)) (by (with_reducible repeat (first|refine Ba ?_ _|refine Ca ?_|refine Aa ?_ _));exact ya.out) hb);have fc:=ia.mk (Sa (g:=Ga) (o:=.cells #[.slice (some Rf) Ed.length ig,.int .i64 jc,.int .i64 Yb,.int .i64 Zb,.int .i64 Pc] 68 (0,0)) (by (with_reducible repeat (first|refine Ba ?_ _|refine Ca ?_|refine Aa ?_ _));exact Ea.out) hb);have Fc:=ia.mk (Oa (by repeat (first|(with_reducible first|exact HB.out|apply qa|apply ja|apply ta|refine ua ?_ Wa.out|refine ua ?_ Xb.out)|exact HB.out)) hb);clear ya Ea HB;have ya:=Ub;have Ea:=fc;have HB:=Fc;clear Ub fc Fc;(try clear hb);(try clear jk);(try clear hk);(try clear hi);refine hK.out _ _ ⟨(ga ya.out 0).trans rfl,(ga ya.out 1).trans rfl,(ga ya.out 2).trans rfl,(ga ya.out 3).trans rfl,(ga ya.out 4).trans rfl,(ga Ea.out 0).trans rfl,(ga Ea.out 1).trans rfl,(ga Ea.out 2).trans rfl,(ga Ea.out 3).trans rfl,(ga Ea.out 4).trans rfl,(Da HB.out qx),(Da HB.out ox),(Da HB.out jx),(Da HB.out gx),(Da HB.out dx),(Da HB.out cx),(Da HB.out ax)⟩ (fun hHeld=>?_);clear hK K;refine tn (a':=?_) ?_ ?_;rotate_left
      ·show Act.put _ (some 21) _=_
       simp only [Act.put,List.setIfInBounds_toArray,List.set_cons_zero,List.set_cons_succ,jb,mb]
       rfl
      refine Nb (i:=7) (N:=some 22) (v:=?_) (a':=?_) #[true,true,true,true,true,true,true,true] rfl rfl (qb Dd.out (by kernel_rfl)) (fun _ _ _ h=>h) (Or.inl ⟨by rfl,?_⟩) ?_ ?_;rotate_left
      ·intro w';go_simp;with_reducible rfl
      rotate_left
      ·simp only [Act.put,List.setIfInBounds_toArray,List.set_cons_zero,List.set_cons_succ,jb,mb]
       rfl
      refine kn (Xi Dd.out (by kernel_rfl)) ?_
      try go_wp2
      go_ret;exact ⟨by first|rfl|(simp [Ka,Ja] <;> rfl)|(simp [*,Ka,Ja] <;> rfl),by repeat (first|(with_reducible first|exact HB.out|apply qa|apply ja|apply ta|refine ua ?_ Wa.out|refine ua ?_ Xb.out)|exact HB.out)⟩
    ·rw [if_neg c6] at H;exact absurd H (by simp)
   ·rw [if_neg c5] at H;have Yo:decide (za < (Ed.length:Int))=false:=decide_eq_false c5;clear c5;replace H:=Option.bind_eq_some_iff.mp H;obtain ⟨t105,Rae,H⟩:=H;replace H:((xb.f Yb 0 (wrap64 (Pa - 1))).bind fun t106=>(if jc=0 then (if t105=true then (if Yb=0 then (some (Pc == 0)) else (some false)) else (some false)) else (if jc=1 then (if t105=true then (if t106=true then ((xb.f Pc 0 (wrap64 ((La.length:Int) - 1))).bind fun t107=>(some t107)) else (some false)) else (some false)) else (if jc=2 then (if t106=true then (if Zb=0 then (some (Pc == 0)) else (some false)) else (some false)) else (some false)))))=some r:=H;have jU:=ia.mk Rae;clear Rae;replace H:=Option.bind_eq_some_iff.mp H;obtain ⟨t106,RT,H⟩:=H;replace H:(if jc=0 then (if t105=true then (if Yb=0 then (some (Pc == 0)) else (some false)) else (some false)) else (if jc=1 then (if t105=true then (if t106=true then ((xb.f Pc 0 (wrap64 ((La.length:Int) - 1))).bind fun t107=>(some t107)) else (some false)) else (some false)) else (if jc=2 then (if t106=true then (if Zb=0 then (some (Pc == 0)) else (some false)) else (some false)) else (some false))))=some r:=H;have tP:=ia.mk RT;clear RT
    by_cases wv:jc=0
    ·rw [if_pos wv] at H;have yH:(jc == 0)=true:=beq_iff_eq.mpr wv;have Vac:(jc != 0)=false:=bne_eq_false_iff_eq.mpr wv;clear wv
     by_cases WC:t105=true
     ·subst WC;have H1:(if Yb=0 then (some (Pc == 0)) else (some false))=some r:=by rw [if_pos rfl] at H;exact H
      clear H;have H:=H1;clear H1
      by_cases yt:Yb=0
      ·rw [if_pos yt] at H;have Fs:(Yb == 0)=true:=beq_iff_eq.mpr yt;have Tac:(Yb != 0)=false:=bne_eq_false_iff_eq.mpr yt;clear yt;obtain rfl:=Option.some.inj H;have XY:=Eb.out;have NY:=Fb.out;have Co:wr.cell? ⟨Ga,0,none⟩=some (.slice xg Ed.length ig):=(ga Ea.out 0).trans rfl;have Bo:wr.cell? ⟨Ga,1,none⟩=some (.int .i64 jc):=(ga Ea.out 1).trans rfl;have Ao:wr.cell? ⟨Ga,2,none⟩=some (.int .i64 Yb):=(ga Ea.out 2).trans rfl;have zo:wr.cell? ⟨Ga,3,none⟩=some (.int .i64 Zb):=(ga Ea.out 3).trans rfl;have yo:wr.cell? ⟨Ga,4,none⟩=some (.int .i64 Pc):=(ga Ea.out 4).trans rfl;have xo:=aa Ea.out 0;have wo:=aa Ea.out 1;have vo:=aa Ea.out 2;have uo:=aa Ea.out 3;have qo:=aa Ea.out 4;have xy:wr.cell? ⟨Fa,0,none⟩=some (.slice Jb Ta.length Ib):=(ga ya.out 0).trans rfl;have uy:wr.cell? ⟨Fa,1,none⟩=some (.int .i64 Ra):=(ga ya.out 1).trans rfl;have sy:wr.cell? ⟨Fa,2,none⟩=some (.int .i64 Qa):=(ga ya.out 2).trans rfl;have ry:wr.cell? ⟨Fa,3,none⟩=some (.int .i64 Pa):=(ga ya.out 3).trans rfl;have qy:wr.cell? ⟨Fa,4,none⟩=some (.slice nc La.length dc):=(ga ya.out 4).trans rfl;have Rx:=aa ya.out 0;have Qx:=aa ya.out 1;have Px:=aa ya.out 2;have Ox:=aa ya.out 3;have Nx:=aa ya.out 4;go_wp2_with (first|((with_reducible refine Gb (f:=54) rfl ?_);refine Bd (some 29) rfl rfl Try.func54 (by kernel_rfl) rfl #[.int .i64 Zb,.int .i64 0,.int .i64 (wrap64 ((La.length:Int) - 1))] rfl (by (try simp only [List.map_toArray,List.map_cons,List.map_nil]);first|done|rfl|(simp only [List.length_drop,List.length_take];rfl)) ?_;(with_reducible refine (xb.calls Zb 0 (wrap64 ((La.length:Int) - 1)) true _ jU.out).mono ?_);rintro e w' ⟨rfl,⟨nd,rfl⟩⟩;refine ⟨_,rfl,?_⟩)|((with_reducible refine Gb (f:=54) rfl ?_);refine Bd (some 35) rfl rfl Try.func54 (by kernel_rfl) rfl #[.int .i64 Yb,.int .i64 0,.int .i64 (wrap64 (Pa - 1))] rfl (by (try simp only [List.map_toArray,List.map_cons,List.map_nil]);first|done|rfl|(simp only [List.length_drop,List.length_take];rfl)) ?_;(with_reducible refine (xb.calls Yb 0 (wrap64 (Pa - 1)) t106 _ tP.out).mono ?_);rintro e w' ⟨rfl,⟨nd,rfl⟩⟩;refine ⟨_,rfl,?_⟩));go_ret;exact ⟨by first|rfl|(simp [Ka,Ja] <;> rfl)|(simp [*,Ka,Ja] <;> rfl),by repeat (first|(with_reducible first|exact HB.out|apply qa|apply ja|apply ta|refine ua ?_ Wa.out|refine ua ?_ Xb.out)|exact HB.out)⟩
      ·rw [if_neg yt] at H;have Fs:(Yb == 0)=false:=beq_eq_false_iff_ne.mpr yt;have Tac:(Yb != 0)=true:=bne_iff_ne.mpr yt;obtain rfl:=Option.some.inj H;have IQ:=Eb.out;have FQ:=Fb.out;have oy:wr.cell? ⟨Ga,0,none⟩=some (.slice xg Ed.length ig):=(ga Ea.out 0).trans rfl;have ny:wr.cell? ⟨Ga,1,none⟩=some (.int .i64 jc):=(ga Ea.out 1).trans rfl;have jy:wr.cell? ⟨Ga,2,none⟩=some (.int .i64 Yb):=(ga Ea.out 2).trans rfl;have iy:wr.cell? ⟨Ga,3,none⟩=some (.int .i64 Zb):=(ga Ea.out 3).trans rfl;have gy:wr.cell? ⟨Ga,4,none⟩=some (.int .i64 Pc):=(ga Ea.out 4).trans rfl;have Mx:=aa Ea.out 0;have Lx:=aa Ea.out 1;have Kx:=aa Ea.out 2;have Jx:=aa Ea.out 3;have Ix:=aa Ea.out 4;have Eu:wr.cell? ⟨Fa,0,none⟩=some (.slice Jb Ta.length Ib):=(ga ya.out 0).trans rfl;have Du:wr.cell? ⟨Fa,1,none⟩=some (.int .i64 Ra):=(ga ya.out 1).trans rfl;have Cu:wr.cell? ⟨Fa,2,none⟩=some (.int .i64 Qa):=(ga ya.out 2).trans rfl;have Bu:wr.cell? ⟨Fa,3,none⟩=some (.int .i64 Pa):=(ga ya.out 3).trans rfl;have Au:wr.cell? ⟨Fa,4,none⟩=some (.slice nc La.length dc):=(ga ya.out 4).trans rfl;have Wt:=aa ya.out 0;have Vt:=aa ya.out 1;have Ut:=aa ya.out 2;have Tt:=aa ya.out 3;have St:=aa ya.out 4;go_wp2_with (first|((with_reducible refine Gb (f:=54) rfl ?_);refine Bd (some 29) rfl rfl Try.func54 (by kernel_rfl) rfl #[.int .i64 Zb,.int .i64 0,.int .i64 (wrap64 ((La.length:Int) - 1))] rfl (by (try simp only [List.map_toArray,List.map_cons,List.map_nil]);first|done|rfl|(simp only [List.length_drop,List.length_take];rfl)) ?_;(with_reducible refine (xb.calls Zb 0 (wrap64 ((La.length:Int) - 1)) true _ jU.out).mono ?_);rintro e w' ⟨rfl,⟨nd,rfl⟩⟩;refine ⟨_,rfl,?_⟩)|((with_reducible refine Gb (f:=54) rfl ?_);refine Bd (some 35) rfl rfl Try.func54 (by kernel_rfl) rfl #[.int .i64 Yb,.int .i64 0,.int .i64 (wrap64 (Pa - 1))] rfl (by (try simp only [List.map_toArray,List.map_cons,List.map_nil]);first|done|rfl|(simp only [List.length_drop,List.length_take];rfl)) ?_;(with_reducible refine (xb.calls Yb 0 (wrap64 (Pa - 1)) t106 _ tP.out).mono ?_);rintro e w' ⟨rfl,⟨nd,rfl⟩⟩;refine ⟨_,rfl,?_⟩));go_ret;exact ⟨by first|rfl|(simp [Ka,Ja] <;> rfl)|(simp [*,Ka,Ja] <;> rfl),by repeat (first|(with_reducible first|exact HB.out|apply qa|apply ja|apply ta|refine ua ?_ Wa.out|refine ua ?_ Xb.out)|exact HB.out)⟩
     ·replace WC:=Bool.eq_false_iff.mpr WC;subst WC;have H1:(some false)=some r:=by rw [if_neg (show ¬ (false=true) by decide)] at H;exact H
      clear H;have H:=H1;clear H1;obtain rfl:=Option.some.inj H;have D9:=Eb.out;have e9:=Fb.out;have OM:wr.cell? ⟨Ga,0,none⟩=some (.slice xg Ed.length ig):=(ga Ea.out 0).trans rfl;have NM:wr.cell? ⟨Ga,1,none⟩=some (.int .i64 jc):=(ga Ea.out 1).trans rfl;have MM:wr.cell? ⟨Ga,2,none⟩=some (.int .i64 Yb):=(ga Ea.out 2).trans rfl;have LM:wr.cell? ⟨Ga,3,none⟩=some (.int .i64 Zb):=(ga Ea.out 3).trans rfl;have KM:wr.cell? ⟨Ga,4,none⟩=some (.int .i64 Pc):=(ga Ea.out 4).trans rfl;have FL:=aa Ea.out 0;have EL:=aa Ea.out 1;have DL:=aa Ea.out 2;have CL:=aa Ea.out 3;have BL:=aa Ea.out 4;have dF:wr.cell? ⟨Fa,0,none⟩=some (.slice Jb Ta.length Ib):=(ga ya.out 0).trans rfl;have cF:wr.cell? ⟨Fa,1,none⟩=some (.int .i64 Ra):=(ga ya.out 1).trans rfl;have bF:wr.cell? ⟨Fa,2,none⟩=some (.int .i64 Qa):=(ga ya.out 2).trans rfl;have ZE:wr.cell? ⟨Fa,3,none⟩=some (.int .i64 Pa):=(ga ya.out 3).trans rfl;have YE:wr.cell? ⟨Fa,4,none⟩=some (.slice nc La.length dc):=(ga ya.out 4).trans rfl;have qE:=aa ya.out 0;have pE:=aa ya.out 1;have oE:=aa ya.out 2;have nE:=aa ya.out 3;have mE:=aa ya.out 4;go_wp2_with (first|((with_reducible refine Gb (f:=54) rfl ?_);refine Bd (some 29) rfl rfl Try.func54 (by kernel_rfl) rfl #[.int .i64 Zb,.int .i64 0,.int .i64 (wrap64 ((La.length:Int) - 1))] rfl (by (try simp only [List.map_toArray,List.map_cons,List.map_nil]);first|done|rfl|(simp only [List.length_drop,List.length_take];rfl)) ?_;(with_reducible refine (xb.calls Zb 0 (wrap64 ((La.length:Int) - 1)) false _ jU.out).mono ?_);rintro e w' ⟨rfl,⟨nd,rfl⟩⟩;refine ⟨_,rfl,?_⟩)|((with_reducible refine Gb (f:=54) rfl ?_);refine Bd (some 35) rfl rfl Try.func54 (by kernel_rfl) rfl #[.int .i64 Yb,.int .i64 0,.int .i64 (wrap64 (Pa - 1))] rfl (by (try simp only [List.map_toArray,List.map_cons,List.map_nil]);first|done|rfl|(simp only [List.length_drop,List.length_take];rfl)) ?_;(with_reducible refine (xb.calls Yb 0 (wrap64 (Pa - 1)) t106 _ tP.out).mono ?_);rintro e w' ⟨rfl,⟨nd,rfl⟩⟩;refine ⟨_,rfl,?_⟩));go_ret;exact ⟨by first|rfl|(simp [Ka,Ja] <;> rfl)|(simp [*,Ka,Ja] <;> rfl),by repeat (first|(with_reducible first|exact HB.out|apply qa|apply ja|apply ta|refine ua ?_ Wa.out|refine ua ?_ Xb.out)|exact HB.out)⟩
    ·rw [if_neg wv] at H;have yH:(jc == 0)=false:=beq_eq_false_iff_ne.mpr wv;have Vac:(jc != 0)=true:=bne_iff_ne.mpr wv
     by_cases sZ:jc=1
     ·rw [if_pos sZ] at H;have Qac:(jc == 1)=true:=beq_iff_eq.mpr sZ;have Pac:(jc != 1)=false:=bne_eq_false_iff_eq.mpr sZ;clear sZ
      by_cases c32:t105=true
      ·subst c32;have H1:(if t106=true then ((xb.f Pc 0 (wrap64 ((La.length:Int) - 1))).bind fun t107=>(some t107)) else (some false))=some r:=by rw [if_pos rfl] at H;exact H
       clear H;have H:=H1;clear H1
       by_cases c33:t106=true
       ·subst c33;have H1:((xb.f Pc 0 (wrap64 ((La.length:Int) - 1))).bind fun t107=>(some t107))=some r:=by rw [if_pos rfl] at H;exact H
        clear H;have H:=H1;clear H1;replace H:=Option.bind_eq_some_iff.mp H;obtain ⟨t107,Lae,H⟩:=H;replace H:(some t107)=some r:=H;have A34:=ia.mk Lae;clear Lae;obtain rfl:=Option.some.inj H;have SY:=Eb.out;have JY:=Fb.out;have wM:wr.cell? ⟨Ga,0,none⟩=some (.slice xg Ed.length ig):=(ga Ea.out 0).trans rfl;have vM:wr.cell? ⟨Ga,1,none⟩=some (.int .i64 jc):=(ga Ea.out 1).trans rfl;have uM:wr.cell? ⟨Ga,2,none⟩=some (.int .i64 Yb):=(ga Ea.out 2).trans rfl;have sM:wr.cell? ⟨Ga,3,none⟩=some (.int .i64 Zb):=(ga Ea.out 3).trans rfl;have rM:wr.cell? ⟨Ga,4,none⟩=some (.int .i64 Pc):=(ga Ea.out 4).trans rfl;have oL:=aa Ea.out 0;have nL:=aa Ea.out 1;have mL:=aa Ea.out 2;have kL:=aa Ea.out 3;have jL:=aa Ea.out 4;have qM:wr.cell? ⟨Fa,0,none⟩=some (.slice Jb Ta.length Ib):=(ga ya.out 0).trans rfl;have pM:wr.cell? ⟨Fa,1,none⟩=some (.int .i64 Ra):=(ga ya.out 1).trans rfl;have oM:wr.cell? ⟨Fa,2,none⟩=some (.int .i64 Qa):=(ga ya.out 2).trans rfl;have nM:wr.cell? ⟨Fa,3,none⟩=some (.int .i64 Pa):=(ga ya.out 3).trans rfl;have mM:wr.cell? ⟨Fa,4,none⟩=some (.slice nc La.length dc):=(ga ya.out 4).trans rfl;have iL:=aa ya.out 0;have gL:=aa ya.out 1;have fL:=aa ya.out 2;have eL:=aa ya.out 3;have dL:=aa ya.out 4;go_wp2_with (first|((with_reducible refine Gb (f:=54) rfl ?_);refine Bd (some 29) rfl rfl Try.func54 (by kernel_rfl) rfl #[.int .i64 Zb,.int .i64 0,.int .i64 (wrap64 ((La.length:Int) - 1))] rfl (by (try simp only [List.map_toArray,List.map_cons,List.map_nil]);first|done|rfl|(simp only [List.length_drop,List.length_take];rfl)) ?_;(with_reducible refine (xb.calls Zb 0 (wrap64 ((La.length:Int) - 1)) true _ jU.out).mono ?_);rintro e w' ⟨rfl,⟨nd,rfl⟩⟩;refine ⟨_,rfl,?_⟩)|((with_reducible refine Gb (f:=54) rfl ?_);refine Bd (some 35) rfl rfl Try.func54 (by kernel_rfl) rfl #[.int .i64 Yb,.int .i64 0,.int .i64 (wrap64 (Pa - 1))] rfl (by (try simp only [List.map_toArray,List.map_cons,List.map_nil]);first|done|rfl|(simp only [List.length_drop,List.length_take];rfl)) ?_;(with_reducible refine (xb.calls Yb 0 (wrap64 (Pa - 1)) true _ tP.out).mono ?_);rintro e w' ⟨rfl,⟨nd,rfl⟩⟩;refine ⟨_,rfl,?_⟩)|(go_at_call 54;(with_reducible refine (xb.calls Pc 0 (wrap64 ((La.length:Int) - 1)) t107 _ A34.out).mono ?_);rintro e w' ⟨rfl,⟨nd,rfl⟩⟩));go_ret;exact ⟨by first|rfl|(simp [Ka,Ja] <;> rfl)|(simp [*,Ka,Ja] <;> rfl),by repeat (first|(with_reducible first|exact HB.out|apply qa|apply ja|apply ta|refine ua ?_ Wa.out|refine ua ?_ Xb.out)|exact HB.out)⟩
       ·replace c33:=Bool.eq_false_iff.mpr c33;subst c33;have H1:(some false)=some r:=by rw [if_neg (show ¬ (false=true) by decide)] at H;exact H
        clear H;have H:=H1;clear H1;obtain rfl:=Option.some.inj H;have Nas:=Eb.out;have ias:=Fb.out;have jM:wr.cell? ⟨Ga,0,none⟩=some (.slice xg Ed.length ig):=(ga Ea.out 0).trans rfl;have iM:wr.cell? ⟨Ga,1,none⟩=some (.int .i64 jc):=(ga Ea.out 1).trans rfl;have gM:wr.cell? ⟨Ga,2,none⟩=some (.int .i64 Yb):=(ga Ea.out 2).trans rfl;have fM:wr.cell? ⟨Ga,3,none⟩=some (.int .i64 Zb):=(ga Ea.out 3).trans rfl;have eM:wr.cell? ⟨Ga,4,none⟩=some (.int .i64 Pc):=(ga Ea.out 4).trans rfl;have ZK:=aa Ea.out 0;have YK:=aa Ea.out 1;have XK:=aa Ea.out 2;have WK:=aa Ea.out 3;have VK:=aa Ea.out 4;have fy:wr.cell? ⟨Fa,0,none⟩=some (.slice Jb Ta.length Ib):=(ga ya.out 0).trans rfl;have ey:wr.cell? ⟨Fa,1,none⟩=some (.int .i64 Ra):=(ga ya.out 1).trans rfl;have dy:wr.cell? ⟨Fa,2,none⟩=some (.int .i64 Qa):=(ga ya.out 2).trans rfl;have cy:wr.cell? ⟨Fa,3,none⟩=some (.int .i64 Pa):=(ga ya.out 3).trans rfl;have ay:wr.cell? ⟨Fa,4,none⟩=some (.slice nc La.length dc):=(ga ya.out 4).trans rfl;have Hx:=aa ya.out 0;have Gx:=aa ya.out 1;have Fx:=aa ya.out 2;have Ex:=aa ya.out 3;have Dx:=aa ya.out 4;go_wp2_with (first|((with_reducible refine Gb (f:=54) rfl ?_);refine Bd (some 29) rfl rfl Try.func54 (by kernel_rfl) rfl #[.int .i64 Zb,.int .i64 0,.int .i64 (wrap64 ((La.length:Int) - 1))] rfl (by (try simp only [List.map_toArray,List.map_cons,List.map_nil]);first|done|rfl|(simp only [List.length_drop,List.length_take];rfl)) ?_;(with_reducible refine (xb.calls Zb 0 (wrap64 ((La.length:Int) - 1)) true _ jU.out).mono ?_);rintro e w' ⟨rfl,⟨nd,rfl⟩⟩;refine ⟨_,rfl,?_⟩)|((with_reducible refine Gb (f:=54) rfl ?_);refine Bd (some 35) rfl rfl Try.func54 (by kernel_rfl) rfl #[.int .i64 Yb,.int .i64 0,.int .i64 (wrap64 (Pa - 1))] rfl (by (try simp only [List.map_toArray,List.map_cons,List.map_nil]);first|done|rfl|(simp only [List.length_drop,List.length_take];rfl)) ?_;(with_reducible refine (xb.calls Yb 0 (wrap64 (Pa - 1)) false _ tP.out).mono ?_);rintro e w' ⟨rfl,⟨nd,rfl⟩⟩;refine ⟨_,rfl,?_⟩));go_ret;exact ⟨by first|rfl|(simp [Ka,Ja] <;> rfl)|(simp [*,Ka,Ja] <;> rfl),by repeat (first|(with_reducible first|exact HB.out|apply qa|apply ja|apply ta|refine ua ?_ Wa.out|refine ua ?_ Xb.out)|exact HB.out)⟩
      ·replace c32:=Bool.eq_false_iff.mpr c32;subst c32;have H1:(some false)=some r:=by rw [if_neg (show ¬ (false=true) by decide)] at H;exact H
       clear H;have H:=H1;clear H1;obtain rfl:=Option.some.inj H;have y9:=Eb.out;have W8:=Fb.out;have KE:wr.cell? ⟨Ga,0,none⟩=some (.slice xg Ed.length ig):=(ga Ea.out 0).trans rfl;have JE:wr.cell? ⟨Ga,1,none⟩=some (.int .i64 jc):=(ga Ea.out 1).trans rfl;have IE:wr.cell? ⟨Ga,2,none⟩=some (.int .i64 Yb):=(ga Ea.out 2).trans rfl;have FE:wr.cell? ⟨Ga,3,none⟩=some (.int .i64 Zb):=(ga Ea.out 3).trans rfl;have EE:wr.cell? ⟨Ga,4,none⟩=some (.int .i64 Pc):=(ga Ea.out 4).trans rfl;have ZD:=aa Ea.out 0;have YD:=aa Ea.out 1;have XD:=aa Ea.out 2;have WD:=aa Ea.out 3;have VD:=aa Ea.out 4;have rX:wr.cell? ⟨Fa,0,none⟩=some (.slice Jb Ta.length Ib):=(ga ya.out 0).trans rfl;have qX:wr.cell? ⟨Fa,1,none⟩=some (.int .i64 Ra):=(ga ya.out 1).trans rfl;have pX:wr.cell? ⟨Fa,2,none⟩=some (.int .i64 Qa):=(ga ya.out 2).trans rfl;have oX:wr.cell? ⟨Fa,3,none⟩=some (.int .i64 Pa):=(ga ya.out 3).trans rfl;have nX:wr.cell? ⟨Fa,4,none⟩=some (.slice nc La.length dc):=(ga ya.out 4).trans rfl;have JV:=aa ya.out 0;have IV:=aa ya.out 1;have GV:=aa ya.out 2;have FV:=aa ya.out 3;have EV:=aa ya.out 4;go_wp2_with (first|((with_reducible refine Gb (f:=54) rfl ?_);refine Bd (some 29) rfl rfl Try.func54 (by kernel_rfl) rfl #[.int .i64 Zb,.int .i64 0,.int .i64 (wrap64 ((La.length:Int) - 1))] rfl (by (try simp only [List.map_toArray,List.map_cons,List.map_nil]);first|done|rfl|(simp only [List.length_drop,List.length_take];rfl)) ?_;(with_reducible refine (xb.calls Zb 0 (wrap64 ((La.length:Int) - 1)) false _ jU.out).mono ?_);rintro e w' ⟨rfl,⟨nd,rfl⟩⟩;refine ⟨_,rfl,?_⟩)|((with_reducible refine Gb (f:=54) rfl ?_);refine Bd (some 35) rfl rfl Try.func54 (by kernel_rfl) rfl #[.int .i64 Yb,.int .i64 0,.int .i64 (wrap64 (Pa - 1))] rfl (by (try simp only [List.map_toArray,List.map_cons,List.map_nil]);first|done|rfl|(simp only [List.length_drop,List.length_take];rfl)) ?_;(with_reducible refine (xb.calls Yb 0 (wrap64 (Pa - 1)) t106 _ tP.out).mono ?_);rintro e w' ⟨rfl,⟨nd,rfl⟩⟩;refine ⟨_,rfl,?_⟩));go_ret;exact ⟨by first|rfl|(simp [Ka,Ja] <;> rfl)|(simp [*,Ka,Ja] <;> rfl),by repeat (first|(with_reducible first|exact HB.out|apply qa|apply ja|apply ta|refine ua ?_ Wa.out|refine ua ?_ Xb.out)|exact HB.out)⟩
     ·rw [if_neg sZ] at H;have Qac:(jc == 1)=false:=beq_eq_false_iff_ne.mpr sZ;have Pac:(jc != 1)=true:=bne_iff_ne.mpr sZ
      by_cases gC:jc=2
      ·rw [if_pos gC] at H;have wH:(jc == 2)=true:=beq_iff_eq.mpr gC;have vH:(jc != 2)=false:=bne_eq_false_iff_eq.mpr gC;clear gC
       by_cases PX:t106=true
       ·subst PX;have H1:(if Zb=0 then (some (Pc == 0)) else (some false))=some r:=by rw [if_pos rfl] at H;exact H
        clear H;have H:=H1;clear H1
        by_cases nJ:Zb=0
        ·rw [if_pos nJ] at H;have yR:(Zb == 0)=true:=beq_iff_eq.mpr nJ;have xR:(Zb != 0)=false:=bne_eq_false_iff_eq.mpr nJ;clear nJ;obtain rfl:=Option.some.inj H;have GQ:=Eb.out;have DQ:=Fb.out;have RA:wr.cell? ⟨Ga,0,none⟩=some (.slice xg Ed.length ig):=(ga Ea.out 0).trans rfl;have QA:wr.cell? ⟨Ga,1,none⟩=some (.int .i64 jc):=(ga Ea.out 1).trans rfl;have PA:wr.cell? ⟨Ga,2,none⟩=some (.int .i64 Yb):=(ga Ea.out 2).trans rfl;have OA:wr.cell? ⟨Ga,3,none⟩=some (.int .i64 Zb):=(ga Ea.out 3).trans rfl;have NA:wr.cell? ⟨Ga,4,none⟩=some (.int .i64 Pc):=(ga Ea.out 4).trans rfl;have BA:=aa Ea.out 0;have AA:=aa Ea.out 1;have zA:=aa Ea.out 2;have yA:=aa Ea.out 3;have xA:=aa Ea.out 4;have eX:wr.cell? ⟨Fa,0,none⟩=some (.slice Jb Ta.length Ib):=(ga ya.out 0).trans rfl;have dX:wr.cell? ⟨Fa,1,none⟩=some (.int .i64 Ra):=(ga ya.out 1).trans rfl;have cX:wr.cell? ⟨Fa,2,none⟩=some (.int .i64 Qa):=(ga ya.out 2).trans rfl;have bX:wr.cell? ⟨Fa,3,none⟩=some (.int .i64 Pa):=(ga ya.out 3).trans rfl;have aX:wr.cell? ⟨Fa,4,none⟩=some (.slice nc La.length dc):=(ga ya.out 4).trans rfl;have wV:=aa ya.out 0;have vV:=aa ya.out 1;have uV:=aa ya.out 2;have tV:=aa ya.out 3;have sV:=aa ya.out 4;go_wp2_with (first|((with_reducible refine Gb (f:=54) rfl ?_);refine Bd (some 29) rfl rfl Try.func54 (by kernel_rfl) rfl #[.int .i64 Zb,.int .i64 0,.int .i64 (wrap64 ((La.length:Int) - 1))] rfl (by (try simp only [List.map_toArray,List.map_cons,List.map_nil]);first|done|rfl|(simp only [List.length_drop,List.length_take];rfl)) ?_;(with_reducible refine (xb.calls Zb 0 (wrap64 ((La.length:Int) - 1)) t105 _ jU.out).mono ?_);rintro e w' ⟨rfl,⟨nd,rfl⟩⟩;refine ⟨_,rfl,?_⟩)|((with_reducible refine Gb (f:=54) rfl ?_);refine Bd (some 35) rfl rfl Try.func54 (by kernel_rfl) rfl #[.int .i64 Yb,.int .i64 0,.int .i64 (wrap64 (Pa - 1))] rfl (by (try simp only [List.map_toArray,List.map_cons,List.map_nil]);first|done|rfl|(simp only [List.length_drop,List.length_take];rfl)) ?_;(with_reducible refine (xb.calls Yb 0 (wrap64 (Pa - 1)) true _ tP.out).mono ?_);rintro e w' ⟨rfl,⟨nd,rfl⟩⟩;refine ⟨_,rfl,?_⟩));go_ret;exact ⟨by first|rfl|(simp [Ka,Ja] <;> rfl)|(simp [*,Ka,Ja] <;> rfl),by repeat (first|(with_reducible first|exact HB.out|apply qa|apply ja|apply ta|refine ua ?_ Wa.out|refine ua ?_ Xb.out)|exact HB.out)⟩
        ·rw [if_neg nJ] at H;have yR:(Zb == 0)=false:=beq_eq_false_iff_ne.mpr nJ;have xR:(Zb != 0)=true:=bne_iff_ne.mpr nJ;obtain rfl:=Option.some.inj H;have Jas:=Eb.out;have cas:=Fb.out;have UW:wr.cell? ⟨Ga,0,none⟩=some (.slice xg Ed.length ig):=(ga Ea.out 0).trans rfl;have TW:wr.cell? ⟨Ga,1,none⟩=some (.int .i64 jc):=(ga Ea.out 1).trans rfl;have SW:wr.cell? ⟨Ga,2,none⟩=some (.int .i64 Yb):=(ga Ea.out 2).trans rfl;have RW:wr.cell? ⟨Ga,3,none⟩=some (.int .i64 Zb):=(ga Ea.out 3).trans rfl;have QW:wr.cell? ⟨Ga,4,none⟩=some (.int .i64 Pc):=(ga Ea.out 4).trans rfl;have mV:=aa Ea.out 0;have lV:=aa Ea.out 1;have kV:=aa Ea.out 2;have jV:=aa Ea.out 3;have iV:=aa Ea.out 4;have YL:wr.cell? ⟨Fa,0,none⟩=some (.slice Jb Ta.length Ib):=(ga ya.out 0).trans rfl;have XL:wr.cell? ⟨Fa,1,none⟩=some (.int .i64 Ra):=(ga ya.out 1).trans rfl;have WL:wr.cell? ⟨Fa,2,none⟩=some (.int .i64 Qa):=(ga ya.out 2).trans rfl;have VL:wr.cell? ⟨Fa,3,none⟩=some (.int .i64 Pa):=(ga ya.out 3).trans rfl;have UL:wr.cell? ⟨Fa,4,none⟩=some (.slice nc La.length dc):=(ga ya.out 4).trans rfl;have PK:=aa ya.out 0;have OK:=aa ya.out 1;have NK:=aa ya.out 2;have MK:=aa ya.out 3;have LK:=aa ya.out 4;go_wp2_with (first|((with_reducible refine Gb (f:=54) rfl ?_);refine Bd (some 29) rfl rfl Try.func54 (by kernel_rfl) rfl #[.int .i64 Zb,.int .i64 0,.int .i64 (wrap64 ((La.length:Int) - 1))] rfl (by (try simp only [List.map_toArray,List.map_cons,List.map_nil]);first|done|rfl|(simp only [List.length_drop,List.length_take];rfl)) ?_;(with_reducible refine (xb.calls Zb 0 (wrap64 ((La.length:Int) - 1)) t105 _ jU.out).mono ?_);rintro e w' ⟨rfl,⟨nd,rfl⟩⟩;refine ⟨_,rfl,?_⟩)|((with_reducible refine Gb (f:=54) rfl ?_);refine Bd (some 35) rfl rfl Try.func54 (by kernel_rfl) rfl #[.int .i64 Yb,.int .i64 0,.int .i64 (wrap64 (Pa - 1))] rfl (by (try simp only [List.map_toArray,List.map_cons,List.map_nil]);first|done|rfl|(simp only [List.length_drop,List.length_take];rfl)) ?_;(with_reducible refine (xb.calls Yb 0 (wrap64 (Pa - 1)) true _ tP.out).mono ?_);rintro e w' ⟨rfl,⟨nd,rfl⟩⟩;refine ⟨_,rfl,?_⟩));go_ret;exact ⟨by first|rfl|(simp [Ka,Ja] <;> rfl)|(simp [*,Ka,Ja] <;> rfl),by repeat (first|(with_reducible first|exact HB.out|apply qa|apply ja|apply ta|refine ua ?_ Wa.out|refine ua ?_ Xb.out)|exact HB.out)⟩
       ·replace PX:=Bool.eq_false_iff.mpr PX;subst PX;have H1:(some false)=some r:=by rw [if_neg (show ¬ (false=true) by decide)] at H;exact H
        clear H;have H:=H1;clear H1;obtain rfl:=Option.some.inj H;have Ias:=Eb.out;have bas:=Fb.out;have Vak:wr.cell? ⟨Ga,0,none⟩=some (.slice xg Ed.length ig):=(ga Ea.out 0).trans rfl;have Uak:wr.cell? ⟨Ga,1,none⟩=some (.int .i64 jc):=(ga Ea.out 1).trans rfl;have Tak:wr.cell? ⟨Ga,2,none⟩=some (.int .i64 Yb):=(ga Ea.out 2).trans rfl;have Sak:wr.cell? ⟨Ga,3,none⟩=some (.int .i64 Zb):=(ga Ea.out 3).trans rfl;have Rak:wr.cell? ⟨Ga,4,none⟩=some (.int .i64 Pc):=(ga Ea.out 4).trans rfl;have Mah:=aa Ea.out 0;have Lah:=aa Ea.out 1;have Kah:=aa Ea.out 2;have Jah:=aa Ea.out 3;have Iah:=aa Ea.out 4;have Qak:wr.cell? ⟨Fa,0,none⟩=some (.slice Jb Ta.length Ib):=(ga ya.out 0).trans rfl;have Pak:wr.cell? ⟨Fa,1,none⟩=some (.int .i64 Ra):=(ga ya.out 1).trans rfl;have Oak:wr.cell? ⟨Fa,2,none⟩=some (.int .i64 Qa):=(ga ya.out 2).trans rfl;have Nak:wr.cell? ⟨Fa,3,none⟩=some (.int .i64 Pa):=(ga ya.out 3).trans rfl;have Mak:wr.cell? ⟨Fa,4,none⟩=some (.slice nc La.length dc):=(ga ya.out 4).trans rfl;have Hah:=aa ya.out 0;have Gah:=aa ya.out 1;have Fah:=aa ya.out 2;have Eah:=aa ya.out 3;have Dah:=aa ya.out 4;go_wp2_with (first|((with_reducible refine Gb (f:=54) rfl ?_);refine Bd (some 29) rfl rfl Try.func54 (by kernel_rfl) rfl #[.int .i64 Zb,.int .i64 0,.int .i64 (wrap64 ((La.length:Int) - 1))] rfl (by (try simp only [List.map_toArray,List.map_cons,List.map_nil]);first|done|rfl|(simp only [List.length_drop,List.length_take];rfl)) ?_;(with_reducible refine (xb.calls Zb 0 (wrap64 ((La.length:Int) - 1)) t105 _ jU.out).mono ?_);rintro e w' ⟨rfl,⟨nd,rfl⟩⟩;refine ⟨_,rfl,?_⟩)|((with_reducible refine Gb (f:=54) rfl ?_);refine Bd (some 35) rfl rfl Try.func54 (by kernel_rfl) rfl #[.int .i64 Yb,.int .i64 0,.int .i64 (wrap64 (Pa - 1))] rfl (by (try simp only [List.map_toArray,List.map_cons,List.map_nil]);first|done|rfl|(simp only [List.length_drop,List.length_take];rfl)) ?_;(with_reducible refine (xb.calls Yb 0 (wrap64 (Pa - 1)) false _ tP.out).mono ?_);rintro e w' ⟨rfl,⟨nd,rfl⟩⟩;refine ⟨_,rfl,?_⟩));go_ret;exact ⟨by first|rfl|(simp [Ka,Ja] <;> rfl)|(simp [*,Ka,Ja] <;> rfl),by repeat (first|(with_reducible first|exact HB.out|apply qa|apply ja|apply ta|refine ua ?_ Wa.out|refine ua ?_ Xb.out)|exact HB.out)⟩
      ·rw [if_neg gC] at H;have wH:(jc == 2)=false:=beq_eq_false_iff_ne.mpr gC;have vH:(jc != 2)=true:=bne_iff_ne.mpr gC;obtain rfl:=Option.some.inj H;have Gas:=Eb.out;have aas:=Fb.out;have Lak:wr.cell? ⟨Ga,0,none⟩=some (.slice xg Ed.length ig):=(ga Ea.out 0).trans rfl;have Kak:wr.cell? ⟨Ga,1,none⟩=some (.int .i64 jc):=(ga Ea.out 1).trans rfl;have Jak:wr.cell? ⟨Ga,2,none⟩=some (.int .i64 Yb):=(ga Ea.out 2).trans rfl;have Iak:wr.cell? ⟨Ga,3,none⟩=some (.int .i64 Zb):=(ga Ea.out 3).trans rfl;have Hak:wr.cell? ⟨Ga,4,none⟩=some (.int .i64 Pc):=(ga Ea.out 4).trans rfl;have Cah:=aa Ea.out 0;have Bah:=aa Ea.out 1;have Aah:=aa Ea.out 2;have zah:=aa Ea.out 3;have yah:=aa Ea.out 4;have PW:wr.cell? ⟨Fa,0,none⟩=some (.slice Jb Ta.length Ib):=(ga ya.out 0).trans rfl;have OW:wr.cell? ⟨Fa,1,none⟩=some (.int .i64 Ra):=(ga ya.out 1).trans rfl;have NW:wr.cell? ⟨Fa,2,none⟩=some (.int .i64 Qa):=(ga ya.out 2).trans rfl;have MW:wr.cell? ⟨Fa,3,none⟩=some (.int .i64 Pa):=(ga ya.out 3).trans rfl;have LW:wr.cell? ⟨Fa,4,none⟩=some (.slice nc La.length dc):=(ga ya.out 4).trans rfl;have gV:=aa ya.out 0;have fV:=aa ya.out 1;have eV:=aa ya.out 2;have dV:=aa ya.out 3;have cV:=aa ya.out 4;go_wp2_with (first|((with_reducible refine Gb (f:=54) rfl ?_);refine Bd (some 29) rfl rfl Try.func54 (by kernel_rfl) rfl #[.int .i64 Zb,.int .i64 0,.int .i64 (wrap64 ((La.length:Int) - 1))] rfl (by (try simp only [List.map_toArray,List.map_cons,List.map_nil]);first|done|rfl|(simp only [List.length_drop,List.length_take];rfl)) ?_;(with_reducible refine (xb.calls Zb 0 (wrap64 ((La.length:Int) - 1)) t105 _ jU.out).mono ?_);rintro e w' ⟨rfl,⟨nd,rfl⟩⟩;refine ⟨_,rfl,?_⟩)|((with_reducible refine Gb (f:=54) rfl ?_);refine Bd (some 35) rfl rfl Try.func54 (by kernel_rfl) rfl #[.int .i64 Yb,.int .i64 0,.int .i64 (wrap64 (Pa - 1))] rfl (by (try simp only [List.map_toArray,List.map_cons,List.map_nil]);first|done|rfl|(simp only [List.length_drop,List.length_take];rfl)) ?_;(with_reducible refine (xb.calls Yb 0 (wrap64 (Pa - 1)) t106 _ tP.out).mono ?_);rintro e w' ⟨rfl,⟨nd,rfl⟩⟩;refine ⟨_,rfl,?_⟩));go_ret;exact ⟨by first|rfl|(simp [Ka,Ja] <;> rfl)|(simp [*,Ka,Ja] <;> rfl),by repeat (first|(with_reducible first|exact HB.out|apply qa|apply ja|apply ta|refine ua ?_ Wa.out|refine ua ?_ Xb.out)|exact HB.out)⟩
mutual
def Za.l0:Nat→Int→List Int→Int→Int→Int→List (Vf)→Option (Bool)
 | 0,_,_,_,_,_,_=>none
 | k + 1,x3,kf,yf,ef,bf,Ud=>if x3 < (kf.length:Int) then (if 0 ≤ x3 then ((xb.f (rd kf x3) 1 16).bind fun t103=>(if t103=true then (Za.l0 k (wrap64 (x3 + 1)) kf yf ef bf Ud) else (some false))) else (none)) else ((xb.f (kf.length:Int) 1 4).bind fun t104=>(if t104=true then ((xb.f ef 0 20).bind fun t105=>(if t105=true then ((xb.f yf 0 6).bind fun t106=>(if t106=true then (if yf > ef then (Za.j1 k true kf yf ef bf Ud) else ((xb.f bf ef 1000).bind fun t107=>(if t107=true then ((xb.f (Ud.length:Int) 1 300).bind fun t108=>(Za.j1 k (!t108) kf yf ef bf Ud)) else (Za.j1 k true kf yf ef bf Ud)))) else (Za.j1 k true kf yf ef bf Ud))) else (Za.j1 k true kf yf ef bf Ud))) else (Za.j1 k true kf yf ef bf Ud)))
def Za.j1:Nat→Bool→List Int→Int→Int→Int→List (Vf)→Option (Bool)
 | 0,_,_,_,_,_,_=>none
 | k + 1,x58,kf,yf,ef,bf,Ud=>if x58=true then (some false) else (Za.l1 k 0 0 kf yf ef bf Ud)
def Za.l1:Nat→Int→Int→List Int→Int→Int→Int→List (Vf)→Option (Bool)
 | 0,_,_,_,_,_,_,_=>none
 | k + 1,x4,x5,kf,yf,ef,bf,Ud=>if x5 < (Ud.length:Int) then (if 0 ≤ x5 then (if (wrap64 (x4 + (((Ia Ud x5).f0).length:Int))) > 1000 then (some false) else ((Qc.f k kf yf ef bf Ud ((Ia Ud x5).f0) ((Ia Ud x5).f1) ((Ia Ud x5).f2) ((Ia Ud x5).f3) ((Ia Ud x5).f4)).bind fun t111=>(if t111=true then (Za.l1 k (wrap64 (x4 + (((Ia Ud x5).f0).length:Int))) (wrap64 (x5 + 1)) kf yf ef bf Ud) else (some false)))) else (none)) else (some true)
end
def Za.f (k:Nat) (Ta:List Int) (Ra:Int) (Qa:Int) (Pa:Int) (La:List (Vf)):Option (Bool):=Za.l0 k 0 Ta Ra Qa Pa La
def Za.T13:Bool × List (List Nat × List Nat):=(true,[([],[]),([0],[0]),([1],[1]),([2],[2]),([2],[2]),([4,2],[2,4]),([2],[2]),([5,6,2],[2,5,6]),([7,2],[2,7]),([3,8,2,2],[2,3,8]),([9,2],[2,9]),([2,10],[2,10])])
def Za.B13:List Nat:=[0,1,3,7,7,23,7,119,247,511,1023,2047]
theorem Za.GP:qn .any (opsOf Try.f53 13)=Za.T13:=by kernel_rfl
theorem Za.xJ:Sl Za.T13.2 Za.B13=true:=by kernel_rfl
theorem Za.calls (k:Nat) (Jb:Option Addr) (Ib:Nat) (Ta:List Int) (Ra:Int) (Qa:Int) (Pa:Int) (nc:Option Addr) (dc:Nat) (La:List (Vf)) (r:Bool) (w:World) (pg:Kd.C (Kd.int .i64) w Jb Ta.length Ta) (kg:Ta.length ≤ Ib) (wh:Kd.C dm w nc La.length La) (qh:La.length ≤ dc) (h:Za.f k Ta Ra Qa Pa La=some r) :
  Calls Try.prog 53 #[.agg #[.slice Jb Ta.length Ib,.int .i64 Ra,.int .i64 Qa,.int .i64 Pa,.slice nc La.length dc]] w fun e w'=>e = .returned (.bool r)∧Below w.heap.size w w':=by
 have UD:=Try.underlying30;have RG:=Try.underlying68;have qg:=ia.mk pg;have Jg:=ia.mk kg;clear pg kg;have Qh:=ia.mk wh;have Bj:=ia.mk qh;clear wh qh;have HB:=ia.mk (Below.refl w.heap.size w);have H:(Za.l0 k 0 Ta Ra Qa Pa La)=some r:=h;clear h;have H':=ia.mk H;clear H;go_enter Try.func53,Try.ntmps53;go_wp2_with (first|((with_reducible refine Tb (N:=1) rfl ?_);(try (refine Zj (by rfl) ?_;dsimp only));refine Sb ?hg (N:=1) ?hd (cs:=#[.slice Jb Ta.length Ib,.int .i64 Ra,.int .i64 Qa,.int .i64 Pa,.slice nc La.length dc]) (t:=30) ?hr ?_;(case hd=>rfl);(case hg=>rfl);(case hr=>first|(go_simp;done)|(go_simp;rfl));intro Fa hg w2 ic hb;have Ub:=ia.mk (Oa (by repeat (first|(with_reducible first|exact HB.out|apply qa|apply ja|apply ta)|exact HB.out)) hb);have fc:=ia.mk (ic);have Fc:=ia.mk ((by rw [hg];exact (Ma (by repeat (first|(with_reducible first|exact HB.out|apply qa|apply ja|apply ta)|exact HB.out))):w.heap.size ≤ Fa));have Xc:=ia.mk ((by rw [hg];exact (Ma (by repeat (first|(with_reducible first|exact HB.out|apply qa|apply ja|apply ta)|exact HB.out))):w.heap.size ≤ Fa));clear HB;have HB:=Ub;have ya:=fc;have Kg:=Fc;have Wa:=Xc;clear Ub fc Fc Xc hb ic hg))
 go_loopg [3] k (fun kq v3 w'=>∃ (Ee:Int),v3 = .int .i64 Ee∧ia (Za.l0 kq Ee Ta Ra Qa Pa La=some r)∧ia (kq ≤ k)∧ia (w'.heap[Fa]? = some (.cells #[(.slice Jb Ta.length Ib),.int .i64 Ra,.int .i64 Qa,.int .i64 Pa,(.slice nc La.length dc)] 30 (0,0)))∧ia (Below w.heap.size w w'))
 case atStart=>exact ⟨(0),(by first|rfl|(simp;done)|(simp [*];done)),H',⟨Nat.le_refl _⟩,⟨by (with_reducible repeat (first|refine Ba ?_ _|refine Ca ?_|refine Aa ?_ _));exact ya.out⟩,⟨by repeat (first|(with_reducible first|exact HB.out|apply qa|apply ja|apply ta|refine ua ?_ Wa.out)|exact HB.out)⟩⟩
 case round =>
  clear H'
  try clear p2
  (try clear HA);(try clear jh);(try clear ya);(try clear HB);obtain ⟨Ee,rfl,HA,jh,ya,HB⟩:=hrel;cases gk with
  | zero=>exact absurd HA.out (by simp [Za.l0])
  | succ k1 =>
   have H:=HA.out;clear HA;simp only [Za.l0] at H
   by_cases c3:Ee < (Ta.length:Int)
   ·rw [if_pos c3] at H;have aj:decide (Ee < (Ta.length:Int))=true:=decide_eq_true c3;clear c3
    by_cases c4:0 ≤ Ee
    ·rw [if_pos c4] at H;have Fl:decide (0 ≤ Ee)=true:=decide_eq_true c4;clear c4;replace H:=Option.bind_eq_some_iff.mp H;obtain ⟨t103,X0,H⟩:=H;replace H:(if t103=true then (Za.l0 k1 (wrap64 (Ee + 1)) Ta Ra Qa Pa La) else (some false))=some r:=H;have A5:=ia.mk X0;clear X0
     by_cases c6:t103=true
     ·subst c6;have H1:(Za.l0 k1 (wrap64 (Ee + 1)) Ta Ra Qa Pa La)=some r:=by rw [if_pos rfl] at H;exact H
      clear H;have H:=H1;clear H1;have H':=ia.mk H;clear H;have XB:wr.cell? ⟨Fa,0,none⟩=some (.slice Jb Ta.length Ib):=(ga ya.out 0).trans rfl;have WB:wr.cell? ⟨Fa,1,none⟩=some (.int .i64 Ra):=(ga ya.out 1).trans rfl;have VB:wr.cell? ⟨Fa,2,none⟩=some (.int .i64 Qa):=(ga ya.out 2).trans rfl;have UB:wr.cell? ⟨Fa,3,none⟩=some (.int .i64 Pa):=(ga ya.out 3).trans rfl;have TB:wr.cell? ⟨Fa,4,none⟩=some (.slice nc La.length dc):=(ga ya.out 4).trans rfl;have SB:=aa ya.out 0;have RB:=aa ya.out 1;have QB:=aa ya.out 2;have PB:=aa ya.out 3;have OB:=aa ya.out 4;have mg:0 ≤ (Ee:Int):=of_decide_eq_true (by first|(with_reducible assumption)|assumption);have lg:Ee < (Ta.length:Int):=of_decide_eq_true (by first|(with_reducible assumption)|assumption);obtain ⟨Qe,sk,Pd⟩:=Kd.rq qg.out Ee mg lg;cases sk;replace Pd:=Da HB.out Pd;replace mg:=eq_true mg;replace lg:=eq_true lg;go_wp2_with (first|((with_reducible refine Gb (f:=54) rfl ?_);refine Bd (some 18) rfl rfl Try.func54 (by kernel_rfl) rfl #[.int .i64 (rd Ta Ee),.int .i64 1,.int .i64 16] rfl (by (try simp only [List.map_toArray,List.map_cons,List.map_nil]);first|done|rfl|(simp only [List.length_drop,List.length_take];rfl)) ?_;(with_reducible refine (xb.calls (rd Ta Ee) 1 16 true _ A5.out).mono ?_);rintro e w' ⟨rfl,⟨nd,rfl⟩⟩;refine ⟨_,rfl,?_⟩))
      go_roundg k1
      case measure=>have:=jh.out;omega
      case rel=>exact ⟨(wrap64 (Ee + 1)),(by first|rfl|(simp;done)|(simp [*];done)),H',⟨by have:=jh.out;omega⟩,⟨by (with_reducible repeat (first|refine Ba ?_ _|refine Ca ?_|refine Aa ?_ _));exact ya.out⟩,⟨by repeat (first|(with_reducible first|exact HB.out|apply qa|apply ja|apply ta|refine ua ?_ Wa.out)|exact HB.out)⟩⟩
     ·replace c6:=Bool.eq_false_iff.mpr c6;subst c6;have H1:(some false)=some r:=by rw [if_neg (show ¬ (false=true) by decide)] at H;exact H
      clear H;have H:=H1;clear H1;obtain rfl:=Option.some.inj H;have XI:wr.cell? ⟨Fa,0,none⟩=some (.slice Jb Ta.length Ib):=(ga ya.out 0).trans rfl;have WI:wr.cell? ⟨Fa,1,none⟩=some (.int .i64 Ra):=(ga ya.out 1).trans rfl;have VI:wr.cell? ⟨Fa,2,none⟩=some (.int .i64 Qa):=(ga ya.out 2).trans rfl;have UI:wr.cell? ⟨Fa,3,none⟩=some (.int .i64 Pa):=(ga ya.out 3).trans rfl;have TI:wr.cell? ⟨Fa,4,none⟩=some (.slice nc La.length dc):=(ga ya.out 4).trans rfl;have RI:=aa ya.out 0;have QI:=aa ya.out 1;have PI:=aa ya.out 2;have OI:=aa ya.out 3;have NI:=aa ya.out 4;have mg:0 ≤ (Ee:Int):=of_decide_eq_true (by first|(with_reducible assumption)|assumption);have lg:Ee < (Ta.length:Int):=of_decide_eq_true (by first|(with_reducible assumption)|assumption);obtain ⟨Qe,sk,Pd⟩:=Kd.rq qg.out Ee mg lg;cases sk;replace Pd:=Da HB.out Pd;replace mg:=eq_true mg;replace lg:=eq_true lg;go_wp2_with (first|((with_reducible refine Gb (f:=54) rfl ?_);refine Bd (some 18) rfl rfl Try.func54 (by kernel_rfl) rfl #[.int .i64 (rd Ta Ee),.int .i64 1,.int .i64 16] rfl (by (try simp only [List.map_toArray,List.map_cons,List.map_nil]);first|done|rfl|(simp only [List.length_drop,List.length_take];rfl)) ?_;(with_reducible refine (xb.calls (rd Ta Ee) 1 16 false _ A5.out).mono ?_);rintro e w' ⟨rfl,⟨nd,rfl⟩⟩;refine ⟨_,rfl,?_⟩));go_ret;exact ⟨by first|rfl|(simp [Ka,Ja] <;> rfl)|(simp [*,Ka,Ja] <;> rfl),by repeat (first|(with_reducible first|exact HB.out|apply qa|apply ja|apply ta|refine ua ?_ Wa.out)|exact HB.out)⟩
    ·rw [if_neg c4] at H;exact absurd H (by simp)
   ·rw [if_neg c3] at H;have aj:decide (Ee < (Ta.length:Int))=false:=decide_eq_false c3;clear c3;have HC9:=ia.mk H;clear H;have Vi:wr.cell? ⟨Fa,0,none⟩=some (.slice Jb Ta.length Ib):=(ga ya.out 0).trans rfl;have Ui:wr.cell? ⟨Fa,1,none⟩=some (.int .i64 Ra):=(ga ya.out 1).trans rfl;have Ti:wr.cell? ⟨Fa,2,none⟩=some (.int .i64 Qa):=(ga ya.out 2).trans rfl;have Si:wr.cell? ⟨Fa,3,none⟩=some (.int .i64 Pa):=(ga ya.out 3).trans rfl;have Ri:wr.cell? ⟨Fa,4,none⟩=some (.slice nc La.length dc):=(ga ya.out 4).trans rfl;have Qi:=aa ya.out 0;have Oi:=aa ya.out 1;have Ni:=aa ya.out 2;have Mi:=aa ya.out 3;have Li:=aa ya.out 4
    go_upto_region 6 with (fail)
    go_cut [58] (fun v58 wc=>∃ (kq:Nat) (gK:Bool),v58 = .bool gK∧ia (Za.j1 kq gK Ta Ra Qa Pa La=some r)∧ia (kq ≤ k1)∧ia (wc.heap[Fa]? = some (.cells #[(.slice Jb Ta.length Ib),.int .i64 Ra,.int .i64 Qa,.int .i64 Pa,(.slice nc La.length dc)] 30 (0,0)))∧ia (Below w.heap.size w wc))
    case first =>
     have H:=HC9.out;clear HC9;replace H:=Option.bind_eq_some_iff.mp H;obtain ⟨t104,ZH,H⟩:=H;replace H:(if t104=true then ((xb.f Qa 0 20).bind fun t105=>(if t105=true then ((xb.f Ra 0 6).bind fun t106=>(if t106=true then (if Ra > Qa then (Za.j1 k1 true Ta Ra Qa Pa La) else ((xb.f Pa Qa 1000).bind fun t107=>(if t107=true then ((xb.f (La.length:Int) 1 300).bind fun t108=>(Za.j1 k1 (!t108) Ta Ra Qa Pa La)) else (Za.j1 k1 true Ta Ra Qa Pa La)))) else (Za.j1 k1 true Ta Ra Qa Pa La))) else (Za.j1 k1 true Ta Ra Qa Pa La))) else (Za.j1 k1 true Ta Ra Qa Pa La))=some r:=H;have VT:=ia.mk ZH;clear ZH
     by_cases XC:t104=true
     ·subst XC;have H1:((xb.f Qa 0 20).bind fun t105=>(if t105=true then ((xb.f Ra 0 6).bind fun t106=>(if t106=true then (if Ra > Qa then (Za.j1 k1 true Ta Ra Qa Pa La) else ((xb.f Pa Qa 1000).bind fun t107=>(if t107=true then ((xb.f (La.length:Int) 1 300).bind fun t108=>(Za.j1 k1 (!t108) Ta Ra Qa Pa La)) else (Za.j1 k1 true Ta Ra Qa Pa La)))) else (Za.j1 k1 true Ta Ra Qa Pa La))) else (Za.j1 k1 true Ta Ra Qa Pa La)))=some r:=by rw [if_pos rfl] at H;exact H
      clear H;have H:=H1;clear H1;replace H:=Option.bind_eq_some_iff.mp H;obtain ⟨t105,Tae,H⟩:=H;replace H:(if t105=true then ((xb.f Ra 0 6).bind fun t106=>(if t106=true then (if Ra > Qa then (Za.j1 k1 true Ta Ra Qa Pa La) else ((xb.f Pa Qa 1000).bind fun t107=>(if t107=true then ((xb.f (La.length:Int) 1 300).bind fun t108=>(Za.j1 k1 (!t108) Ta Ra Qa Pa La)) else (Za.j1 k1 true Ta Ra Qa Pa La)))) else (Za.j1 k1 true Ta Ra Qa Pa La))) else (Za.j1 k1 true Ta Ra Qa Pa La))=some r:=H;have A13:=ia.mk Tae;clear Tae
      by_cases RO:t105=true
      ·subst RO;have H1:((xb.f Ra 0 6).bind fun t106=>(if t106=true then (if Ra > Qa then (Za.j1 k1 true Ta Ra Qa Pa La) else ((xb.f Pa Qa 1000).bind fun t107=>(if t107=true then ((xb.f (La.length:Int) 1 300).bind fun t108=>(Za.j1 k1 (!t108) Ta Ra Qa Pa La)) else (Za.j1 k1 true Ta Ra Qa Pa La)))) else (Za.j1 k1 true Ta Ra Qa Pa La)))=some r:=by rw [if_pos rfl] at H;exact H
       clear H;have H:=H1;clear H1;replace H:=Option.bind_eq_some_iff.mp H;obtain ⟨t106,TT,H⟩:=H;replace H:(if t106=true then (if Ra > Qa then (Za.j1 k1 true Ta Ra Qa Pa La) else ((xb.f Pa Qa 1000).bind fun t107=>(if t107=true then ((xb.f (La.length:Int) 1 300).bind fun t108=>(Za.j1 k1 (!t108) Ta Ra Qa Pa La)) else (Za.j1 k1 true Ta Ra Qa Pa La)))) else (Za.j1 k1 true Ta Ra Qa Pa La))=some r:=H;have m7:=ia.mk TT;clear TT
       by_cases BR:t106=true
       ·subst BR;have H1:(if Ra > Qa then (Za.j1 k1 true Ta Ra Qa Pa La) else ((xb.f Pa Qa 1000).bind fun t107=>(if t107=true then ((xb.f (La.length:Int) 1 300).bind fun t108=>(Za.j1 k1 (!t108) Ta Ra Qa Pa La)) else (Za.j1 k1 true Ta Ra Qa Pa La))))=some r:=by rw [if_pos rfl] at H;exact H
        clear H;have H:=H1;clear H1
        by_cases sF:Ra > Qa
        ·rw [if_pos sF] at H;have Rz:decide (Qa < Ra)=true:=decide_eq_true sF;clear sF;(first|rw [Rz]|(simp only [jb,mb];rw [Rz])|skip);have H':=ia.mk H;clear H;have Tu:wr.cell? ⟨Fa,0,none⟩=some (.slice Jb Ta.length Ib):=(ga ya.out 0).trans rfl;have Su:wr.cell? ⟨Fa,1,none⟩=some (.int .i64 Ra):=(ga ya.out 1).trans rfl;have Ru:wr.cell? ⟨Fa,2,none⟩=some (.int .i64 Qa):=(ga ya.out 2).trans rfl;have Qu:wr.cell? ⟨Fa,3,none⟩=some (.int .i64 Pa):=(ga ya.out 3).trans rfl;have Pu:wr.cell? ⟨Fa,4,none⟩=some (.slice nc La.length dc):=(ga ya.out 4).trans rfl;have ou:=aa ya.out 0;have nu:=aa ya.out 1;have lu:=aa ya.out 2;have ku:=aa ya.out 3;have ju:=aa ya.out 4;go_wp2_with (first|((with_reducible refine Gb (f:=54) rfl ?_);refine Bd (some 23) rfl rfl Try.func54 (by kernel_rfl) rfl #[.int .i64 (Ta.length:Int),.int .i64 1,.int .i64 4] rfl (by (try simp only [List.map_toArray,List.map_cons,List.map_nil]);first|done|rfl|(simp only [List.length_drop,List.length_take];rfl)) ?_;(with_reducible refine (xb.calls (Ta.length:Int) 1 4 true _ VT.out).mono ?_);rintro e w' ⟨rfl,⟨nd,rfl⟩⟩;refine ⟨_,rfl,?_⟩)|(go_at_call 54;(with_reducible refine (xb.calls Qa 0 20 true _ A13.out).mono ?_);rintro e w' ⟨rfl,⟨nd,rfl⟩⟩)|(go_at_call 54;(with_reducible refine (xb.calls Ra 0 6 true _ m7.out).mono ?_);rintro e w' ⟨rfl,⟨nd,rfl⟩⟩))
         go_meet
         case rel=>exact ⟨_,(true),(by first|rfl|(simp;done)|(simp [*];done)),H',⟨by have:=jh.out;first|omega|exact Nat.le_refl _⟩,⟨by (with_reducible repeat (first|refine Ba ?_ _|refine Ca ?_|refine Aa ?_ _));exact ya.out⟩,⟨by repeat (first|(with_reducible first|exact HB.out|apply qa|apply ja|apply ta|refine ua ?_ Wa.out)|exact HB.out)⟩⟩
        ·rw [if_neg sF] at H;have Rz:decide (Qa < Ra)=false:=decide_eq_false sF;clear sF;(first|rw [Rz]|(simp only [jb,mb];rw [Rz])|skip);replace H:=Option.bind_eq_some_iff.mp H;obtain ⟨t107,Qae,H⟩:=H;replace H:(if t107=true then ((xb.f (La.length:Int) 1 300).bind fun t108=>(Za.j1 k1 (!t108) Ta Ra Qa Pa La)) else (Za.j1 k1 true Ta Ra Qa Pa La))=some r:=H;have A19:=ia.mk Qae;clear Qae
         by_cases WC:t107=true
         ·subst WC;have H1:((xb.f (La.length:Int) 1 300).bind fun t108=>(Za.j1 k1 (!t108) Ta Ra Qa Pa La))=some r:=by rw [if_pos rfl] at H;exact H
          clear H;have H:=H1;clear H1;replace H:=Option.bind_eq_some_iff.mp H;obtain ⟨t108,Oae,H⟩:=H;replace H:(Za.j1 k1 (!t108) Ta Ra Qa Pa La)=some r:=H;have A21:=ia.mk Oae;clear Oae;have H':=ia.mk H;clear H;have Dy:wr.cell? ⟨Fa,0,none⟩=some (.slice Jb Ta.length Ib):=(ga ya.out 0).trans rfl;have Cy:wr.cell? ⟨Fa,1,none⟩=some (.int .i64 Ra):=(ga ya.out 1).trans rfl;have Ay:wr.cell? ⟨Fa,2,none⟩=some (.int .i64 Qa):=(ga ya.out 2).trans rfl;have zy:wr.cell? ⟨Fa,3,none⟩=some (.int .i64 Pa):=(ga ya.out 3).trans rfl;have yy:wr.cell? ⟨Fa,4,none⟩=some (.slice nc La.length dc):=(ga ya.out 4).trans rfl;have Wx:=aa ya.out 0;have Vx:=aa ya.out 1;have Ux:=aa ya.out 2;have Tx:=aa ya.out 3;have Sx:=aa ya.out 4;go_wp2_with (first|((with_reducible refine Gb (f:=54) rfl ?_);refine Bd (some 23) rfl rfl Try.func54 (by kernel_rfl) rfl #[.int .i64 (Ta.length:Int),.int .i64 1,.int .i64 4] rfl (by (try simp only [List.map_toArray,List.map_cons,List.map_nil]);first|done|rfl|(simp only [List.length_drop,List.length_take];rfl)) ?_;(with_reducible refine (xb.calls (Ta.length:Int) 1 4 true _ VT.out).mono ?_);rintro e w' ⟨rfl,⟨nd,rfl⟩⟩;refine ⟨_,rfl,?_⟩)|(go_at_call 54;(with_reducible refine (xb.calls Qa 0 20 true _ A13.out).mono ?_);rintro e w' ⟨rfl,⟨nd,rfl⟩⟩)|(go_at_call 54;(with_reducible refine (xb.calls Ra 0 6 true _ m7.out).mono ?_);rintro e w' ⟨rfl,⟨nd,rfl⟩⟩)|(go_at_call 54;(with_reducible refine (xb.calls Pa Qa 1000 true _ A19.out).mono ?_);rintro e w' ⟨rfl,⟨nd,rfl⟩⟩)|(go_at_call 54;(with_reducible refine (xb.calls (La.length:Int) 1 300 t108 _ A21.out).mono ?_);rintro e w' ⟨rfl,⟨nd,rfl⟩⟩))
          go_meet
          case rel=>exact ⟨_,(!t108),(by first|rfl|(simp;done)|(simp [*];done)),H',⟨by have:=jh.out;first|omega|exact Nat.le_refl _⟩,⟨by (with_reducible repeat (first|refine Ba ?_ _|refine Ca ?_|refine Aa ?_ _));exact ya.out⟩,⟨by repeat (first|(with_reducible first|exact HB.out|apply qa|apply ja|apply ta|refine ua ?_ Wa.out)|exact HB.out)⟩⟩
         ·replace WC:=Bool.eq_false_iff.mpr WC;subst WC;have H1:(Za.j1 k1 true Ta Ra Qa Pa La)=some r:=by rw [if_neg (show ¬ (false=true) by decide)] at H;exact H
          clear H;have H:=H1;clear H1;have H':=ia.mk H;clear H;have Co:wr.cell? ⟨Fa,0,none⟩=some (.slice Jb Ta.length Ib):=(ga ya.out 0).trans rfl;have Bo:wr.cell? ⟨Fa,1,none⟩=some (.int .i64 Ra):=(ga ya.out 1).trans rfl;have Ao:wr.cell? ⟨Fa,2,none⟩=some (.int .i64 Qa):=(ga ya.out 2).trans rfl;have zo:wr.cell? ⟨Fa,3,none⟩=some (.int .i64 Pa):=(ga ya.out 3).trans rfl;have yo:wr.cell? ⟨Fa,4,none⟩=some (.slice nc La.length dc):=(ga ya.out 4).trans rfl;have xo:=aa ya.out 0;have wo:=aa ya.out 1;have vo:=aa ya.out 2;have uo:=aa ya.out 3;have qo:=aa ya.out 4;go_wp2_with (first|((with_reducible refine Gb (f:=54) rfl ?_);refine Bd (some 23) rfl rfl Try.func54 (by kernel_rfl) rfl #[.int .i64 (Ta.length:Int),.int .i64 1,.int .i64 4] rfl (by (try simp only [List.map_toArray,List.map_cons,List.map_nil]);first|done|rfl|(simp only [List.length_drop,List.length_take];rfl)) ?_;(with_reducible refine (xb.calls (Ta.length:Int) 1 4 true _ VT.out).mono ?_);rintro e w' ⟨rfl,⟨nd,rfl⟩⟩;refine ⟨_,rfl,?_⟩)|(go_at_call 54;(with_reducible refine (xb.calls Qa 0 20 true _ A13.out).mono ?_);rintro e w' ⟨rfl,⟨nd,rfl⟩⟩)|(go_at_call 54;(with_reducible refine (xb.calls Ra 0 6 true _ m7.out).mono ?_);rintro e w' ⟨rfl,⟨nd,rfl⟩⟩)|(go_at_call 54;(with_reducible refine (xb.calls Pa Qa 1000 false _ A19.out).mono ?_);rintro e w' ⟨rfl,⟨nd,rfl⟩⟩))
          go_meet
          case rel=>exact ⟨_,(true),(by first|rfl|(simp;done)|(simp [*];done)),H',⟨by have:=jh.out;first|omega|exact Nat.le_refl _⟩,⟨by (with_reducible repeat (first|refine Ba ?_ _|refine Ca ?_|refine Aa ?_ _));exact ya.out⟩,⟨by repeat (first|(with_reducible first|exact HB.out|apply qa|apply ja|apply ta|refine ua ?_ Wa.out)|exact HB.out)⟩⟩
       ·replace BR:=Bool.eq_false_iff.mpr BR;subst BR;have H1:(Za.j1 k1 true Ta Ra Qa Pa La)=some r:=by rw [if_neg (show ¬ (false=true) by decide)] at H;exact H
        clear H;have H:=H1;clear H1;have H':=ia.mk H;clear H;have xy:wr.cell? ⟨Fa,0,none⟩=some (.slice Jb Ta.length Ib):=(ga ya.out 0).trans rfl;have uy:wr.cell? ⟨Fa,1,none⟩=some (.int .i64 Ra):=(ga ya.out 1).trans rfl;have sy:wr.cell? ⟨Fa,2,none⟩=some (.int .i64 Qa):=(ga ya.out 2).trans rfl;have ry:wr.cell? ⟨Fa,3,none⟩=some (.int .i64 Pa):=(ga ya.out 3).trans rfl;have qy:wr.cell? ⟨Fa,4,none⟩=some (.slice nc La.length dc):=(ga ya.out 4).trans rfl;have Rx:=aa ya.out 0;have Qx:=aa ya.out 1;have Px:=aa ya.out 2;have Ox:=aa ya.out 3;have Nx:=aa ya.out 4;go_wp2_with (first|((with_reducible refine Gb (f:=54) rfl ?_);refine Bd (some 23) rfl rfl Try.func54 (by kernel_rfl) rfl #[.int .i64 (Ta.length:Int),.int .i64 1,.int .i64 4] rfl (by (try simp only [List.map_toArray,List.map_cons,List.map_nil]);first|done|rfl|(simp only [List.length_drop,List.length_take];rfl)) ?_;(with_reducible refine (xb.calls (Ta.length:Int) 1 4 true _ VT.out).mono ?_);rintro e w' ⟨rfl,⟨nd,rfl⟩⟩;refine ⟨_,rfl,?_⟩)|(go_at_call 54;(with_reducible refine (xb.calls Qa 0 20 true _ A13.out).mono ?_);rintro e w' ⟨rfl,⟨nd,rfl⟩⟩)|(go_at_call 54;(with_reducible refine (xb.calls Ra 0 6 false _ m7.out).mono ?_);rintro e w' ⟨rfl,⟨nd,rfl⟩⟩))
        go_meet
        case rel=>exact ⟨_,(true),(by first|rfl|(simp;done)|(simp [*];done)),H',⟨by have:=jh.out;first|omega|exact Nat.le_refl _⟩,⟨by (with_reducible repeat (first|refine Ba ?_ _|refine Ca ?_|refine Aa ?_ _));exact ya.out⟩,⟨by repeat (first|(with_reducible first|exact HB.out|apply qa|apply ja|apply ta|refine ua ?_ Wa.out)|exact HB.out)⟩⟩
      ·replace RO:=Bool.eq_false_iff.mpr RO;subst RO;have H1:(Za.j1 k1 true Ta Ra Qa Pa La)=some r:=by rw [if_neg (show ¬ (false=true) by decide)] at H;exact H
       clear H;have H:=H1;clear H1;have H':=ia.mk H;clear H;have Ju:wr.cell? ⟨Fa,0,none⟩=some (.slice Jb Ta.length Ib):=(ga ya.out 0).trans rfl;have Iu:wr.cell? ⟨Fa,1,none⟩=some (.int .i64 Ra):=(ga ya.out 1).trans rfl;have Hu:wr.cell? ⟨Fa,2,none⟩=some (.int .i64 Qa):=(ga ya.out 2).trans rfl;have Gu:wr.cell? ⟨Fa,3,none⟩=some (.int .i64 Pa):=(ga ya.out 3).trans rfl;have Fu:wr.cell? ⟨Fa,4,none⟩=some (.slice nc La.length dc):=(ga ya.out 4).trans rfl;have bu:=aa ya.out 0;have au:=aa ya.out 1;have Zt:=aa ya.out 2;have Yt:=aa ya.out 3;have Xt:=aa ya.out 4;go_wp2_with (first|((with_reducible refine Gb (f:=54) rfl ?_);refine Bd (some 23) rfl rfl Try.func54 (by kernel_rfl) rfl #[.int .i64 (Ta.length:Int),.int .i64 1,.int .i64 4] rfl (by (try simp only [List.map_toArray,List.map_cons,List.map_nil]);first|done|rfl|(simp only [List.length_drop,List.length_take];rfl)) ?_;(with_reducible refine (xb.calls (Ta.length:Int) 1 4 true _ VT.out).mono ?_);rintro e w' ⟨rfl,⟨nd,rfl⟩⟩;refine ⟨_,rfl,?_⟩)|(go_at_call 54;(with_reducible refine (xb.calls Qa 0 20 false _ A13.out).mono ?_);rintro e w' ⟨rfl,⟨nd,rfl⟩⟩))
       go_meet
       case rel=>exact ⟨_,(true),(by first|rfl|(simp;done)|(simp [*];done)),H',⟨by have:=jh.out;first|omega|exact Nat.le_refl _⟩,⟨by (with_reducible repeat (first|refine Ba ?_ _|refine Ca ?_|refine Aa ?_ _));exact ya.out⟩,⟨by repeat (first|(with_reducible first|exact HB.out|apply qa|apply ja|apply ta|refine ua ?_ Wa.out)|exact HB.out)⟩⟩
     ·replace XC:=Bool.eq_false_iff.mpr XC;subst XC;have H1:(Za.j1 k1 true Ta Ra Qa Pa La)=some r:=by rw [if_neg (show ¬ (false=true) by decide)] at H;exact H
      clear H;have H:=H1;clear H1;have H':=ia.mk H;clear H;have oy:wr.cell? ⟨Fa,0,none⟩=some (.slice Jb Ta.length Ib):=(ga ya.out 0).trans rfl;have ny:wr.cell? ⟨Fa,1,none⟩=some (.int .i64 Ra):=(ga ya.out 1).trans rfl;have jy:wr.cell? ⟨Fa,2,none⟩=some (.int .i64 Qa):=(ga ya.out 2).trans rfl;have iy:wr.cell? ⟨Fa,3,none⟩=some (.int .i64 Pa):=(ga ya.out 3).trans rfl;have gy:wr.cell? ⟨Fa,4,none⟩=some (.slice nc La.length dc):=(ga ya.out 4).trans rfl;have Mx:=aa ya.out 0;have Lx:=aa ya.out 1;have Kx:=aa ya.out 2;have Jx:=aa ya.out 3;have Ix:=aa ya.out 4;go_wp2_with (first|((with_reducible refine Gb (f:=54) rfl ?_);refine Bd (some 23) rfl rfl Try.func54 (by kernel_rfl) rfl #[.int .i64 (Ta.length:Int),.int .i64 1,.int .i64 4] rfl (by (try simp only [List.map_toArray,List.map_cons,List.map_nil]);first|done|rfl|(simp only [List.length_drop,List.length_take];rfl)) ?_;(with_reducible refine (xb.calls (Ta.length:Int) 1 4 false _ VT.out).mono ?_);rintro e w' ⟨rfl,⟨nd,rfl⟩⟩;refine ⟨_,rfl,?_⟩))
      go_meet
      case rel=>exact ⟨_,(true),(by first|rfl|(simp;done)|(simp [*];done)),H',⟨by have:=jh.out;first|omega|exact Nat.le_refl _⟩,⟨by (with_reducible repeat (first|refine Ba ?_ _|refine Ca ?_|refine Aa ?_ _));exact ya.out⟩,⟨by repeat (first|(with_reducible first|exact HB.out|apply qa|apply ja|apply ta|refine ua ?_ Wa.out)|exact HB.out)⟩⟩
    case rest =>
     clear HC9
     try clear c1
     try clear p1
     try clear q1
     try clear hx1
     try clear c2
     try clear p2
     try clear c3
     try clear aj
     try clear c4
     try clear Fl
     try clear c5
     try clear c6
     try clear p6
     try clear JD
     try clear GD
     try clear uU
     try clear XC
     try clear RO
     try clear BR
     try clear sF
     try clear Rz
     try clear WC
     try clear Vi
     try clear Ui
     try clear Ti
     try clear Si
     try clear Ri
     try clear Tu
     try clear Su
     try clear Ru
     try clear Qu
     try clear Pu
     try clear Dy
     try clear Cy
     try clear Ay
     try clear zy
     try clear yy
     try clear Co
     try clear Bo
     try clear Ao
     try clear zo
     try clear yo
     try clear xy
     try clear uy
     try clear sy
     try clear ry
     try clear qy
     try clear Ju
     try clear Iu
     try clear Hu
     try clear Gu
     try clear Fu
     try clear oy
     try clear ny
     try clear jy
     try clear iy
     try clear gy
     try clear XB
     try clear WB
     try clear VB
     try clear UB
     try clear TB
     try clear XI
     try clear WI
     try clear VI
     try clear UI
     try clear TI
     try clear Qi
     try clear Oi
     try clear Ni
     try clear Mi
     try clear Li
     try clear ou
     try clear nu
     try clear lu
     try clear ku
     try clear ju
     try clear Wx
     try clear Vx
     try clear Ux
     try clear Tx
     try clear Sx
     try clear xo
     try clear wo
     try clear vo
     try clear uo
     try clear qo
     try clear Rx
     try clear Qx
     try clear Px
     try clear Ox
     try clear Nx
     try clear bu
     try clear au
     try clear Zt
     try clear Yt
     try clear Xt
     try clear Mx
     try clear Lx
     try clear Kx
     try clear Jx
     try clear Ix
     try clear SB
     try clear RB
     try clear QB
     try clear PB
     try clear OB
     try clear RI
     try clear QI
     try clear PI
     try clear OI
     try clear NI
     try clear Pd
     try clear mg
     try clear p2
     try clear lg
     obtain ⟨kq,gK,rfl,HA,HJ8,ya,HB⟩:=hcut;cases kq with
     | zero=>exact absurd HA.out (by simp [Za.j1])
     | succ kj8 =>
      have H:=HA.out;clear HA;simp only [Za.j1] at H
      by_cases c27:gK=true
      ·subst c27;have H1:(some false)=some r:=by rw [if_pos rfl] at H;exact H
       clear H;have H:=H1;clear H1;obtain rfl:=Option.some.inj H;go_wp2;go_ret;exact ⟨by first|rfl|(simp [Ka,Ja] <;> rfl)|(simp [*,Ka,Ja] <;> rfl),by repeat (first|(with_reducible first|exact HB.out|apply qa|apply ja|apply ta|refine ua ?_ Wa.out)|exact HB.out)⟩
      ·replace c27:=Bool.eq_false_iff.mpr c27;subst c27;have H1:(Za.l1 kj8 0 0 Ta Ra Qa Pa La)=some r:=by rw [if_neg (show ¬ (false=true) by decide)] at H;exact H
       clear H;have H:=H1;clear H1;have H':=ia.mk H;clear H;go_wp2
       go_loopg [4,5] kj8 (fun kq v4 v5 w'=>∃ (wD:Int) (cg:Int),v4 = .int .i64 wD∧v5 = .int .i64 cg∧ia (Za.l1 kq wD cg Ta Ra Qa Pa La=some r)∧ia (kq ≤ kj8)∧ia (w'.heap[Fa]? = some (.cells #[(.slice Jb Ta.length Ib),.int .i64 Ra,.int .i64 Qa,.int .i64 Pa,(.slice nc La.length dc)] 30 (0,0)))∧ia (Below w.heap.size w w'))
       case atStart=>exact ⟨(0),(0),(by first|rfl|(simp;done)|(simp [*];done)),(by first|rfl|(simp;done)|(simp [*];done)),H',⟨Nat.le_refl _⟩,⟨by (with_reducible repeat (first|refine Ba ?_ _|refine Ca ?_|refine Aa ?_ _));exact ya.out⟩,⟨by repeat (first|(with_reducible first|exact HB.out|apply qa|apply ja|apply ta|refine ua ?_ Wa.out)|exact HB.out)⟩⟩
       case round =>
        clear H'
        try clear c1
        try clear p1
        try clear q1
        try clear hx1
        try clear c2
        try clear p2
        try clear c3
        try clear aj
        try clear c4
        try clear Fl
        try clear c5
        try clear c6
        try clear p6
        try clear JD
        try clear GD
        try clear uU
        try clear XC
        try clear RO
        try clear BR
        try clear sF
        try clear Rz
        try clear WC
        try clear c27
        try clear Vi
        try clear Ui
        try clear Ti
        try clear Si
        try clear Ri
        try clear Tu
        try clear Su
        try clear Ru
        try clear Qu
        try clear Pu
        try clear Dy
        try clear Cy
        try clear Ay
        try clear zy
        try clear yy
        try clear Co
        try clear Bo
        try clear Ao
        try clear zo
        try clear yo
        try clear xy
        try clear uy
        try clear sy
        try clear ry
        try clear qy
        try clear Ju
        try clear Iu
        try clear Hu
        try clear Gu
        try clear Fu
        try clear oy
        try clear ny
        try clear jy
        try clear iy
        try clear gy
        try clear XB
        try clear WB
        try clear VB
        try clear UB
        try clear TB
        try clear XI
        try clear WI
        try clear VI
        try clear UI
        try clear TI
        try clear Qi
        try clear Oi
        try clear Ni
        try clear Mi
        try clear Li
        try clear ou
        try clear nu
        try clear lu
        try clear ku
        try clear ju
        try clear Wx
        try clear Vx
        try clear Ux
        try clear Tx
        try clear Sx
        try clear xo
        try clear wo
        try clear vo
        try clear uo
        try clear qo
        try clear Rx
        try clear Qx
        try clear Px
        try clear Ox
        try clear Nx
        try clear bu
        try clear au
        try clear Zt
        try clear Yt
        try clear Xt
        try clear Mx
        try clear Lx
        try clear Kx
        try clear Jx
        try clear Ix
        try clear SB
        try clear RB
        try clear QB
        try clear PB
        try clear OB
        try clear RI
        try clear QI
        try clear PI
        try clear OI
        try clear NI
        try clear Pd
        try clear p1
        try clear JD
        try clear mg
        try clear p2
        try clear p6
        try clear q1
        try clear GD
        try clear lg
        (try clear HA);(try clear M7);(try clear ya);(try clear HB);obtain ⟨wD,cg,rfl,rfl,HA,M7,ya,HB⟩:=hrel;cases gk with
        | zero=>exact absurd HA.out (by simp [Za.l1])
        | succ k3 =>
         have H:=HA.out;clear HA;simp only [Za.l1] at H
         by_cases F7:cg < (La.length:Int)
         ·rw [if_pos F7] at H;have Rac:decide (cg < (La.length:Int))=true:=decide_eq_true F7;clear F7
          by_cases QO:0 ≤ cg
          ·rw [if_pos QO] at H;have iC:decide (0 ≤ cg)=true:=decide_eq_true QO;clear QO
           by_cases pJ:(wrap64 (wD + (((Ia La cg).f0).length:Int))) > 1000
           ·rw [if_pos pJ] at H;have jN:decide (1000 < (wrap64 (wD + (((Ia La cg).f0).length:Int))))=true:=decide_eq_true pJ;clear pJ;obtain rfl:=Option.some.inj H;have XE:wr.cell? ⟨Fa,0,none⟩=some (.slice Jb Ta.length Ib):=(ga ya.out 0).trans rfl;have WE:wr.cell? ⟨Fa,1,none⟩=some (.int .i64 Ra):=(ga ya.out 1).trans rfl;have VE:wr.cell? ⟨Fa,2,none⟩=some (.int .i64 Qa):=(ga ya.out 2).trans rfl;have UE:wr.cell? ⟨Fa,3,none⟩=some (.int .i64 Pa):=(ga ya.out 3).trans rfl;have SE:wr.cell? ⟨Fa,4,none⟩=some (.slice nc La.length dc):=(ga ya.out 4).trans rfl;have lE:=aa ya.out 0;have kE:=aa ya.out 1;have jE:=aa ya.out 2;have iE:=aa ya.out 3;have gE:=aa ya.out 4;have CB:0 ≤ (cg:Int):=of_decide_eq_true (by first|(with_reducible assumption)|assumption);have zB:cg < (La.length:Int):=of_decide_eq_true (by first|(with_reducible assumption)|assumption);obtain ⟨qj,WT,FR,uR,Hp,Gp,Fp,Ep,Dp,Lp,Np⟩:=Mg Qh.out cg CB zB;cases uR;replace Hp:=Da HB.out Hp;replace Gp:=Da HB.out Gp;replace Fp:=Da HB.out Fp;replace Ep:=Da HB.out Ep;replace Dp:=Da HB.out Dp;have DN:=ia.mk Np;have FN:=ia.mk Lp;clear Np Lp;replace CB:=eq_true CB;replace zB:=eq_true zB
            try go_wp2
            have Ub:=ia.mk (Ca ya.out);have fc:=ia.mk (ta HB.out);clear ya HB;have ya:=Ub;have HB:=fc;clear Ub fc;refine Dj (n:=12) (S:=fun w'=>True) (ds:=[]) #[false,false,false,false,false,false,false,false,false,false,false,false] (by kernel_rfl) rfl rfl trivial (fun hHeld=>?_);refine ah Za.GP Za.xJ (fun Dd Kl=>?_);generalize wr.drew=w32 at ya HB hHeld ⊢;refine Nb (i:=0) (N:=some 75) (v:=?_) (a':=?_) #[true,false,false,false,false,false,false,false,false,false,false,false] rfl rfl (qb Dd.out (by kernel_rfl)) (fun _ _ _ h=>h) (Or.inl ⟨by rfl,?_⟩) ?_ ?_;rotate_left
            ·intro w';go_simp;with_reducible rfl
            rotate_left
            ·simp only [Act.put,List.setIfInBounds_toArray,List.set_cons_zero,List.set_cons_succ,jb,mb]
             rfl
            refine Nb (i:=1) (N:=some 76) (v:=?_) (a':=?_) #[true,true,false,false,false,false,false,false,false,false,false,false] rfl rfl (qb Dd.out (by kernel_rfl)) (fun _ _ _ h=>h) (Or.inl ⟨by rfl,?_⟩) ?_ ?_;rotate_left
            ·intro w';go_simp;with_reducible rfl
            rotate_left
            ·simp only [Act.put,List.setIfInBounds_toArray,List.set_cons_zero,List.set_cons_succ,jb,mb]
             rfl
            refine Nb (i:=2) (N:=some 77) (v:=?_) (a':=?_) #[true,true,true,false,false,false,false,false,false,false,false,false] rfl rfl (qb Dd.out (by kernel_rfl)) (fun _ _ _ h=>h) (Or.inl ⟨by rfl,?_⟩) ?_ ?_;rotate_left
            ·intro w';go_simp;with_reducible rfl
            rotate_left
            ·simp only [Act.put,List.setIfInBounds_toArray,List.set_cons_zero,List.set_cons_succ,jb,mb]
             rfl
            refine Nb (i:=3) (N:=some 78) (v:=undef) (a':=?_) #[true,true,true,true,false,false,false,false,false,false,false,false] rfl rfl (qb Dd.out (by kernel_rfl)) (fun _ _ _ h=>h) (Or.inr ⟨by rfl,rfl⟩) ?_ ?_;rotate_left
            ·simp only [Act.put,List.setIfInBounds_toArray,List.set_cons_zero,List.set_cons_succ,jb,mb]
             rfl
            refine Nb (i:=4) (N:=some 79) (v:=undef) (a':=?_) #[true,true,true,true,true,false,false,false,false,false,false,false] rfl rfl (qb Dd.out (by kernel_rfl)) (fun _ _ _ h=>h) (Or.inr ⟨by rfl,rfl⟩) ?_ ?_;rotate_left
            ·simp only [Act.put,List.setIfInBounds_toArray,List.set_cons_zero,List.set_cons_succ,jb,mb]
             rfl
            refine Nb (i:=5) (N:=some 80) (v:=undef) (a':=?_) #[true,true,true,true,true,true,false,false,false,false,false,false] rfl rfl (qb Dd.out (by kernel_rfl)) (fun _ _ _ h=>h) (Or.inr ⟨by rfl,rfl⟩) ?_ ?_;rotate_left
            ·simp only [Act.put,List.setIfInBounds_toArray,List.set_cons_zero,List.set_cons_succ,jb,mb]
             rfl
            refine Nb (i:=6) (N:=some 81) (v:=undef) (a':=?_) #[true,true,true,true,true,true,true,false,false,false,false,false] rfl rfl (qb Dd.out (by kernel_rfl)) (fun _ _ _ h=>h) (Or.inr ⟨by rfl,rfl⟩) ?_ ?_;rotate_left
            ·simp only [Act.put,List.setIfInBounds_toArray,List.set_cons_zero,List.set_cons_succ,jb,mb]
             rfl
            refine Nb (i:=7) (N:=some 82) (v:=undef) (a':=?_) #[true,true,true,true,true,true,true,true,false,false,false,false] rfl rfl (qb Dd.out (by kernel_rfl)) (fun _ _ _ h=>h) (Or.inr ⟨by rfl,rfl⟩) ?_ ?_;rotate_left
            ·simp only [Act.put,List.setIfInBounds_toArray,List.set_cons_zero,List.set_cons_succ,jb,mb]
             rfl
            refine Nb (i:=8) (N:=some 83) (v:=undef) (a':=?_) #[true,true,true,true,true,true,true,true,true,false,false,false] rfl rfl (qb Dd.out (by kernel_rfl)) (fun _ _ _ h=>h) (Or.inr ⟨by rfl,rfl⟩) ?_ ?_;rotate_left
            ·simp only [Act.put,List.setIfInBounds_toArray,List.set_cons_zero,List.set_cons_succ,jb,mb]
             rfl
            refine Nb (i:=9) (N:=some 84) (v:=undef) (a':=?_) #[true,true,true,true,true,true,true,true,true,true,false,false] rfl rfl (qb Dd.out (by kernel_rfl)) (fun _ _ _ h=>h) (Or.inr ⟨by rfl,rfl⟩) ?_ ?_;rotate_left
            ·simp only [Act.put,List.setIfInBounds_toArray,List.set_cons_zero,List.set_cons_succ,jb,mb]
             rfl
            refine Nb (i:=10) (N:=some 85) (v:=undef) (a':=?_) #[true,true,true,true,true,true,true,true,true,true,true,false] rfl rfl (qb Dd.out (by kernel_rfl)) (fun _ _ _ h=>h) (Or.inr ⟨by rfl,rfl⟩) ?_ ?_;rotate_left
            ·simp only [Act.put,List.setIfInBounds_toArray,List.set_cons_zero,List.set_cons_succ,jb,mb]
             rfl
            refine Nb (i:=11) (N:=some 86) (v:=?_) (a':=?_) #[true,true,true,true,true,true,true,true,true,true,true,true] rfl rfl (qb Dd.out (by kernel_rfl)) (fun _ _ _ h=>h) (Or.inl ⟨by rfl,?_⟩) ?_ ?_;rotate_left
            ·intro w';go_simp;with_reducible rfl
            rotate_left
            ·simp only [Act.put,List.setIfInBounds_toArray,List.set_cons_zero,List.set_cons_succ,jb,mb]
             rfl
            refine kn (Xi Dd.out (by kernel_rfl)) ?_
            try go_wp2
            go_ret;exact ⟨by first|rfl|(simp [Ka,Ja] <;> rfl)|(simp [*,Ka,Ja] <;> rfl),by repeat (first|(with_reducible first|exact HB.out|apply qa|apply ja|apply ta|refine ua ?_ Wa.out)|exact HB.out)⟩
           ·rw [if_neg pJ] at H;have jN:decide (1000 < (wrap64 (wD + (((Ia La cg).f0).length:Int))))=false:=decide_eq_false pJ;clear pJ;replace H:=Option.bind_eq_some_iff.mp H;obtain ⟨t111,Mae,H⟩:=H;replace H:(if t111=true then (Za.l1 k3 (wrap64 (wD + (((Ia La cg).f0).length:Int))) (wrap64 (cg + 1)) Ta Ra Qa Pa La) else (some false))=some r:=H;have A33:=ia.mk Mae;clear Mae
            by_cases c34:t111=true
            ·subst c34;have H1:(Za.l1 k3 (wrap64 (wD + (((Ia La cg).f0).length:Int))) (wrap64 (cg + 1)) Ta Ra Qa Pa La)=some r:=by rw [if_pos rfl] at H;exact H
             clear H;have H:=H1;clear H1;have H':=ia.mk H;clear H;have CM:wr.cell? ⟨Fa,0,none⟩=some (.slice Jb Ta.length Ib):=(ga ya.out 0).trans rfl;have BM:wr.cell? ⟨Fa,1,none⟩=some (.int .i64 Ra):=(ga ya.out 1).trans rfl;have zM:wr.cell? ⟨Fa,2,none⟩=some (.int .i64 Qa):=(ga ya.out 2).trans rfl;have yM:wr.cell? ⟨Fa,3,none⟩=some (.int .i64 Pa):=(ga ya.out 3).trans rfl;have xM:wr.cell? ⟨Fa,4,none⟩=some (.slice nc La.length dc):=(ga ya.out 4).trans rfl;have tL:=aa ya.out 0;have sL:=aa ya.out 1;have rL:=aa ya.out 2;have qL:=aa ya.out 3;have pL:=aa ya.out 4;have CB:0 ≤ (cg:Int):=of_decide_eq_true (by first|(with_reducible assumption)|assumption);have zB:cg < (La.length:Int):=of_decide_eq_true (by first|(with_reducible assumption)|assumption);obtain ⟨qj,WT,FR,uR,Hp,Gp,Fp,Ep,Dp,Lp,Np⟩:=Mg Qh.out cg CB zB;cases uR;replace Hp:=Da HB.out Hp;replace Gp:=Da HB.out Gp;replace Fp:=Da HB.out Fp;replace Ep:=Da HB.out Ep;replace Dp:=Da HB.out Dp;have DN:=ia.mk Np;have FN:=ia.mk Lp;clear Np Lp;replace CB:=eq_true CB;replace zB:=eq_true zB
             try go_wp2
             have Ub:=ia.mk (Ca ya.out);have fc:=ia.mk (ta HB.out);clear ya HB;have ya:=Ub;have HB:=fc;clear Ub fc;have BB:0 ≤ (cg:Int):=of_decide_eq_true (by first|(with_reducible assumption)|assumption);have yB:cg < (La.length:Int):=of_decide_eq_true (by first|(with_reducible assumption)|assumption);obtain ⟨Dt,vl,gl,tR,Xl,Wl,Vl,Ul,Tl,Kp,Mp⟩:=Mg Qh.out cg BB yB;have Ow:=Tl;have Pw:=Ul;have Qw:=Vl;have Rw:=Wl;have Sw:=Xl;obtain rfl:qj=Dt:=(by injection tR);replace Xl:=Da HB.out Xl;replace Wl:=Da HB.out Wl;replace Vl:=Da HB.out Vl;replace Ul:=Da HB.out Ul;replace Tl:=Da HB.out Tl;have js:=ia.mk Mp;have jB:=ia.mk Kp;clear Mp Kp;replace BB:=eq_true BB;replace yB:=eq_true yB;refine Dj (n:=12) (S:=fun w'=>w'.cell? ⟨Fa,0,none⟩=some (.slice Jb Ta.length Ib)∧w'.cell? ⟨Fa,1,none⟩=some (.int .i64 Ra)∧w'.cell? ⟨Fa,2,none⟩=some (.int .i64 Qa)∧w'.cell? ⟨Fa,3,none⟩=some (.int .i64 Pa)∧w'.cell? ⟨Fa,4,none⟩=some (.slice (some qj) La.length dc)∧w'.cell? (qj.add ((cg).toNat * 5))=some (.slice vl ((Ia La cg).f0).length gl)∧w'.cell? ⟨(qj.add ((cg).toNat * 5)).block,(qj.add ((cg).toNat * 5)).off + 1,none⟩=some (.int .i64 ((Ia La cg).f1))∧w'.cell? ⟨(qj.add ((cg).toNat * 5)).block,(qj.add ((cg).toNat * 5)).off + 2,none⟩=some (.int .i64 ((Ia La cg).f2))∧w'.cell? ⟨(qj.add ((cg).toNat * 5)).block,(qj.add ((cg).toNat * 5)).off + 3,none⟩=some (.int .i64 ((Ia La cg).f3))∧w'.cell? ⟨(qj.add ((cg).toNat * 5)).block,(qj.add ((cg).toNat * 5)).off + 4,none⟩=some (.int .i64 ((Ia La cg).f4))) (ds:=[]) #[false,false,false,false,false,false,false,false,false,false,false,false] (by kernel_rfl) rfl rfl ⟨(ga ya.out 0).trans rfl,(ga ya.out 1).trans rfl,(ga ya.out 2).trans rfl,(ga ya.out 3).trans rfl,(ga ya.out 4).trans rfl,(Da HB.out Sw),(Da HB.out Rw),(Da HB.out Qw),(Da HB.out Pw),(Da HB.out Ow)⟩ (fun hHeld=>?_);refine ah Za.GP Za.xJ (fun Dd Kl=>?_);generalize wr.drew=JC at ya HB js Xl Wl Vl Ul Tl hHeld ⊢;refine Nb (i:=0) (N:=some 75) (v:=?_) (a':=?_) #[true,false,false,false,false,false,false,false,false,false,false,false] rfl rfl (qb Dd.out (by kernel_rfl)) (fun _ _ _ h=>h) (Or.inl ⟨by rfl,?_⟩) ?_ ?_;rotate_left
             ·intro w';go_simp;with_reducible rfl
             rotate_left
             ·simp only [Act.put,List.setIfInBounds_toArray,List.set_cons_zero,List.set_cons_succ,jb,mb]
              rfl
             refine Nb (i:=1) (N:=some 76) (v:=?_) (a':=?_) #[true,true,false,false,false,false,false,false,false,false,false,false] rfl rfl (qb Dd.out (by kernel_rfl)) (fun _ _ _ h=>h) (Or.inl ⟨by rfl,?_⟩) ?_ ?_;rotate_left
             ·intro w';go_simp;with_reducible rfl
             rotate_left
             ·simp only [Act.put,List.setIfInBounds_toArray,List.set_cons_zero,List.set_cons_succ,jb,mb]
              rfl
             refine Nb (i:=2) (N:=some 77) (v:=?_) (a':=?_) #[true,true,true,false,false,false,false,false,false,false,false,false] rfl rfl (qb Dd.out (by kernel_rfl)) (fun _ _ _ h=>h) (Or.inl ⟨by rfl,?_⟩) ?_ ?_;rotate_left
             ·intro w';go_simp;with_reducible rfl
             rotate_left
             ·simp only [Act.put,List.setIfInBounds_toArray,List.set_cons_zero,List.set_cons_succ,jb,mb]
              rfl
             refine Nb (i:=4) (N:=some 79) (v:=?_) (a':=?_) #[true,true,true,false,true,false,false,false,false,false,false,false] rfl rfl (qb Dd.out (by kernel_rfl)) (fun _ _ _ h=>h) (Or.inl ⟨by rfl,?_⟩) ?_ ?_;rotate_left
             ·intro w';go_simp;with_reducible rfl
             rotate_left
             ·simp only [Act.put,List.setIfInBounds_toArray,List.set_cons_zero,List.set_cons_succ,jb,mb]
              rfl
             refine Nb (i:=6) (N:=some 81) (v:=?_) (a':=?_) #[true,true,true,false,true,false,true,false,false,false,false,false] rfl rfl (qb Dd.out (by kernel_rfl)) (fun _ _ _ h=>h) (Or.inl ⟨by rfl,?_⟩) ?_ ?_;rotate_left
             ·intro w';go_simp;with_reducible rfl
             rotate_left
             ·simp only [Act.put,List.setIfInBounds_toArray,List.set_cons_zero,List.set_cons_succ,jb,mb]
              rfl
             refine bg (i:=3) (N:=some 78) (v:=?_) (a':=?_) #[true,true,true,true,true,false,true,false,false,false,false,false] rfl rfl (Sd Dd.out Kl.out (by kernel_rfl)) (fun _ _ _ h=>h) (Or.inl ⟨by rfl,?_⟩) hHeld ?_ ?_;rotate_left
             ·rintro w' ⟨s0,s1,s2,s3,s4,s5,s6,s7,s8,s9⟩;go_simp;with_reducible rfl
             rotate_left
             ·simp only [Act.put,List.setIfInBounds_toArray,List.set_cons_zero,List.set_cons_succ,jb,mb]
              rfl
             refine bg (i:=5) (N:=some 80) (v:=?_) (a':=?_) #[true,true,true,true,true,true,true,false,false,false,false,false] rfl rfl (Sd Dd.out Kl.out (by kernel_rfl)) (fun _ _ _ h=>h) (Or.inl ⟨by rfl,?_⟩) hHeld ?_ ?_;rotate_left
             ·rintro w' ⟨s0,s1,s2,s3,s4,s5,s6,s7,s8,s9⟩;go_simp;with_reducible rfl
             rotate_left
             ·simp only [Act.put,List.setIfInBounds_toArray,List.set_cons_zero,List.set_cons_succ,jb,mb]
              rfl
             refine Nb (i:=7) (N:=some 82) (v:=?_) (a':=?_) #[true,true,true,true,true,true,true,true,false,false,false,false] rfl rfl (qb Dd.out (by kernel_rfl)) (fun _ _ _ h=>h) (Or.inl ⟨by rfl,?_⟩) ?_ ?_;rotate_left
             ·intro w';go_simp;with_reducible rfl
             rotate_left
             ·simp only [Act.put,List.setIfInBounds_toArray,List.set_cons_zero,List.set_cons_succ,jb,mb]
              rfl
             refine bg (i:=8) (N:=some 83) (v:=?_) (a':=?_) #[true,true,true,true,true,true,true,true,true,false,false,false] rfl rfl (Sd Dd.out Kl.out (by kernel_rfl)) (fun _ _ _ h=>h) (Or.inl ⟨by rfl,?_⟩) hHeld ?_ ?_;rotate_left
             ·rintro w' ⟨s0,s1,s2,s3,s4,s5,s6,s7,s8,s9⟩;go_simp;with_reducible rfl
             rotate_left
             ·simp only [Act.put,List.setIfInBounds_toArray,List.set_cons_zero,List.set_cons_succ,jb,mb]
              rfl
             refine Pq (i:=9) (N:=some 84) #[true,true,true,true,true,true,true,true,true,true,false,false] rfl rfl (nk Dd.out (by kernel_rfl)) (by decide) (fun K hK=>?_);refine vn Try.func87 (by kernel_rfl) rfl #[.agg #[.slice Jb Ta.length Ib,.int .i64 Ra,.int .i64 Qa,.int .i64 Pa,.slice (some qj) La.length dc],.agg #[.slice vl ((Ia La cg).f0).length gl,.int .i64 ((Ia La cg).f1),.int .i64 ((Ia La cg).f2),.int .i64 ((Ia La cg).f3),.int .i64 ((Ia La cg).f4)]] (by rfl) rfl rfl (by (try simp only [List.map_toArray,List.map_cons,List.map_nil]);first|done|rfl|(simp only [List.length_drop,List.length_take];rfl)) ?_;with_reducible refine (Qc.calls k3 _ _ Ta Ra Qa Pa _ _ La _ _ ((Ia La cg).f0) ((Ia La cg).f1) ((Ia La cg).f2) ((Ia La cg).f3) ((Ia La cg).f4) true _ ?zd ?yd ?Yf ?Xf ?tB ?sB A33.out).mono ?_
             (case zd=>repeat (first|exact (Kd.ec qg.out HB.out)|(with_reducible refine Kd.Sc ?_ _)|(with_reducible refine Kd.Rc ?_ _)|(with_reducible refine Kd.Cd ?_)))
             (case yd=>exact Jg.out)
             (case Yf=>repeat (first|exact (Kd.ec Qh.out HB.out)|(with_reducible refine Kd.Sc ?_ _)|(with_reducible refine Kd.Rc ?_ _)|(with_reducible refine Kd.Cd ?_)))
             (case Xf=>exact Bj.out)
             (case tB=>repeat (first|exact (Kd.ec js.out HB.out)|(with_reducible refine Kd.Sc ?_ _)|(with_reducible refine Kd.Rc ?_ _)|(with_reducible refine Kd.Cd ?_)))
             (case sB=>exact jB.out)
             rintro e w37 ⟨rfl,hb⟩;refine ⟨_,rfl,?_⟩;have Ub:=ia.mk (Sa (g:=Fa) (o:=.cells #[.slice Jb Ta.length Ib,.int .i64 Ra,.int .i64 Qa,.int .i64 Pa,.slice (some qj) La.length dc] 30 (0,0)) (by (with_reducible repeat (first|refine Ba ?_ _|refine Ca ?_|refine Aa ?_ _));exact ya.out) hb);have fc:=ia.mk (Oa (by repeat (first|(with_reducible first|exact HB.out|apply qa|apply ja|apply ta|refine ua ?_ Wa.out)|exact HB.out)) hb);clear ya HB;have ya:=Ub;have HB:=fc;clear Ub fc;(try clear hb);(try clear jk);(try clear hk);(try clear hi);refine hK.out _ _ ⟨(ga ya.out 0).trans rfl,(ga ya.out 1).trans rfl,(ga ya.out 2).trans rfl,(ga ya.out 3).trans rfl,(ga ya.out 4).trans rfl,(Da HB.out Sw),(Da HB.out Rw),(Da HB.out Qw),(Da HB.out Pw),(Da HB.out Ow)⟩ (fun hHeld=>?_);clear hK K;refine tn (a':=?_) ?_ ?_;rotate_left
             ·show Act.put _ (some 84) _=_
              simp only [Act.put,List.setIfInBounds_toArray,List.set_cons_zero,List.set_cons_succ,jb,mb]
              rfl
             refine Nb (i:=10) (N:=some 85) (v:=?_) (a':=?_) #[true,true,true,true,true,true,true,true,true,true,true,false] rfl rfl (qb Dd.out (by kernel_rfl)) (fun _ _ _ h=>h) (Or.inl ⟨by rfl,?_⟩) ?_ ?_;rotate_left
             ·intro w';go_simp;with_reducible rfl
             rotate_left
             ·simp only [Act.put,List.setIfInBounds_toArray,List.set_cons_zero,List.set_cons_succ,jb,mb]
              rfl
             refine Nb (i:=11) (N:=some 86) (v:=?_) (a':=?_) #[true,true,true,true,true,true,true,true,true,true,true,true] rfl rfl (qb Dd.out (by kernel_rfl)) (fun _ _ _ h=>h) (Or.inl ⟨by rfl,?_⟩) ?_ ?_;rotate_left
             ·intro w';go_simp;with_reducible rfl
             rotate_left
             ·simp only [Act.put,List.setIfInBounds_toArray,List.set_cons_zero,List.set_cons_succ,jb,mb]
              rfl
             refine kn (Xi Dd.out (by kernel_rfl)) ?_
             try go_wp2
             go_roundg k3
             case measure=>have:=jh.out;have:=HJ8.out;have:=M7.out;omega
             case rel=>exact ⟨(wrap64 (wD + (((Ia La cg).f0).length:Int))),(wrap64 (cg + 1)),(by first|rfl|(simp;done)|(simp [*];done)),(by first|rfl|(simp;done)|(simp [*];done)),H',⟨by have:=jh.out;have:=HJ8.out;have:=M7.out;omega⟩,⟨by (with_reducible repeat (first|refine Ba ?_ _|refine Ca ?_|refine Aa ?_ _));exact ya.out⟩,⟨by repeat (first|(with_reducible first|exact HB.out|apply qa|apply ja|apply ta|refine ua ?_ Wa.out)|exact HB.out)⟩⟩
            ·replace c34:=Bool.eq_false_iff.mpr c34;subst c34;have H1:(some false)=some r:=by rw [if_neg (show ¬ (false=true) by decide)] at H;exact H
             clear H;have H:=H1;clear H1;obtain rfl:=Option.some.inj H;have zu:wr.cell? ⟨Fa,0,none⟩=some (.slice Jb Ta.length Ib):=(ga ya.out 0).trans rfl;have yu:wr.cell? ⟨Fa,1,none⟩=some (.int .i64 Ra):=(ga ya.out 1).trans rfl;have xu:wr.cell? ⟨Fa,2,none⟩=some (.int .i64 Qa):=(ga ya.out 2).trans rfl;have wu:wr.cell? ⟨Fa,3,none⟩=some (.int .i64 Pa):=(ga ya.out 3).trans rfl;have vu:wr.cell? ⟨Fa,4,none⟩=some (.slice nc La.length dc):=(ga ya.out 4).trans rfl;have Rt:=aa ya.out 0;have Qt:=aa ya.out 1;have Pt:=aa ya.out 2;have Ot:=aa ya.out 3;have Nt:=aa ya.out 4;have CB:0 ≤ (cg:Int):=of_decide_eq_true (by first|(with_reducible assumption)|assumption);have zB:cg < (La.length:Int):=of_decide_eq_true (by first|(with_reducible assumption)|assumption);obtain ⟨qj,WT,FR,uR,Hp,Gp,Fp,Ep,Dp,Lp,Np⟩:=Mg Qh.out cg CB zB;cases uR;replace Hp:=Da HB.out Hp;replace Gp:=Da HB.out Gp;replace Fp:=Da HB.out Fp;replace Ep:=Da HB.out Ep;replace Dp:=Da HB.out Dp;have DN:=ia.mk Np;have FN:=ia.mk Lp;clear Np Lp;replace CB:=eq_true CB;replace zB:=eq_true zB
             try go_wp2
             have Ub:=ia.mk (Ca ya.out);have fc:=ia.mk (ta HB.out);clear ya HB;have ya:=Ub;have HB:=fc;clear Ub fc;have BB:0 ≤ (cg:Int):=of_decide_eq_true (by first|(with_reducible assumption)|assumption);have yB:cg < (La.length:Int):=of_decide_eq_true (by first|(with_reducible assumption)|assumption);obtain ⟨Dt,vl,gl,tR,Xl,Wl,Vl,Ul,Tl,Kp,Mp⟩:=Mg Qh.out cg BB yB;have Ow:=Tl;have Pw:=Ul;have Qw:=Vl;have Rw:=Wl;have Sw:=Xl;obtain rfl:qj=Dt:=(by injection tR);replace Xl:=Da HB.out Xl;replace Wl:=Da HB.out Wl;replace Vl:=Da HB.out Vl;replace Ul:=Da HB.out Ul;replace Tl:=Da HB.out Tl;have js:=ia.mk Mp;have jB:=ia.mk Kp;clear Mp Kp;replace BB:=eq_true BB;replace yB:=eq_true yB;refine Dj (n:=12) (S:=fun w'=>w'.cell? ⟨Fa,0,none⟩=some (.slice Jb Ta.length Ib)∧w'.cell? ⟨Fa,1,none⟩=some (.int .i64 Ra)∧w'.cell? ⟨Fa,2,none⟩=some (.int .i64 Qa)∧w'.cell? ⟨Fa,3,none⟩=some (.int .i64 Pa)∧w'.cell? ⟨Fa,4,none⟩=some (.slice (some qj) La.length dc)∧w'.cell? (qj.add ((cg).toNat * 5))=some (.slice vl ((Ia La cg).f0).length gl)∧w'.cell? ⟨(qj.add ((cg).toNat * 5)).block,(qj.add ((cg).toNat * 5)).off + 1,none⟩=some (.int .i64 ((Ia La cg).f1))∧w'.cell? ⟨(qj.add ((cg).toNat * 5)).block,(qj.add ((cg).toNat * 5)).off + 2,none⟩=some (.int .i64 ((Ia La cg).f2))∧w'.cell? ⟨(qj.add ((cg).toNat * 5)).block,(qj.add ((cg).toNat * 5)).off + 3,none⟩=some (.int .i64 ((Ia La cg).f3))∧w'.cell? ⟨(qj.add ((cg).toNat * 5)).block,(qj.add ((cg).toNat * 5)).off + 4,none⟩=some (.int .i64 ((Ia La cg).f4))) (ds:=[]) #[false,false,false,false,false,false,false,false,false,false,false,false] (by kernel_rfl) rfl rfl ⟨(ga ya.out 0).trans rfl,(ga ya.out 1).trans rfl,(ga ya.out 2).trans rfl,(ga ya.out 3).trans rfl,(ga ya.out 4).trans rfl,(Da HB.out Sw),(Da HB.out Rw),(Da HB.out Qw),(Da HB.out Pw),(Da HB.out Ow)⟩ (fun hHeld=>?_);refine ah Za.GP Za.xJ (fun Dd Kl=>?_);generalize wr.drew=Wz at ya HB js Xl Wl Vl Ul Tl hHeld ⊢;refine Nb (i:=0) (N:=some 75) (v:=?_) (a':=?_) #[true,false,false,false,false,false,false,false,false,false,false,false] rfl rfl (qb Dd.out (by kernel_rfl)) (fun _ _ _ h=>h) (Or.inl ⟨by rfl,?_⟩) ?_ ?_;rotate_left
             ·intro w';go_simp;with_reducible rfl
             rotate_left
             ·simp only [Act.put,List.setIfInBounds_toArray,List.set_cons_zero,List.set_cons_succ,jb,mb]
              rfl
             refine Nb (i:=1) (N:=some 76) (v:=?_) (a':=?_) #[true,true,false,false,false,false,false,false,false,false,false,false] rfl rfl (qb Dd.out (by kernel_rfl)) (fun _ _ _ h=>h) (Or.inl ⟨by rfl,?_⟩) ?_ ?_;rotate_left
             ·intro w';go_simp;with_reducible rfl
             rotate_left
             ·simp only [Act.put,List.setIfInBounds_toArray,List.set_cons_zero,List.set_cons_succ,jb,mb]
              rfl
             refine Nb (i:=2) (N:=some 77) (v:=?_) (a':=?_) #[true,true,true,false,false,false,false,false,false,false,false,false] rfl rfl (qb Dd.out (by kernel_rfl)) (fun _ _ _ h=>h) (Or.inl ⟨by rfl,?_⟩) ?_ ?_;rotate_left
             ·intro w';go_simp;with_reducible rfl
             rotate_left
             ·simp only [Act.put,List.setIfInBounds_toArray,List.set_cons_zero,List.set_cons_succ,jb,mb]
              rfl
             refine Nb (i:=4) (N:=some 79) (v:=?_) (a':=?_) #[true,true,true,false,true,false,false,false,false,false,false,false] rfl rfl (qb Dd.out (by kernel_rfl)) (fun _ _ _ h=>h) (Or.inl ⟨by rfl,?_⟩) ?_ ?_;rotate_left
             ·intro w';go_simp;with_reducible rfl
             rotate_left
             ·simp only [Act.put,List.setIfInBounds_toArray,List.set_cons_zero,List.set_cons_succ,jb,mb]
              rfl
             refine Nb (i:=6) (N:=some 81) (v:=?_) (a':=?_) #[true,true,true,false,true,false,true,false,false,false,false,false] rfl rfl (qb Dd.out (by kernel_rfl)) (fun _ _ _ h=>h) (Or.inl ⟨by rfl,?_⟩) ?_ ?_;rotate_left
             ·intro w';go_simp;with_reducible rfl
             rotate_left
             ·simp only [Act.put,List.setIfInBounds_toArray,List.set_cons_zero,List.set_cons_succ,jb,mb]
              rfl
             refine bg (i:=3) (N:=some 78) (v:=?_) (a':=?_) #[true,true,true,true,true,false,true,false,false,false,false,false] rfl rfl (Sd Dd.out Kl.out (by kernel_rfl)) (fun _ _ _ h=>h) (Or.inl ⟨by rfl,?_⟩) hHeld ?_ ?_;rotate_left
             ·rintro w' ⟨s0,s1,s2,s3,s4,s5,s6,s7,s8,s9⟩;go_simp;with_reducible rfl
             rotate_left
             ·simp only [Act.put,List.setIfInBounds_toArray,List.set_cons_zero,List.set_cons_succ,jb,mb]
              rfl
             refine bg (i:=5) (N:=some 80) (v:=?_) (a':=?_) #[true,true,true,true,true,true,true,false,false,false,false,false] rfl rfl (Sd Dd.out Kl.out (by kernel_rfl)) (fun _ _ _ h=>h) (Or.inl ⟨by rfl,?_⟩) hHeld ?_ ?_;rotate_left
             ·rintro w' ⟨s0,s1,s2,s3,s4,s5,s6,s7,s8,s9⟩;go_simp;with_reducible rfl
             rotate_left
             ·simp only [Act.put,List.setIfInBounds_toArray,List.set_cons_zero,List.set_cons_succ,jb,mb]
              rfl
             refine Nb (i:=7) (N:=some 82) (v:=?_) (a':=?_) #[true,true,true,true,true,true,true,true,false,false,false,false] rfl rfl (qb Dd.out (by kernel_rfl)) (fun _ _ _ h=>h) (Or.inl ⟨by rfl,?_⟩) ?_ ?_;rotate_left
             ·intro w';go_simp;with_reducible rfl
             rotate_left
             ·simp only [Act.put,List.setIfInBounds_toArray,List.set_cons_zero,List.set_cons_succ,jb,mb]
              rfl
             refine bg (i:=8) (N:=some 83) (v:=?_) (a':=?_) #[true,true,true,true,true,true,true,true,true,false,false,false] rfl rfl (Sd Dd.out Kl.out (by kernel_rfl)) (fun _ _ _ h=>h) (Or.inl ⟨by rfl,?_⟩) hHeld ?_ ?_;rotate_left
             ·rintro w' ⟨s0,s1,s2,s3,s4,s5,s6,s7,s8,s9⟩;go_simp;with_reducible rfl
             rotate_left
             ·simp only [Act.put,List.setIfInBounds_toArray,List.set_cons_zero,List.set_cons_succ,jb,mb]
              rfl
             refine Pq (i:=9) (N:=some 84) #[true,true,true,true,true,true,true,true,true,true,false,false] rfl rfl (nk Dd.out (by kernel_rfl)) (by decide) (fun K hK=>?_);refine vn Try.func87 (by kernel_rfl) rfl #[.agg #[.slice Jb Ta.length Ib,.int .i64 Ra,.int .i64 Qa,.int .i64 Pa,.slice (some qj) La.length dc],.agg #[.slice vl ((Ia La cg).f0).length gl,.int .i64 ((Ia La cg).f1),.int .i64 ((Ia La cg).f2),.int .i64 ((Ia La cg).f3),.int .i64 ((Ia La cg).f4)]] (by rfl) rfl rfl (by (try simp only [List.map_toArray,List.map_cons,List.map_nil]);first|done|rfl|(simp only [List.length_drop,List.length_take];rfl)) ?_;with_reducible refine (Qc.calls k3 _ _ Ta Ra Qa Pa _ _ La _ _ ((Ia La cg).f0) ((Ia La cg).f1) ((Ia La cg).f2) ((Ia La cg).f3) ((Ia La cg).f4) false _ ?zd ?yd ?Yf ?Xf ?tB ?sB A33.out).mono ?_
             (case zd=>repeat (first|exact (Kd.ec qg.out HB.out)|(with_reducible refine Kd.Sc ?_ _)|(with_reducible refine Kd.Rc ?_ _)|(with_reducible refine Kd.Cd ?_)))
             (case yd=>exact Jg.out)
             (case Yf=>repeat (first|exact (Kd.ec Qh.out HB.out)|(with_reducible refine Kd.Sc ?_ _)|(with_reducible refine Kd.Rc ?_ _)|(with_reducible refine Kd.Cd ?_)))
             (case Xf=>exact Bj.out)
             (case tB=>repeat (first|exact (Kd.ec js.out HB.out)|(with_reducible refine Kd.Sc ?_ _)|(with_reducible refine Kd.Rc ?_ _)|(with_reducible refine Kd.Cd ?_)))
             (case sB=>exact jB.out)
             rintro e w40 ⟨rfl,hb⟩;refine ⟨_,rfl,?_⟩;have Ub:=ia.mk (Sa (g:=Fa) (o:=.cells #[.slice Jb Ta.length Ib,.int .i64 Ra,.int .i64 Qa,.int .i64 Pa,.slice (some qj) La.length dc] 30 (0,0)) (by (with_reducible repeat (first|refine Ba ?_ _|refine Ca ?_|refine Aa ?_ _));exact ya.out) hb);have fc:=ia.mk (Oa (by repeat (first|(with_reducible first|exact HB.out|apply qa|apply ja|apply ta|refine ua ?_ Wa.out)|exact HB.out)) hb);clear ya HB;have ya:=Ub;have HB:=fc;clear Ub fc;(try clear hb);(try clear jk);(try clear hk);(try clear hi);refine hK.out _ _ ⟨(ga ya.out 0).trans rfl,(ga ya.out 1).trans rfl,(ga ya.out 2).trans rfl,(ga ya.out 3).trans rfl,(ga ya.out 4).trans rfl,(Da HB.out Sw),(Da HB.out Rw),(Da HB.out Qw),(Da HB.out Pw),(Da HB.out Ow)⟩ (fun hHeld=>?_);clear hK K;refine tn (a':=?_) ?_ ?_;rotate_left
             ·show Act.put _ (some 84) _=_
              simp only [Act.put,List.setIfInBounds_toArray,List.set_cons_zero,List.set_cons_succ,jb,mb]
              rfl
             refine Nb (i:=10) (N:=some 85) (v:=?_) (a':=?_) #[true,true,true,true,true,true,true,true,true,true,true,false] rfl rfl (qb Dd.out (by kernel_rfl)) (fun _ _ _ h=>h) (Or.inl ⟨by rfl,?_⟩) ?_ ?_;rotate_left
             ·intro w';go_simp;with_reducible rfl
             rotate_left
             ·simp only [Act.put,List.setIfInBounds_toArray,List.set_cons_zero,List.set_cons_succ,jb,mb]
              rfl
             refine Nb (i:=11) (N:=some 86) (v:=?_) (a':=?_) #[true,true,true,true,true,true,true,true,true,true,true,true] rfl rfl (qb Dd.out (by kernel_rfl)) (fun _ _ _ h=>h) (Or.inl ⟨by rfl,?_⟩) ?_ ?_;rotate_left
             ·intro w';go_simp;with_reducible rfl
             rotate_left
             ·simp only [Act.put,List.setIfInBounds_toArray,List.set_cons_zero,List.set_cons_succ,jb,mb]
              rfl
             refine kn (Xi Dd.out (by kernel_rfl)) ?_
             try go_wp2
             go_ret;exact ⟨by first|rfl|(simp [Ka,Ja] <;> rfl)|(simp [*,Ka,Ja] <;> rfl),by repeat (first|(with_reducible first|exact HB.out|apply qa|apply ja|apply ta|refine ua ?_ Wa.out)|exact HB.out)⟩
          ·rw [if_neg QO] at H;exact absurd H (by simp)
         ·rw [if_neg F7] at H;have Rac:decide (cg < (La.length:Int))=false:=decide_eq_false F7;clear F7;obtain rfl:=Option.some.inj H;have WA:wr.cell? ⟨Fa,0,none⟩=some (.slice Jb Ta.length Ib):=(ga ya.out 0).trans rfl;have VA:wr.cell? ⟨Fa,1,none⟩=some (.int .i64 Ra):=(ga ya.out 1).trans rfl;have UA:wr.cell? ⟨Fa,2,none⟩=some (.int .i64 Qa):=(ga ya.out 2).trans rfl;have TA:wr.cell? ⟨Fa,3,none⟩=some (.int .i64 Pa):=(ga ya.out 3).trans rfl;have SA:wr.cell? ⟨Fa,4,none⟩=some (.slice nc La.length dc):=(ga ya.out 4).trans rfl;have GA:=aa ya.out 0;have FA:=aa ya.out 1;have EA:=aa ya.out 2;have DA:=aa ya.out 3;have CA:=aa ya.out 4;go_wp2;go_ret;exact ⟨by first|rfl|(simp [Ka,Ja] <;> rfl)|(simp [*,Ka,Ja] <;> rfl),by repeat (first|(with_reducible first|exact HB.out|apply qa|apply ja|apply ta|refine ua ?_ Wa.out)|exact HB.out)⟩
end Go.Proofs.Ytmifdccaajngcaa.P
end
section
namespace Go.Proofs.Ytmifdccaajngcaa.P
open Go.RowKit Go.Proofs.Na.Ec Go.Proofs.Na.gf Go.Proofs.Na.Eg
set_option linter.unusedVariables false
set_option linter.unusedSimpArgs false
open Classical in
noncomputable def cA (n:Nat) (p:Nat→Prop):Bool:=decide (∀ j,j < n→p j)
open Classical in
theorem UO {n:Nat} {p:Nat→Prop} (h:∀ j,j < n→p j):cA n p=true:=by
 unfold cA;exact decide_eq_true h
open Classical in
theorem BH {n:Nat} {p:Nat→Prop}:cA n p=true ↔ ∀ j,j < n→p j:=by
 unfold cA;exact decide_eq_true_iff
theorem zJ {n i:Nat} {p:Nat→Prop} (hi:i < n) (h:¬ p i):cA n p=false:=by
 cases e:cA n p with
 | false=>rfl
 | true=>exact absurd (BH.mp e i hi) h
theorem iJ {ρ:Type} {n:Nat} {R e:ρ} (p:Nat→Prop) (f:Nat→Nat→Option ρ) (hend:Ev (f n) R) (hyes:∀ i,i < n→p i→∀ r,Ev (f (i + 1)) r→Ev (f i) r) (hno:∀ i,i < n→¬ p i→Ev (f i) e):Ev (f 0) (bif cA n p then R else e):=by
 have key:∀ d i,i + d=n→(∀ j,j < i→p j)→Ev (f i) (bif cA n p then R else e):=by
  intro d
  induction d with
  | zero =>
   intro i hi h;have:i=n:=by omega
   subst this;rw [UO h];exact hend
  | succ d ih =>
   intro i hi h
   by_cases hp:p i
   ·refine hyes i (by omega) hp _ (ih (i + 1) (by omega) ?_);intro j hj
    by_cases hji:j=i
    ·rw [hji];exact hp
    ·exact h j (by omega)
   ·rw [zJ (by omega) hp];exact hno i (by omega) hp
 exact key n 0 (by omega) (fun j hj=>absurd hj (by omega))
theorem Dz {α:Type} (l:List α) (z:α) (q:α→Bool):cA l.length (fun j=>q (l.getD j z)=true) = !(l.any fun x=>!q x):=by
 rw [Bool.eq_iff_iff,BH];simp only [Bool.not_eq_true',List.any_eq_false,Bool.not_eq_true',Bool.not_eq_false]
 constructor
 ·intro h x hx;obtain ⟨j,hj,rfl⟩:=List.mem_iff_getElem.mp hx;have:=h j hj;rw [List.getD_eq_getElem?_getD,List.getElem?_eq_getElem hj] at this
  simpa using this
 ·intro h j hj;have:=h l[j] (List.getElem_mem hj);rw [List.getD_eq_getElem?_getD,List.getElem?_eq_getElem hj]
  simpa using this
end Go.Proofs.Ytmifdccaajngcaa.P
end
section
namespace Go.Proofs.Ytmifdccaajngcaa.P
open Go.RowKit Go.Proofs.Na.Ec Go.Proofs.Na.gf Go.Proofs.Na.Eg
set_option linter.unusedVariables false
set_option linter.unusedSimpArgs false
theorem nQ (a b c:Int):xb.f a b c=some (wm a b c):=by
 unfold xb.f wm
 by_cases h:a ≥ b
 ·rw [if_pos h];have h':b ≤ a:=h;simp [h']
 ·rw [if_neg h];have h':¬ b ≤ a:=h;simp [h']
end Go.Proofs.Ytmifdccaajngcaa.P
end
