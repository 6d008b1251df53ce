import Derived.Test.YtkigbdceceeenaaQColorsOk1
import Derived.Test.YtkigbdceceeenaaQColorsOk5
import Derived.Test.YtkigbdceceeenaaQColorsOk6
set_option maxHeartbeats 8000000
set_option maxRecDepth 100000
section
namespace Go.Proofs.Ytkigbdceceeenaa.P
open Go.RowKit Go.Proofs.Pa.Xb Go.Proofs.Pa.Pd Go.Proofs.Pa.Oe
set_option linter.unusedVariables false
set_option linter.unusedSimpArgs false
attribute [local go_sem] Bi Xi Jj Ik Uh Th Yi Wi
def oc.l0:Nat→Int→List Int→Int→Int→Int→List (Ke)→List (lg)→Int→Int→Int→Int→Option (Bool)
 | 0,_,_,_,_,_,_,_,_,_,_,_=>none
 | k + 1,x5,Cc,Uc,Ic,Gc,ec,Rf,Fk,Yk,Ij,Hj=>if x5 < (Rf.length:Int) then (if 0 ≤ x5 then ((jb.f k Cc Uc Ic Gc ec ((Ua Rf x5).f0) ((Ua Rf x5).f1) ((Ua Rf x5).f2) ((Ua Rf x5).f3) ((Ua Rf x5).f4) ((Ua Rf x5).f5) ((Ua Rf x5).f6)).bind fun t104=>(if t104=true then (oc.l0 k (wrap64 (x5 + 1)) Cc Uc Ic Gc ec Rf Fk Yk Ij Hj) else (some false))) else (none)) else ((Za.f Ij 0 (wrap64 ((ec.length:Int) - 1))).bind fun t105=>((Za.f Yk 0 (wrap64 (Gc - 1))).bind fun t106=>(if Fk=0 then (if t105=true then (if Yk=0 then (some (Hj == 0)) else (some false)) else (some false)) else (if Fk=1 then (if t105=true then (if t106=true then ((Za.f Hj 0 (wrap64 ((ec.length:Int) - 1))).bind fun t107=>(some t107)) else (some false)) else (some false)) else (if Fk=2 then (if t106=true then (if Ij=0 then (some (Hj == 0)) else (some false)) else (some false)) else (some false))))))
def oc.f (k:Nat) (Oa:List Int) (Ja:Int) (Fa:Int) (Ia:Int) (Ca:List (Ke)) (Sc:List (lg)) (Wb:Int) (Sb:Int) (Tb:Int) (fc:Int):Option (Bool):=oc.l0 k 0 Oa Ja Fa Ia Ca Sc Wb Sb Tb fc
def oc.T4:Bool × List (List Nat × List Nat):=(true,[([],[]),([],[]),([1],[1]),([],[]),([2,3],[2,3]),([4],[4]),([0,5],[0,5]),([6],[6])])
def oc.B4:List Nat:=[0,0,2,0,14,30,63,127]
theorem oc.B7:Tn .any (opsOf Try.f71 4)=oc.T4:=by kernel_rfl
theorem oc.tZ:oo oc.T4.2 oc.B4=true:=by kernel_rfl
theorem oc.calls (k:Nat) (Wa:Option Addr) (Ya:Nat) (Oa:List Int) (Ja:Int) (Fa:Int) (Ia:Int) (Ob:Option Addr) (Cb:Nat) (Ca:List (Ke)) (Df:Option Addr) (jf:Nat) (Sc:List (lg)) (Wb:Int) (Sb:Int) (Tb:Int) (fc:Int) (r:Bool) (w:World) (Ld:Kd.C (Kd.int .i64) w Wa Oa.length Oa) (Gd:Oa.length ≤ Ya) (Ue:Kd.C Gs w Ob Ca.length Ca) (Qe:Ca.length ≤ Cb) (qw:Kd.C Dr w Df Sc.length Sc) (sw:Sc.length ≤ jf) (h:oc.f k Oa Ja Fa Ia Ca Sc Wb Sb Tb fc=some r) :
  Calls Try.prog 71 #[.agg #[.slice Wa Oa.length Ya,.int .i64 Ja,.int .i64 Fa,.int .i64 Ia,.slice Ob Ca.length Cb],.agg #[.slice Df Sc.length jf,.int .i64 Wb,.int .i64 Sb,.int .i64 Tb,.int .i64 fc]] w fun e w'=>e = .returned (.bool r)∧Below w.heap.size w w':=by
 have gB:=Try.underlying30;have fB:=Try.underlying59;have Yz:=Try.underlying65;have Md:=ja.mk Ld;have Rd:=ja.mk Gd;clear Ld Gd;have Ce:=ja.mk Ue;have Ff:=ja.mk Qe;clear Ue Qe;have mo:=ja.mk qw;have tr:=ja.mk sw;clear qw sw;have HB:=ja.mk (Below.refl w.heap.size w);have H:(oc.l0 k 0 Oa Ja Fa Ia Ca Sc Wb Sb Tb fc)=some r:=h;clear h;have H':=ja.mk H;clear H;go_enter Try.func71,Try.ntmps71;go_wp2_with (first|((with_reducible refine qb (N:=2) rfl ?_);(try (refine kg (by rfl) ?_;dsimp only));refine Gb ?hg (N:=2) ?hd (cs:=#[.slice Wa Oa.length Ya,.int .i64 Ja,.int .i64 Fa,.int .i64 Ia,.slice Ob Ca.length Cb]) (t:=30) ?hr ?_;(case hd=>rfl);(case hg=>rfl);(case hr=>first|(go_simp;done)|(go_simp;rfl));intro ya hg w3 Rb hb;have Eb:=ja.mk (Na (by repeat (first|(with_reducible first|exact HB.out|apply qa|apply ia|apply ta)|exact HB.out)) hb);have Jb:=ja.mk (Rb);have Ub:=ja.mk ((by rw [hg];exact (Ga (by repeat (first|(with_reducible first|exact HB.out|apply qa|apply ia|apply ta)|exact HB.out))):w.heap.size ≤ ya));have uc:=ja.mk ((by rw [hg];exact (Ga (by repeat (first|(with_reducible first|exact HB.out|apply qa|apply ia|apply ta)|exact HB.out))):w.heap.size ≤ ya));clear HB;have HB:=Eb;have oa:=Jb;have xd:=Ub;have Ra:=uc;clear Eb Jb Ub uc hb Rb hg)|((with_reducible refine qb (N:=3) rfl ?_);(try (refine kg (by rfl) ?_;dsimp only));refine Gb ?hg (N:=3) ?hd (cs:=#[.slice Df Sc.length jf,.int .i64 Wb,.int .i64 Sb,.int .i64 Tb,.int .i64 fc]) (t:=59) ?hr ?_;(case hd=>rfl);(case hg=>rfl);(case hr=>first|(go_simp;done)|(go_simp;rfl));intro Ka hg w4 Rb hb;have Eb:=ja.mk (Ta (g:=ya) (o:=.cells #[.slice Wa Oa.length Ya,.int .i64 Ja,.int .i64 Fa,.int .i64 Ia,.slice Ob Ca.length Cb] 30 (0,0)) (by (with_reducible repeat (first|refine Aa ?_ _|refine Da ?_|refine Ba ?_ _));exact oa.out) hb);have Jb:=ja.mk (Na (by repeat (first|(with_reducible first|exact HB.out|apply qa|apply ia|apply ta|refine ua ?_ Ra.out)|exact HB.out)) hb);have Ub:=ja.mk (Rb);have uc:=ja.mk ((by rw [hg];exact (Ga (by repeat (first|(with_reducible first|exact HB.out|apply qa|apply ia|apply ta|refine ua ?_ Ra.out)|exact HB.out))):w.heap.size ≤ Ka));have lf:=ja.mk ((by rw [hg];exact (Ga (by repeat (first|(with_reducible first|exact HB.out|apply qa|apply ia|apply ta|refine ua ?_ Ra.out)|exact HB.out))):w.heap.size ≤ Ka));have Vf:=ja.mk ((by rw [hg];exact Nat.ne_of_lt (Jc (g:=ya) (o:=.cells #[.slice Wa Oa.length Ya,.int .i64 Ja,.int .i64 Fa,.int .i64 Ia,.slice Ob Ca.length Cb] 30 (0,0)) (by (with_reducible repeat (first|refine Aa ?_ _|refine Da ?_|refine Ba ?_ _));exact oa.out)):ya ≠ Ka));have pg:=ja.mk ((by rw [hg];exact Nat.ne_of_gt (Jc (g:=ya) (o:=.cells #[.slice Wa Oa.length Ya,.int .i64 Ja,.int .i64 Fa,.int .i64 Ia,.slice Ob Ca.length Cb] 30 (0,0)) (by (with_reducible repeat (first|refine Aa ?_ _|refine Da ?_|refine Ba ?_ _));exact oa.out)):Ka ≠ ya));clear oa HB;have oa:=Eb;have HB:=Jb;have za:=Ub;have Zj:=uc;have yc:=lf;have Mb:=Vf;have Lb:=pg;clear Eb Jb Ub uc lf Vf pg hb Rb hg))
 go_loopg [5] k (fun kq v5 w'=>∃ (Va:Int),v5 = .int .i64 Va∧ja (oc.l0 kq Va Oa Ja Fa Ia Ca Sc Wb Sb Tb fc=some r)∧ja (kq ≤ k)∧ja (w'.heap[ya]? = some (.cells #[(.slice Wa Oa.length Ya),.int .i64 Ja,.int .i64 Fa,.int .i64 Ia,(.slice Ob Ca.length Cb)] 30 (0,0)))∧ja (w'.heap[Ka]? = some (.cells #[(.slice Df Sc.length jf),.int .i64 Wb,.int .i64 Sb,.int .i64 Tb,.int .i64 fc] 59 (0,0)))∧ja (Below w.heap.size w w'))
 case atStart=>exact ⟨(0),(by first|rfl|(simp;done)|(simp [*];done)),H',⟨Nat.le_refl _⟩,⟨by (with_reducible repeat (first|refine Aa ?_ _|refine Da ?_|refine Ba ?_ _));exact oa.out⟩,⟨by (with_reducible repeat (first|refine Aa ?_ _|refine Da ?_|refine Ba ?_ _));exact za.out⟩,⟨by repeat (first|(with_reducible first|exact HB.out|apply qa|apply ia|apply ta|refine ua ?_ Ra.out|refine ua ?_ yc.out)|exact HB.out)⟩⟩
 case round =>
  clear H'
  try clear c1
  try clear p2
  (try clear HA);(try clear Rh);(try clear oa);(try clear za);(try clear HB);obtain ⟨Va,rfl,HA,Rh,oa,za,HB⟩:=hrel;cases gk with
  | zero=>exact absurd HA.out (by simp [oc.l0])
  | succ k1 =>
   have H:=HA.out;clear HA;simp only [oc.l0] at H
   by_cases c5:Va < (Sc.length:Int)
   ·rw [if_pos c5] at H;have ak:decide (Va < (Sc.length:Int))=true:=decide_eq_true c5;clear c5
    by_cases c6:0 ≤ Va
    ·rw [if_pos c6] at H;have Mm:decide (0 ≤ Va)=true:=decide_eq_true c6;clear c6;replace H:=Option.bind_eq_some_iff.mp H;obtain ⟨t104,fR,H⟩:=H;replace H:(if t104=true then (oc.l0 k1 (wrap64 (Va + 1)) Oa Ja Fa Ia Ca Sc Wb Sb Tb fc) else (some false))=some r:=H;have A7:=ja.mk fR;clear fR
     by_cases c8:t104=true
     ·subst c8;have H1:(oc.l0 k1 (wrap64 (Va + 1)) Oa Ja Fa Ia Ca Sc Wb Sb Tb fc)=some r:=by rw [if_pos rfl] at H;exact H
      clear H;have H:=H1;clear H1;have H':=ja.mk H;clear H;have gam:=Lb.out;have Ral:=Mb.out;have Ah:wr.cell? ⟨Ka,0,none⟩=some (.slice Df Sc.length jf):=(ga za.out 0).trans rfl;have zh:wr.cell? ⟨Ka,1,none⟩=some (.int .i64 Wb):=(ga za.out 1).trans rfl;have yh:wr.cell? ⟨Ka,2,none⟩=some (.int .i64 Sb):=(ga za.out 2).trans rfl;have xh:wr.cell? ⟨Ka,3,none⟩=some (.int .i64 Tb):=(ga za.out 3).trans rfl;have wh:wr.cell? ⟨Ka,4,none⟩=some (.int .i64 fc):=(ga za.out 4).trans rfl;have mh:=aa za.out 0;have jh:=aa za.out 1;have gh:=aa za.out 2;have fh:=aa za.out 3;have dh:=aa za.out 4
      try go_wp2
      have Eb:=ja.mk (Da oa.out);have Jb:=ja.mk (Da za.out);have Ub:=ja.mk (ta HB.out);clear oa za HB;have oa:=Eb;have za:=Jb;have HB:=Ub;clear Eb Jb Ub;have tK:0 ≤ (Va:Int):=Sa;have rK:Va < (Sc.length:Int):=Sa;obtain ⟨Zh,Z2,Ko,Jo,Io,Ho,Fo,Eo,Co⟩:=Xn mo.out Va tK rK;have Ox:=Co;have Px:=Eo;have Qx:=Fo;have Rx:=Ho;have Sx:=Io;have Tx:=Jo;have Ux:=Ko;cases Z2;replace Ko:=Qa HB.out Ko;replace Jo:=Qa HB.out Jo;replace Io:=Qa HB.out Io;replace Ho:=Qa HB.out Ho;replace Fo:=Qa HB.out Fo;replace Eo:=Qa HB.out Eo;replace Co:=Qa HB.out Co;replace tK:=eq_true tK;replace rK:=eq_true rK;refine Qm (n:=8) (S:=fun w'=>w'.cell? ⟨ya,0,none⟩=some (.slice Wa Oa.length Ya)∧w'.cell? ⟨ya,1,none⟩=some (.int .i64 Ja)∧w'.cell? ⟨ya,2,none⟩=some (.int .i64 Fa)∧w'.cell? ⟨ya,3,none⟩=some (.int .i64 Ia)∧w'.cell? ⟨ya,4,none⟩=some (.slice Ob Ca.length Cb)∧w'.cell? ⟨Ka,0,none⟩=some (.slice (some Zh) Sc.length jf)∧w'.cell? ⟨Ka,1,none⟩=some (.int .i64 Wb)∧w'.cell? ⟨Ka,2,none⟩=some (.int .i64 Sb)∧w'.cell? ⟨Ka,3,none⟩=some (.int .i64 Tb)∧w'.cell? ⟨Ka,4,none⟩=some (.int .i64 fc)∧w'.cell? (Zh.add ((Va).toNat * 7))=some (.int .i64 ((Ua Sc Va).f0))∧w'.cell? ⟨(Zh.add ((Va).toNat * 7)).block,(Zh.add ((Va).toNat * 7)).off + 1,none⟩=some (.int .i64 ((Ua Sc Va).f1))∧w'.cell? ⟨(Zh.add ((Va).toNat * 7)).block,(Zh.add ((Va).toNat * 7)).off + 2,none⟩=some (.int .i64 ((Ua Sc Va).f2))∧w'.cell? ⟨(Zh.add ((Va).toNat * 7)).block,(Zh.add ((Va).toNat * 7)).off + 3,none⟩=some (.int .i64 ((Ua Sc Va).f3))∧w'.cell? ⟨(Zh.add ((Va).toNat * 7)).block,(Zh.add ((Va).toNat * 7)).off + 4,none⟩=some (.int .i64 ((Ua Sc Va).f4))∧w'.cell? ⟨(Zh.add ((Va).toNat * 7)).block,(Zh.add ((Va).toNat * 7)).off + 5,none⟩=some (.int .i64 ((Ua Sc Va).f5))∧w'.cell? ⟨(Zh.add ((Va).toNat * 7)).block,(Zh.add ((Va).toNat * 7)).off + 6,none⟩=some (.string ((Ua Sc Va).f6))) (ds:=[]) #[false,false,false,false,false,false,false,false] (by kernel_rfl) rfl rfl ⟨(ga oa.out 0).trans rfl,(ga oa.out 1).trans rfl,(ga oa.out 2).trans rfl,(ga oa.out 3).trans rfl,(ga oa.out 4).trans rfl,(ga za.out 0).trans rfl,(ga za.out 1).trans rfl,(ga za.out 2).trans rfl,(ga za.out 3).trans rfl,(ga za.out 4).trans rfl,(Qa HB.out Ux),(Qa HB.out Tx),(Qa HB.out Sx),(Qa HB.out Rx),(Qa HB.out Qx),(Qa HB.out Px),(Qa HB.out Ox)⟩ (fun hHeld=>?_);refine Dj oc.B7 oc.tZ (fun dg Tv=>?_);generalize wr.drew=kj at oa za HB Ko Jo Io Ho Fo Eo Co hHeld ⊢;refine zd (i:=1) (N:=some 16) (v:=?_) (a':=?_) #[false,true,false,false,false,false,false,false] rfl rfl (Xc dg.out (by kernel_rfl)) (fun _ _ _ h=>h) (Or.inl ⟨by rfl,?_⟩) ?_ ?_;rotate_left
      ·intro w';go_simp;with_reducible rfl
      rotate_left
      ·simp only [Act.put,List.setIfInBounds_toArray,List.set_cons_zero,List.set_cons_succ,ic,jc]
       rfl
      refine zd (i:=3) (N:=some 18) (v:=?_) (a':=?_) #[false,true,false,true,false,false,false,false] rfl rfl (Xc dg.out (by kernel_rfl)) (fun _ _ _ h=>h) (Or.inl ⟨by rfl,?_⟩) ?_ ?_;rotate_left
      ·intro w';go_simp;with_reducible rfl
      rotate_left
      ·simp only [Act.put,List.setIfInBounds_toArray,List.set_cons_zero,List.set_cons_succ,ic,jc]
       rfl
      refine Fh (i:=0) (N:=some 15) (v:=?_) (a':=?_) #[true,true,false,true,false,false,false,false] rfl rfl (uf dg.out Tv.out (by kernel_rfl)) (fun _ _ _ h=>h) (Or.inl ⟨by rfl,?_⟩) hHeld ?_ ?_;rotate_left
      ·rintro w' ⟨s0,s1,s2,s3,s4,s5,s6,s7,s8,s9,sM,rM,qM,MU,L7,K7,J7⟩;go_simp;with_reducible rfl
      rotate_left
      ·simp only [Act.put,List.setIfInBounds_toArray,List.set_cons_zero,List.set_cons_succ,ic,jc]
       rfl
      refine Fh (i:=2) (N:=some 17) (v:=?_) (a':=?_) #[true,true,true,true,false,false,false,false] rfl rfl (uf dg.out Tv.out (by kernel_rfl)) (fun _ _ _ h=>h) (Or.inl ⟨by rfl,?_⟩) hHeld ?_ ?_;rotate_left
      ·rintro w' ⟨s0,s1,s2,s3,s4,s5,s6,s7,s8,s9,sM,rM,qM,MU,L7,K7,J7⟩;go_simp;with_reducible rfl
      rotate_left
      ·simp only [Act.put,List.setIfInBounds_toArray,List.set_cons_zero,List.set_cons_succ,ic,jc]
       rfl
      refine zd (i:=4) (N:=some 19) (v:=?_) (a':=?_) #[true,true,true,true,true,false,false,false] rfl rfl (Xc dg.out (by kernel_rfl)) (fun _ _ _ h=>h) (Or.inl ⟨by rfl,?_⟩) ?_ ?_;rotate_left
      ·intro w';go_simp;with_reducible rfl
      rotate_left
      ·simp only [Act.put,List.setIfInBounds_toArray,List.set_cons_zero,List.set_cons_succ,ic,jc]
       rfl
      refine Fh (i:=5) (N:=some 20) (v:=?_) (a':=?_) #[true,true,true,true,true,true,false,false] rfl rfl (uf dg.out Tv.out (by kernel_rfl)) (fun _ _ _ h=>h) (Or.inl ⟨by rfl,?_⟩) hHeld ?_ ?_;rotate_left
      ·rintro w' ⟨s0,s1,s2,s3,s4,s5,s6,s7,s8,s9,sM,rM,qM,MU,L7,K7,J7⟩;go_simp;with_reducible rfl
      rotate_left
      ·simp only [Act.put,List.setIfInBounds_toArray,List.set_cons_zero,List.set_cons_succ,ic,jc]
       rfl
      refine Jw (i:=6) (N:=some 21) #[true,true,true,true,true,true,true,false] rfl rfl (Ts dg.out (by kernel_rfl)) (by decide) (fun K hK=>?_);refine eu Try.func97 (by kernel_rfl) rfl #[.agg #[.slice Wa Oa.length Ya,.int .i64 Ja,.int .i64 Fa,.int .i64 Ia,.slice Ob Ca.length Cb],.agg #[.int .i64 ((Ua Sc Va).f0),.int .i64 ((Ua Sc Va).f1),.int .i64 ((Ua Sc Va).f2),.int .i64 ((Ua Sc Va).f3),.int .i64 ((Ua Sc Va).f4),.int .i64 ((Ua Sc Va).f5),.string ((Ua Sc Va).f6)]] (by rfl) rfl rfl (by (try simp only [List.map_toArray,List.map_cons,List.map_nil]);first|done|rfl|(simp only [List.length_drop,List.length_take];rfl)) ?_;with_reducible refine (jb.calls k1 _ _ Oa Ja Fa Ia _ _ Ca ((Ua Sc Va).f0) ((Ua Sc Va).f1) ((Ua Sc Va).f2) ((Ua Sc Va).f3) ((Ua Sc Va).f4) ((Ua Sc Va).f5) ((Ua Sc Va).f6) true _ ?dc ?Zb ?Rc ?Qc A7.out).mono ?_
      (case dc=>repeat (first|exact (Kd.Db Md.out HB.out)|(with_reducible refine Kd.Bb ?_ _)|(with_reducible refine Kd.Ab ?_ _)|(with_reducible refine Kd.Qb ?_)))
      (case Zb=>exact Rd.out)
      (case Rc=>repeat (first|exact (Kd.Db Ce.out HB.out)|(with_reducible refine Kd.Bb ?_ _)|(with_reducible refine Kd.Ab ?_ _)|(with_reducible refine Kd.Qb ?_)))
      (case Qc=>exact Ff.out)
      rintro e qu ⟨rfl,hb⟩;refine ⟨_,rfl,?_⟩;have Eb:=ja.mk (Ta (g:=ya) (o:=.cells #[.slice Wa Oa.length Ya,.int .i64 Ja,.int .i64 Fa,.int .i64 Ia,.slice Ob Ca.length Cb] 30 (0,0)) (by (with_reducible repeat (first|refine Aa ?_ _|refine Da ?_|refine Ba ?_ _));exact oa.out) hb);have Jb:=ja.mk (Ta (g:=Ka) (o:=.cells #[.slice (some Zh) Sc.length jf,.int .i64 Wb,.int .i64 Sb,.int .i64 Tb,.int .i64 fc] 59 (0,0)) (by (with_reducible repeat (first|refine Aa ?_ _|refine Da ?_|refine Ba ?_ _));exact za.out) hb);have Ub:=ja.mk (Na (by repeat (first|(with_reducible first|exact HB.out|apply qa|apply ia|apply ta|refine ua ?_ Ra.out|refine ua ?_ yc.out)|exact HB.out)) hb);clear oa za HB;have oa:=Eb;have za:=Jb;have HB:=Ub;clear Eb Jb Ub;(try clear hb);(try clear ni);(try clear hk);(try clear hi);refine hK.out _ _ ⟨(ga oa.out 0).trans rfl,(ga oa.out 1).trans rfl,(ga oa.out 2).trans rfl,(ga oa.out 3).trans rfl,(ga oa.out 4).trans rfl,(ga za.out 0).trans rfl,(ga za.out 1).trans rfl,(ga za.out 2).trans rfl,(ga za.out 3).trans rfl,(ga za.out 4).trans rfl,(Qa HB.out Ux),(Qa HB.out Tx),(Qa HB.out Sx),(Qa HB.out Rx),(Qa HB.out Qx),(Qa HB.out Px),(Qa HB.out Ox)⟩ (fun hHeld=>?_);clear hK K;refine yp (a':=?_) ?_ ?_;rotate_left
      ·show Act.put _ (some 21) _=_
       simp only [Act.put,List.setIfInBounds_toArray,List.set_cons_zero,List.set_cons_succ,ic,jc]
       rfl
      refine zd (i:=7) (N:=some 22) (v:=?_) (a':=?_) #[true,true,true,true,true,true,true,true] rfl rfl (Xc dg.out (by kernel_rfl)) (fun _ _ _ h=>h) (Or.inl ⟨by rfl,?_⟩) ?_ ?_;rotate_left
      ·intro w';go_simp;with_reducible rfl
      rotate_left
      ·simp only [Act.put,List.setIfInBounds_toArray,List.set_cons_zero,List.set_cons_succ,ic,jc]
       rfl
      refine Sr (sn dg.out (by kernel_rfl)) ?_
      try go_wp2
      go_roundg k1
      case measure=>have:=Rh.out;omega
      case rel=>exact ⟨(wrap64 (Va + 1)),(by first|rfl|(simp;done)|(simp [*];done)),H',⟨by have:=Rh.out;omega⟩,⟨by (with_reducible repeat (first|refine Aa ?_ _|refine Da ?_|refine Ba ?_ _));exact oa.out⟩,⟨by (with_reducible repeat (first|refine Aa ?_ _|refine Da ?_|refine Ba ?_ _));exact za.out⟩,⟨by repeat (first|(with_reducible first|exact HB.out|apply qa|apply ia|apply ta|refine ua ?_ Ra.out|refine ua ?_ yc.out)|exact HB.out)⟩⟩
     ·replace c8:=Bool.eq_false_iff.mpr c8;subst c8;have H1:(some false)=some r:=by rw [if_neg (show ¬ (false=true) by decide)] at H;exact H
      clear H;have H:=H1;clear H1;obtain rfl:=Option.some.inj H;have ear:=Lb.out;have yaq:=Mb.out;have uh:wr.cell? ⟨Ka,0,none⟩=some (.slice Df Sc.length jf):=(ga za.out 0).trans rfl;have th:wr.cell? ⟨Ka,1,none⟩=some (.int .i64 Wb):=(ga za.out 1).trans rfl;have qh:wr.cell? ⟨Ka,2,none⟩=some (.int .i64 Sb):=(ga za.out 2).trans rfl;have oh:wr.cell? ⟨Ka,3,none⟩=some (.int .i64 Tb):=(ga za.out 3).trans rfl;have nh:wr.cell? ⟨Ka,4,none⟩=some (.int .i64 fc):=(ga za.out 4).trans rfl;have bh:=aa za.out 0;have ah:=aa za.out 1;have Zg:=aa za.out 2;have Yg:=aa za.out 3;have Xg:=aa za.out 4
      try go_wp2
      have Eb:=ja.mk (Da oa.out);have Jb:=ja.mk (Da za.out);have Ub:=ja.mk (ta HB.out);clear oa za HB;have oa:=Eb;have za:=Jb;have HB:=Ub;clear Eb Jb Ub;have tK:0 ≤ (Va:Int):=Sa;have rK:Va < (Sc.length:Int):=Sa;obtain ⟨Zh,Z2,Ko,Jo,Io,Ho,Fo,Eo,Co⟩:=Xn mo.out Va tK rK;have Ox:=Co;have Px:=Eo;have Qx:=Fo;have Rx:=Ho;have Sx:=Io;have Tx:=Jo;have Ux:=Ko;cases Z2;replace Ko:=Qa HB.out Ko;replace Jo:=Qa HB.out Jo;replace Io:=Qa HB.out Io;replace Ho:=Qa HB.out Ho;replace Fo:=Qa HB.out Fo;replace Eo:=Qa HB.out Eo;replace Co:=Qa HB.out Co;replace tK:=eq_true tK;replace rK:=eq_true rK;refine Qm (n:=8) (S:=fun w'=>w'.cell? ⟨ya,0,none⟩=some (.slice Wa Oa.length Ya)∧w'.cell? ⟨ya,1,none⟩=some (.int .i64 Ja)∧w'.cell? ⟨ya,2,none⟩=some (.int .i64 Fa)∧w'.cell? ⟨ya,3,none⟩=some (.int .i64 Ia)∧w'.cell? ⟨ya,4,none⟩=some (.slice Ob Ca.length Cb)∧w'.cell? ⟨Ka,0,none⟩=some (.slice (some Zh) Sc.length jf)∧w'.cell? ⟨Ka,1,none⟩=some (.int .i64 Wb)∧w'.cell? ⟨Ka,2,none⟩=some (.int .i64 Sb)∧w'.cell? ⟨Ka,3,none⟩=some (.int .i64 Tb)∧w'.cell? ⟨Ka,4,none⟩=some (.int .i64 fc)∧w'.cell? (Zh.add ((Va).toNat * 7))=some (.int .i64 ((Ua Sc Va).f0))∧w'.cell? ⟨(Zh.add ((Va).toNat * 7)).block,(Zh.add ((Va).toNat * 7)).off + 1,none⟩=some (.int .i64 ((Ua Sc Va).f1))∧w'.cell? ⟨(Zh.add ((Va).toNat * 7)).block,(Zh.add ((Va).toNat * 7)).off + 2,none⟩=some (.int .i64 ((Ua Sc Va).f2))∧w'.cell? ⟨(Zh.add ((Va).toNat * 7)).block,(Zh.add ((Va).toNat * 7)).off + 3,none⟩=some (.int .i64 ((Ua Sc Va).f3))∧w'.cell? ⟨(Zh.add ((Va).toNat * 7)).block,(Zh.add ((Va).toNat * 7)).off + 4,none⟩=some (.int .i64 ((Ua Sc Va).f4))∧w'.cell? ⟨(Zh.add ((Va).toNat * 7)).block,(Zh.add ((Va).toNat * 7)).off + 5,none⟩=some (.int .i64 ((Ua Sc Va).f5))∧w'.cell? ⟨(Zh.add ((Va).toNat * 7)).block,(Zh.add ((Va).toNat * 7)).off + 6,none⟩=some (.string ((Ua Sc Va).f6))) (ds:=[]) #[false,false,false,false,false,false,false,false] (by kernel_rfl) rfl rfl ⟨(ga oa.out 0).trans rfl,(ga oa.out 1).trans rfl,(ga oa.out 2).trans rfl,(ga oa.out 3).trans rfl,(ga oa.out 4).trans rfl,(ga za.out 0).trans rfl,(ga za.out 1).trans rfl,(ga za.out 2).trans rfl,(ga za.out 3).trans rfl,(ga za.out 4).trans rfl,(Qa HB.out Ux),(Qa HB.out Tx),(Qa HB.out Sx),(Qa HB.out Rx),(Qa HB.out Qx),(Qa HB.out Px),(Qa HB.out Ox)⟩ (fun hHeld=>?_);refine Dj oc.B7 oc.tZ (fun dg Tv=>?_);generalize wr.drew=ou at oa za HB Ko Jo Io Ho Fo Eo Co hHeld ⊢;refine zd (i:=1) (N:=some 16) (v:=?_) (a':=?_) #[false,true,false,false,false,false,false,false] rfl rfl (Xc dg.out (by kernel_rfl)) (fun _ _ _ h=>h) (Or.inl ⟨by rfl,?_⟩) ?_ ?_;rotate_left
      ·intro w';go_simp;with_reducible rfl
      rotate_left
      ·simp only [Act.put,List.setIfInBounds_toArray,List.set_cons_zero,List.set_cons_succ,ic,jc]
       rfl
      refine zd (i:=3) (N:=some 18) (v:=?_) (a':=?_) #[false,true,false,true,false,false,false,false] rfl rfl (Xc dg.out (by kernel_rfl)) (fun _ _ _ h=>h) (Or.inl ⟨by rfl,?_⟩) ?_ ?_;rotate_left
      ·intro w';go_simp;with_reducible rfl
      rotate_left
      ·simp only [Act.put,List.setIfInBounds_toArray,List.set_cons_zero,List.set_cons_succ,ic,jc]
       rfl
      refine Fh (i:=0) (N:=some 15) (v:=?_) (a':=?_) #[true,true,false,true,false,false,false,false] rfl rfl (uf dg.out Tv.out (by kernel_rfl)) (fun _ _ _ h=>h) (Or.inl ⟨by rfl,?_⟩) hHeld ?_ ?_;rotate_left
      ·rintro w' ⟨s0,s1,s2,s3,s4,s5,s6,s7,s8,s9,sM,rM,qM,MU,L7,K7,J7⟩;go_simp;with_reducible rfl
      rotate_left
      ·simp only [Act.put,List.setIfInBounds_toArray,List.set_cons_zero,List.set_cons_succ,ic,jc]
       rfl
      refine Fh (i:=2) (N:=some 17) (v:=?_) (a':=?_) #[true,true,true,true,false,false,false,false] rfl rfl (uf dg.out Tv.out (by kernel_rfl)) (fun _ _ _ h=>h) (Or.inl ⟨by rfl,?_⟩) hHeld ?_ ?_;rotate_left
      ·rintro w' ⟨s0,s1,s2,s3,s4,s5,s6,s7,s8,s9,sM,rM,qM,MU,L7,K7,J7⟩;go_simp;with_reducible rfl
      rotate_left
      ·simp only [Act.put,List.setIfInBounds_toArray,List.set_cons_zero,List.set_cons_succ,ic,jc]
       rfl
      refine zd (i:=4) (N:=some 19) (v:=?_) (a':=?_) #[true,true,true,true,true,false,false,false] rfl rfl (Xc dg.out (by kernel_rfl)) (fun _ _ _ h=>h) (Or.inl ⟨by rfl,?_⟩) ?_ ?_;rotate_left
      ·intro w';go_simp;with_reducible rfl
      rotate_left
      ·simp only [Act.put,List.setIfInBounds_toArray,List.set_cons_zero,List.set_cons_succ,ic,jc]
       rfl
      refine Fh (i:=5) (N:=some 20) (v:=?_) (a':=?_) #[true,true,true,true,true,true,false,false] rfl rfl (uf dg.out Tv.out (by kernel_rfl)) (fun _ _ _ h=>h) (Or.inl ⟨by rfl,?_⟩) hHeld ?_ ?_;rotate_left
      ·rintro w' ⟨s0,s1,s2,s3,s4,s5,s6,s7,s8,s9,sM,rM,qM,MU,L7,K7,J7⟩;go_simp;with_reducible rfl
      rotate_left
      ·simp only [Act.put,List.setIfInBounds_toArray,List.set_cons_zero,List.set_cons_succ,ic,jc]
       rfl
      refine Jw (i:=6) (N:=some 21) #[true,true,true,true,true,true,true,false] rfl rfl (Ts dg.out (by kernel_rfl)) (by decide) (fun K hK=>?_);refine eu Try.func97 (by kernel_rfl) rfl #[.agg #[.slice Wa Oa.length Ya,.int .i64 Ja,.int .i64 Fa,.int .i64 Ia,.slice Ob Ca.length Cb],.agg #[.int .i64 ((Ua Sc Va).f0),.int .i64 ((Ua Sc Va).f1),.int .i64 ((Ua Sc Va).f2),.int .i64 ((Ua Sc Va).f3),.int .i64 ((Ua Sc Va).f4),.int .i64 ((Ua Sc Va).f5),.string ((Ua Sc Va).f6)]] (by rfl) rfl rfl (by (try simp only [List.map_toArray,List.map_cons,List.map_nil]);first|done|rfl|(simp only [List.length_drop,List.length_take];rfl)) ?_;with_reducible refine (jb.calls k1 _ _ Oa Ja Fa Ia _ _ Ca ((Ua Sc Va).f0) ((Ua Sc Va).f1) ((Ua Sc Va).f2) ((Ua Sc Va).f3) ((Ua Sc Va).f4) ((Ua Sc Va).f5) ((Ua Sc Va).f6) false _ ?dc ?Zb ?Rc ?Qc A7.out).mono ?_
      (case dc=>repeat (first|exact (Kd.Db Md.out HB.out)|(with_reducible refine Kd.Bb ?_ _)|(with_reducible refine Kd.Ab ?_ _)|(with_reducible refine Kd.Qb ?_)))
      (case Zb=>exact Rd.out)
      (case Rc=>repeat (first|exact (Kd.Db Ce.out HB.out)|(with_reducible refine Kd.Bb ?_ _)|(with_reducible refine Kd.Ab ?_ _)|(with_reducible refine Kd.Qb ?_)))
      (case Qc=>exact Ff.out)
      rintro e Pz ⟨rfl,hb⟩;refine ⟨_,rfl,?_⟩;have Eb:=ja.mk (Ta (g:=ya) (o:=.cells #[.slice Wa Oa.length Ya,.int .i64 Ja,.int .i64 Fa,.int .i64 Ia,.slice Ob Ca.length Cb] 30 (0,0)) (by (with_reducible repeat (first|refine Aa ?_ _|refine Da ?_|refine Ba ?_ _));exact oa.out) hb);have Jb:=ja.mk (Ta (g:=Ka) (o:=.cells #[.slice (some Zh) Sc.length jf,.int .i64 Wb,.int .i64 Sb,.int .i64 Tb,.int .i64 fc] 59 (0,0)) (by (with_reducible repeat (first|refine Aa ?_ _|refine Da ?_|refine Ba ?_ _));exact za.out) hb);have Ub:=ja.mk (Na (by repeat (first|(with_reducible first|exact HB.out|apply qa|apply ia|apply ta|refine ua ?_ Ra.out|refine ua ?_ yc.out)|exact HB.out)) hb);clear oa za HB;have oa:=Eb;have za:=Jb;have HB:=Ub;clear Eb Jb Ub;(try clear hb);(try clear ni);(try clear hk);(try clear hi);refine hK.out _ _ ⟨(ga oa.out 0).trans rfl,(ga oa.out 1).trans rfl,(ga oa.out 2).trans rfl,(ga oa.out 3).trans rfl,(ga oa.out 4).trans rfl,(ga za.out 0).trans rfl,(ga za.out 1).trans rfl,(ga za.out 2).trans rfl,(ga za.out 3).trans rfl,(ga za.out 4).trans rfl,(Qa HB.out Ux),(Qa HB.out Tx),(Qa HB.out Sx),(Qa HB.out Rx),(Qa HB.out Qx),(Qa HB.out Px),(Qa HB.out Ox)⟩ (fun hHeld=>?_);clear hK K;refine yp (a':=?_) ?_ ?_;rotate_left
      ·show Act.put _ (some 21) _=_
       simp only [Act.put,List.setIfInBounds_toArray,List.set_cons_zero,List.set_cons_succ,ic,jc]
       rfl
      refine zd (i:=7) (N:=some 22) (v:=?_) (a':=?_) #[true,true,true,true,true,true,true,true] rfl rfl (Xc dg.out (by kernel_rfl)) (fun _ _ _ h=>h) (Or.inl ⟨by rfl,?_⟩) ?_ ?_;rotate_left
      ·intro w';go_simp;with_reducible rfl
      rotate_left
      ·simp only [Act.put,List.setIfInBounds_toArray,List.set_cons_zero,List.set_cons_succ,ic,jc]
       rfl
      refine Sr (sn dg.out (by kernel_rfl)) ?_
      try go_wp2
      go_ret;exact ⟨by first|rfl|(simp [Ma,La] <;> rfl)|(simp [*,Ma,La] <;> rfl),by repeat (first|(with_reducible first|exact HB.out|apply qa|apply ia|apply ta|refine ua ?_ Ra.out|refine ua ?_ yc.out)|exact HB.out)⟩
    ·rw [if_neg c6] at H;exact absurd H (by simp)
   ·rw [if_neg c5] at H;have ak:decide (Va < (Sc.length:Int))=false:=decide_eq_false c5;clear c5;replace H:=Option.bind_eq_some_iff.mp H;obtain ⟨t105,gU,H⟩:=H;replace H:((Za.f Sb 0 (wrap64 (Ia - 1))).bind fun t106=>(if Wb=0 then (if t105=true then (if Sb=0 then (some (fc == 0)) else (some false)) else (some false)) else (if Wb=1 then (if t105=true then (if t106=true then ((Za.f fc 0 (wrap64 ((Ca.length:Int) - 1))).bind fun t107=>(some t107)) else (some false)) else (some false)) else (if Wb=2 then (if t106=true then (if Tb=0 then (some (fc == 0)) else (some false)) else (some false)) else (some false)))))=some r:=H;have pR:=ja.mk gU;clear gU;replace H:=Option.bind_eq_some_iff.mp H;obtain ⟨t106,TJ,H⟩:=H;replace H:(if Wb=0 then (if t105=true then (if Sb=0 then (some (fc == 0)) else (some false)) else (some false)) else (if Wb=1 then (if t105=true then (if t106=true then ((Za.f fc 0 (wrap64 ((Ca.length:Int) - 1))).bind fun t107=>(some t107)) else (some false)) else (some false)) else (if Wb=2 then (if t106=true then (if Tb=0 then (some (fc == 0)) else (some false)) else (some false)) else (some false))))=some r:=H;have rI:=ja.mk TJ;clear TJ
    by_cases Xk:Wb=0
    ·rw [if_pos Xk] at H;have fu:(Wb == 0)=true:=beq_iff_eq.mpr Xk;have iT:(Wb != 0)=false:=bne_eq_false_iff_eq.mpr Xk;clear Xk
     by_cases Mn:t105=true
     ·subst Mn;have H1:(if Sb=0 then (some (fc == 0)) else (some false))=some r:=by rw [if_pos rfl] at H;exact H
      clear H;have H:=H1;clear H1
      by_cases Vr:Sb=0
      ·rw [if_pos Vr] at H;have yJ:(Sb == 0)=true:=beq_iff_eq.mpr Vr;have fac:(Sb != 0)=false:=bne_eq_false_iff_eq.mpr Vr;clear Vr;obtain rfl:=Option.some.inj H;have F8:=Lb.out;have n8:=Mb.out;have Wq:wr.cell? ⟨Ka,0,none⟩=some (.slice Df Sc.length jf):=(ga za.out 0).trans rfl;have Vq:wr.cell? ⟨Ka,1,none⟩=some (.int .i64 Wb):=(ga za.out 1).trans rfl;have Uq:wr.cell? ⟨Ka,2,none⟩=some (.int .i64 Sb):=(ga za.out 2).trans rfl;have Tq:wr.cell? ⟨Ka,3,none⟩=some (.int .i64 Tb):=(ga za.out 3).trans rfl;have Rq:wr.cell? ⟨Ka,4,none⟩=some (.int .i64 fc):=(ga za.out 4).trans rfl;have zq:=aa za.out 0;have yq:=aa za.out 1;have xq:=aa za.out 2;have wq:=aa za.out 3;have vq:=aa za.out 4;have Qq:wr.cell? ⟨ya,0,none⟩=some (.slice Wa Oa.length Ya):=(ga oa.out 0).trans rfl;have Pq:wr.cell? ⟨ya,1,none⟩=some (.int .i64 Ja):=(ga oa.out 1).trans rfl;have Oq:wr.cell? ⟨ya,2,none⟩=some (.int .i64 Fa):=(ga oa.out 2).trans rfl;have Nq:wr.cell? ⟨ya,3,none⟩=some (.int .i64 Ia):=(ga oa.out 3).trans rfl;have Mq:wr.cell? ⟨ya,4,none⟩=some (.slice Ob Ca.length Cb):=(ga oa.out 4).trans rfl;have uq:=aa oa.out 0;have tq:=aa oa.out 1;have rq:=aa oa.out 2;have qq:=aa oa.out 3;have oq:=aa oa.out 4;go_wp2_with (first|((with_reducible refine mb (f:=53) rfl ?_);refine Mc (some 29) rfl rfl Try.func53 (by kernel_rfl) rfl #[.int .i64 Tb,.int .i64 0,.int .i64 (wrap64 ((Ca.length:Int) - 1))] rfl (by (try simp only [List.map_toArray,List.map_cons,List.map_nil]);first|done|rfl|(simp only [List.length_drop,List.length_take];rfl)) ?_;(with_reducible refine (Za.calls Tb 0 (wrap64 ((Ca.length:Int) - 1)) true _ pR.out).mono ?_);rintro e w' ⟨rfl,⟨nd,rfl⟩⟩;refine ⟨_,rfl,?_⟩)|((with_reducible refine mb (f:=53) rfl ?_);refine Mc (some 35) rfl rfl Try.func53 (by kernel_rfl) rfl #[.int .i64 Sb,.int .i64 0,.int .i64 (wrap64 (Ia - 1))] rfl (by (try simp only [List.map_toArray,List.map_cons,List.map_nil]);first|done|rfl|(simp only [List.length_drop,List.length_take];rfl)) ?_;(with_reducible refine (Za.calls Sb 0 (wrap64 (Ia - 1)) t106 _ rI.out).mono ?_);rintro e w' ⟨rfl,⟨nd,rfl⟩⟩;refine ⟨_,rfl,?_⟩));go_ret;exact ⟨by first|rfl|(simp [Ma,La] <;> rfl)|(simp [*,Ma,La] <;> rfl),by repeat (first|(with_reducible first|exact HB.out|apply qa|apply ia|apply ta|refine ua ?_ Ra.out|refine ua ?_ yc.out)|exact HB.out)⟩
      ·rw [if_neg Vr] at H;have yJ:(Sb == 0)=false:=beq_eq_false_iff_ne.mpr Vr;have fac:(Sb != 0)=true:=bne_iff_ne.mpr Vr;obtain rfl:=Option.some.inj H;have D8:=Lb.out;have l8:=Mb.out;have Ht:wr.cell? ⟨Ka,0,none⟩=some (.slice Df Sc.length jf):=(ga za.out 0).trans rfl;have Gt:wr.cell? ⟨Ka,1,none⟩=some (.int .i64 Wb):=(ga za.out 1).trans rfl;have Ft:wr.cell? ⟨Ka,2,none⟩=some (.int .i64 Sb):=(ga za.out 2).trans rfl;have Et:wr.cell? ⟨Ka,3,none⟩=some (.int .i64 Tb):=(ga za.out 3).trans rfl;have Dt:wr.cell? ⟨Ka,4,none⟩=some (.int .i64 fc):=(ga za.out 4).trans rfl;have jt:=aa za.out 0;have ct:=aa za.out 1;have bt:=aa za.out 2;have Zs:=aa za.out 3;have Ys:=aa za.out 4;have Fv:wr.cell? ⟨ya,0,none⟩=some (.slice Wa Oa.length Ya):=(ga oa.out 0).trans rfl;have Dv:wr.cell? ⟨ya,1,none⟩=some (.int .i64 Ja):=(ga oa.out 1).trans rfl;have Cv:wr.cell? ⟨ya,2,none⟩=some (.int .i64 Fa):=(ga oa.out 2).trans rfl;have Bv:wr.cell? ⟨ya,3,none⟩=some (.int .i64 Ia):=(ga oa.out 3).trans rfl;have Av:wr.cell? ⟨ya,4,none⟩=some (.slice Ob Ca.length Cb):=(ga oa.out 4).trans rfl;have cv:=aa oa.out 0;have av:=aa oa.out 1;have Zu:=aa oa.out 2;have Yu:=aa oa.out 3;have Xu:=aa oa.out 4;go_wp2_with (first|((with_reducible refine mb (f:=53) rfl ?_);refine Mc (some 29) rfl rfl Try.func53 (by kernel_rfl) rfl #[.int .i64 Tb,.int .i64 0,.int .i64 (wrap64 ((Ca.length:Int) - 1))] rfl (by (try simp only [List.map_toArray,List.map_cons,List.map_nil]);first|done|rfl|(simp only [List.length_drop,List.length_take];rfl)) ?_;(with_reducible refine (Za.calls Tb 0 (wrap64 ((Ca.length:Int) - 1)) true _ pR.out).mono ?_);rintro e w' ⟨rfl,⟨nd,rfl⟩⟩;refine ⟨_,rfl,?_⟩)|((with_reducible refine mb (f:=53) rfl ?_);refine Mc (some 35) rfl rfl Try.func53 (by kernel_rfl) rfl #[.int .i64 Sb,.int .i64 0,.int .i64 (wrap64 (Ia - 1))] rfl (by (try simp only [List.map_toArray,List.map_cons,List.map_nil]);first|done|rfl|(simp only [List.length_drop,List.length_take];rfl)) ?_;(with_reducible refine (Za.calls Sb 0 (wrap64 (Ia - 1)) t106 _ rI.out).mono ?_);rintro e w' ⟨rfl,⟨nd,rfl⟩⟩;refine ⟨_,rfl,?_⟩));go_ret;exact ⟨by first|rfl|(simp [Ma,La] <;> rfl)|(simp [*,Ma,La] <;> rfl),by repeat (first|(with_reducible first|exact HB.out|apply qa|apply ia|apply ta|refine ua ?_ Ra.out|refine ua ?_ yc.out)|exact HB.out)⟩
     ·replace Mn:=Bool.eq_false_iff.mpr Mn;subst Mn;have H1:(some false)=some r:=by rw [if_neg (show ¬ (false=true) by decide)] at H;exact H
      clear H;have H:=H1;clear H1;obtain rfl:=Option.some.inj H;have Zaq:=Lb.out;have taq:=Mb.out;have cC:wr.cell? ⟨Ka,0,none⟩=some (.slice Df Sc.length jf):=(ga za.out 0).trans rfl;have bC:wr.cell? ⟨Ka,1,none⟩=some (.int .i64 Wb):=(ga za.out 1).trans rfl;have aC:wr.cell? ⟨Ka,2,none⟩=some (.int .i64 Sb):=(ga za.out 2).trans rfl;have ZB:wr.cell? ⟨Ka,3,none⟩=some (.int .i64 Tb):=(ga za.out 3).trans rfl;have YB:wr.cell? ⟨Ka,4,none⟩=some (.int .i64 fc):=(ga za.out 4).trans rfl;have CB:=aa za.out 0;have BB:=aa za.out 1;have AB:=aa za.out 2;have zB:=aa za.out 3;have yB:=aa za.out 4;have fX:wr.cell? ⟨ya,0,none⟩=some (.slice Wa Oa.length Ya):=(ga oa.out 0).trans rfl;have eX:wr.cell? ⟨ya,1,none⟩=some (.int .i64 Ja):=(ga oa.out 1).trans rfl;have dX:wr.cell? ⟨ya,2,none⟩=some (.int .i64 Fa):=(ga oa.out 2).trans rfl;have bX:wr.cell? ⟨ya,3,none⟩=some (.int .i64 Ia):=(ga oa.out 3).trans rfl;have aX:wr.cell? ⟨ya,4,none⟩=some (.slice Ob Ca.length Cb):=(ga oa.out 4).trans rfl;have XV:=aa oa.out 0;have WV:=aa oa.out 1;have VV:=aa oa.out 2;have TV:=aa oa.out 3;have SV:=aa oa.out 4;go_wp2_with (first|((with_reducible refine mb (f:=53) rfl ?_);refine Mc (some 29) rfl rfl Try.func53 (by kernel_rfl) rfl #[.int .i64 Tb,.int .i64 0,.int .i64 (wrap64 ((Ca.length:Int) - 1))] rfl (by (try simp only [List.map_toArray,List.map_cons,List.map_nil]);first|done|rfl|(simp only [List.length_drop,List.length_take];rfl)) ?_;(with_reducible refine (Za.calls Tb 0 (wrap64 ((Ca.length:Int) - 1)) false _ pR.out).mono ?_);rintro e w' ⟨rfl,⟨nd,rfl⟩⟩;refine ⟨_,rfl,?_⟩)|((with_reducible refine mb (f:=53) rfl ?_);refine Mc (some 35) rfl rfl Try.func53 (by kernel_rfl) rfl #[.int .i64 Sb,.int .i64 0,.int .i64 (wrap64 (Ia - 1))] rfl (by (try simp only [List.map_toArray,List.map_cons,List.map_nil]);first|done|rfl|(simp only [List.length_drop,List.length_take];rfl)) ?_;(with_reducible refine (Za.calls Sb 0 (wrap64 (Ia - 1)) t106 _ rI.out).mono ?_);rintro e w' ⟨rfl,⟨nd,rfl⟩⟩;refine ⟨_,rfl,?_⟩));go_ret;exact ⟨by first|rfl|(simp [Ma,La] <;> rfl)|(simp [*,Ma,La] <;> rfl),by repeat (first|(with_reducible first|exact HB.out|apply qa|apply ia|apply ta|refine ua ?_ Ra.out|refine ua ?_ yc.out)|exact HB.out)⟩
    ·rw [if_neg Xk] at H;have fu:(Wb == 0)=false:=beq_eq_false_iff_ne.mpr Xk;have iT:(Wb != 0)=true:=bne_iff_ne.mpr Xk
     by_cases SQ:Wb=1
     ·rw [if_pos SQ] at H;have lZ:(Wb == 1)=true:=beq_iff_eq.mpr SQ;have bac:(Wb != 1)=false:=bne_eq_false_iff_eq.mpr SQ;clear SQ
      by_cases lR:t105=true
      ·subst lR;have H1:(if t106=true then ((Za.f fc 0 (wrap64 ((Ca.length:Int) - 1))).bind fun t107=>(some t107)) else (some false))=some r:=by rw [if_pos rfl] at H;exact H
       clear H;have H:=H1;clear H1
       by_cases kR:t106=true
       ·subst kR;have H1:((Za.f fc 0 (wrap64 ((Ca.length:Int) - 1))).bind fun t107=>(some t107))=some r:=by rw [if_pos rfl] at H;exact H
        clear H;have H:=H1;clear H1;replace H:=Option.bind_eq_some_iff.mp H;obtain ⟨t107,Jad,H⟩:=H;replace H:(some t107)=some r:=H;have A34:=ja.mk Jad;clear Jad;obtain rfl:=Option.some.inj H;have z8:=Lb.out;have b8:=Mb.out;have yH:wr.cell? ⟨Ka,0,none⟩=some (.slice Df Sc.length jf):=(ga za.out 0).trans rfl;have xH:wr.cell? ⟨Ka,1,none⟩=some (.int .i64 Wb):=(ga za.out 1).trans rfl;have wH:wr.cell? ⟨Ka,2,none⟩=some (.int .i64 Sb):=(ga za.out 2).trans rfl;have vH:wr.cell? ⟨Ka,3,none⟩=some (.int .i64 Tb):=(ga za.out 3).trans rfl;have uH:wr.cell? ⟨Ka,4,none⟩=some (.int .i64 fc):=(ga za.out 4).trans rfl;have xG:=aa za.out 0;have wG:=aa za.out 1;have vG:=aa za.out 2;have uG:=aa za.out 3;have tG:=aa za.out 4;have vO:wr.cell? ⟨ya,0,none⟩=some (.slice Wa Oa.length Ya):=(ga oa.out 0).trans rfl;have uO:wr.cell? ⟨ya,1,none⟩=some (.int .i64 Ja):=(ga oa.out 1).trans rfl;have tO:wr.cell? ⟨ya,2,none⟩=some (.int .i64 Fa):=(ga oa.out 2).trans rfl;have sO:wr.cell? ⟨ya,3,none⟩=some (.int .i64 Ia):=(ga oa.out 3).trans rfl;have rO:wr.cell? ⟨ya,4,none⟩=some (.slice Ob Ca.length Cb):=(ga oa.out 4).trans rfl;have xN:=aa oa.out 0;have wN:=aa oa.out 1;have vN:=aa oa.out 2;have uN:=aa oa.out 3;have tN:=aa oa.out 4;go_wp2_with (first|((with_reducible refine mb (f:=53) rfl ?_);refine Mc (some 29) rfl rfl Try.func53 (by kernel_rfl) rfl #[.int .i64 Tb,.int .i64 0,.int .i64 (wrap64 ((Ca.length:Int) - 1))] rfl (by (try simp only [List.map_toArray,List.map_cons,List.map_nil]);first|done|rfl|(simp only [List.length_drop,List.length_take];rfl)) ?_;(with_reducible refine (Za.calls Tb 0 (wrap64 ((Ca.length:Int) - 1)) true _ pR.out).mono ?_);rintro e w' ⟨rfl,⟨nd,rfl⟩⟩;refine ⟨_,rfl,?_⟩)|((with_reducible refine mb (f:=53) rfl ?_);refine Mc (some 35) rfl rfl Try.func53 (by kernel_rfl) rfl #[.int .i64 Sb,.int .i64 0,.int .i64 (wrap64 (Ia - 1))] rfl (by (try simp only [List.map_toArray,List.map_cons,List.map_nil]);first|done|rfl|(simp only [List.length_drop,List.length_take];rfl)) ?_;(with_reducible refine (Za.calls Sb 0 (wrap64 (Ia - 1)) true _ rI.out).mono ?_);rintro e w' ⟨rfl,⟨nd,rfl⟩⟩;refine ⟨_,rfl,?_⟩)|(go_at_call 53;(with_reducible refine (Za.calls fc 0 (wrap64 ((Ca.length:Int) - 1)) t107 _ A34.out).mono ?_);rintro e w' ⟨rfl,⟨nd,rfl⟩⟩));go_ret;exact ⟨by first|rfl|(simp [Ma,La] <;> rfl)|(simp [*,Ma,La] <;> rfl),by repeat (first|(with_reducible first|exact HB.out|apply qa|apply ia|apply ta|refine ua ?_ Ra.out|refine ua ?_ yc.out)|exact HB.out)⟩
       ·replace kR:=Bool.eq_false_iff.mpr kR;subst kR;have H1:(some false)=some r:=by rw [if_neg (show ¬ (false=true) by decide)] at H;exact H
        clear H;have H:=H1;clear H1;obtain rfl:=Option.some.inj H;have Saq:=Lb.out;have maq:=Mb.out;have tH:wr.cell? ⟨Ka,0,none⟩=some (.slice Df Sc.length jf):=(ga za.out 0).trans rfl;have sH:wr.cell? ⟨Ka,1,none⟩=some (.int .i64 Wb):=(ga za.out 1).trans rfl;have rH:wr.cell? ⟨Ka,2,none⟩=some (.int .i64 Sb):=(ga za.out 2).trans rfl;have qH:wr.cell? ⟨Ka,3,none⟩=some (.int .i64 Tb):=(ga za.out 3).trans rfl;have pH:wr.cell? ⟨Ka,4,none⟩=some (.int .i64 fc):=(ga za.out 4).trans rfl;have sG:=aa za.out 0;have rG:=aa za.out 1;have qG:=aa za.out 2;have pG:=aa za.out 3;have oG:=aa za.out 4;have Xy:wr.cell? ⟨ya,0,none⟩=some (.slice Wa Oa.length Ya):=(ga oa.out 0).trans rfl;have Wy:wr.cell? ⟨ya,1,none⟩=some (.int .i64 Ja):=(ga oa.out 1).trans rfl;have Vy:wr.cell? ⟨ya,2,none⟩=some (.int .i64 Fa):=(ga oa.out 2).trans rfl;have Uy:wr.cell? ⟨ya,3,none⟩=some (.int .i64 Ia):=(ga oa.out 3).trans rfl;have Ty:wr.cell? ⟨ya,4,none⟩=some (.slice Ob Ca.length Cb):=(ga oa.out 4).trans rfl;have zy:=aa oa.out 0;have yy:=aa oa.out 1;have xy:=aa oa.out 2;have uy:=aa oa.out 3;have sy:=aa oa.out 4;go_wp2_with (first|((with_reducible refine mb (f:=53) rfl ?_);refine Mc (some 29) rfl rfl Try.func53 (by kernel_rfl) rfl #[.int .i64 Tb,.int .i64 0,.int .i64 (wrap64 ((Ca.length:Int) - 1))] rfl (by (try simp only [List.map_toArray,List.map_cons,List.map_nil]);first|done|rfl|(simp only [List.length_drop,List.length_take];rfl)) ?_;(with_reducible refine (Za.calls Tb 0 (wrap64 ((Ca.length:Int) - 1)) true _ pR.out).mono ?_);rintro e w' ⟨rfl,⟨nd,rfl⟩⟩;refine ⟨_,rfl,?_⟩)|((with_reducible refine mb (f:=53) rfl ?_);refine Mc (some 35) rfl rfl Try.func53 (by kernel_rfl) rfl #[.int .i64 Sb,.int .i64 0,.int .i64 (wrap64 (Ia - 1))] rfl (by (try simp only [List.map_toArray,List.map_cons,List.map_nil]);first|done|rfl|(simp only [List.length_drop,List.length_take];rfl)) ?_;(with_reducible refine (Za.calls Sb 0 (wrap64 (Ia - 1)) false _ rI.out).mono ?_);rintro e w' ⟨rfl,⟨nd,rfl⟩⟩;refine ⟨_,rfl,?_⟩));go_ret;exact ⟨by first|rfl|(simp [Ma,La] <;> rfl)|(simp [*,Ma,La] <;> rfl),by repeat (first|(with_reducible first|exact HB.out|apply qa|apply ia|apply ta|refine ua ?_ Ra.out|refine ua ?_ yc.out)|exact HB.out)⟩
      ·replace lR:=Bool.eq_false_iff.mpr lR;subst lR;have H1:(some false)=some r:=by rw [if_neg (show ¬ (false=true) by decide)] at H;exact H
       clear H;have H:=H1;clear H1;obtain rfl:=Option.some.inj H;have r8:=Lb.out;have Y7:=Mb.out;have jH:wr.cell? ⟨Ka,0,none⟩=some (.slice Df Sc.length jf):=(ga za.out 0).trans rfl;have iH:wr.cell? ⟨Ka,1,none⟩=some (.int .i64 Wb):=(ga za.out 1).trans rfl;have gH:wr.cell? ⟨Ka,2,none⟩=some (.int .i64 Sb):=(ga za.out 2).trans rfl;have fH:wr.cell? ⟨Ka,3,none⟩=some (.int .i64 Tb):=(ga za.out 3).trans rfl;have eH:wr.cell? ⟨Ka,4,none⟩=some (.int .i64 fc):=(ga za.out 4).trans rfl;have iG:=aa za.out 0;have gG:=aa za.out 1;have fG:=aa za.out 2;have eG:=aa za.out 3;have dG:=aa za.out 4;have kO:wr.cell? ⟨ya,0,none⟩=some (.slice Wa Oa.length Ya):=(ga oa.out 0).trans rfl;have jO:wr.cell? ⟨ya,1,none⟩=some (.int .i64 Ja):=(ga oa.out 1).trans rfl;have iO:wr.cell? ⟨ya,2,none⟩=some (.int .i64 Fa):=(ga oa.out 2).trans rfl;have gO:wr.cell? ⟨ya,3,none⟩=some (.int .i64 Ia):=(ga oa.out 3).trans rfl;have fO:wr.cell? ⟨ya,4,none⟩=some (.slice Ob Ca.length Cb):=(ga oa.out 4).trans rfl;have mN:=aa oa.out 0;have lN:=aa oa.out 1;have kN:=aa oa.out 2;have jN:=aa oa.out 3;have iN:=aa oa.out 4;go_wp2_with (first|((with_reducible refine mb (f:=53) rfl ?_);refine Mc (some 29) rfl rfl Try.func53 (by kernel_rfl) rfl #[.int .i64 Tb,.int .i64 0,.int .i64 (wrap64 ((Ca.length:Int) - 1))] rfl (by (try simp only [List.map_toArray,List.map_cons,List.map_nil]);first|done|rfl|(simp only [List.length_drop,List.length_take];rfl)) ?_;(with_reducible refine (Za.calls Tb 0 (wrap64 ((Ca.length:Int) - 1)) false _ pR.out).mono ?_);rintro e w' ⟨rfl,⟨nd,rfl⟩⟩;refine ⟨_,rfl,?_⟩)|((with_reducible refine mb (f:=53) rfl ?_);refine Mc (some 35) rfl rfl Try.func53 (by kernel_rfl) rfl #[.int .i64 Sb,.int .i64 0,.int .i64 (wrap64 (Ia - 1))] rfl (by (try simp only [List.map_toArray,List.map_cons,List.map_nil]);first|done|rfl|(simp only [List.length_drop,List.length_take];rfl)) ?_;(with_reducible refine (Za.calls Sb 0 (wrap64 (Ia - 1)) t106 _ rI.out).mono ?_);rintro e w' ⟨rfl,⟨nd,rfl⟩⟩;refine ⟨_,rfl,?_⟩));go_ret;exact ⟨by first|rfl|(simp [Ma,La] <;> rfl)|(simp [*,Ma,La] <;> rfl),by repeat (first|(with_reducible first|exact HB.out|apply qa|apply ia|apply ta|refine ua ?_ Ra.out|refine ua ?_ yc.out)|exact HB.out)⟩
     ·rw [if_neg SQ] at H;have lZ:(Wb == 1)=false:=beq_eq_false_iff_ne.mpr SQ;have bac:(Wb != 1)=true:=bne_iff_ne.mpr SQ
      by_cases IL:Wb=2
      ·rw [if_pos IL] at H;have eT:(Wb == 2)=true:=beq_iff_eq.mpr IL;have bT:(Wb != 2)=false:=bne_eq_false_iff_eq.mpr IL;clear IL
       by_cases OX:t106=true
       ·subst OX;have H1:(if Tb=0 then (some (fc == 0)) else (some false))=some r:=by rw [if_pos rfl] at H;exact H
        clear H;have H:=H1;clear H1
        by_cases HL:Tb=0
        ·rw [if_pos HL] at H;have aT:(Tb == 0)=true:=beq_iff_eq.mpr HL;have ZS:(Tb != 0)=false:=bne_eq_false_iff_eq.mpr HL;clear HL;obtain rfl:=Option.some.inj H;have PY:=Lb.out;have MY:=Mb.out;have YG:wr.cell? ⟨Ka,0,none⟩=some (.slice Df Sc.length jf):=(ga za.out 0).trans rfl;have XG:wr.cell? ⟨Ka,1,none⟩=some (.int .i64 Wb):=(ga za.out 1).trans rfl;have WG:wr.cell? ⟨Ka,2,none⟩=some (.int .i64 Sb):=(ga za.out 2).trans rfl;have VG:wr.cell? ⟨Ka,3,none⟩=some (.int .i64 Tb):=(ga za.out 3).trans rfl;have UG:wr.cell? ⟨Ka,4,none⟩=some (.int .i64 fc):=(ga za.out 4).trans rfl;have XF:=aa za.out 0;have VF:=aa za.out 1;have UF:=aa za.out 2;have TF:=aa za.out 3;have SF:=aa za.out 4;have MW:wr.cell? ⟨ya,0,none⟩=some (.slice Wa Oa.length Ya):=(ga oa.out 0).trans rfl;have LW:wr.cell? ⟨ya,1,none⟩=some (.int .i64 Ja):=(ga oa.out 1).trans rfl;have KW:wr.cell? ⟨ya,2,none⟩=some (.int .i64 Fa):=(ga oa.out 2).trans rfl;have JW:wr.cell? ⟨ya,3,none⟩=some (.int .i64 Ia):=(ga oa.out 3).trans rfl;have IW:wr.cell? ⟨ya,4,none⟩=some (.slice Ob Ca.length Cb):=(ga oa.out 4).trans rfl;have DV:=aa oa.out 0;have CV:=aa oa.out 1;have BV:=aa oa.out 2;have AV:=aa oa.out 3;have zV:=aa oa.out 4;go_wp2_with (first|((with_reducible refine mb (f:=53) rfl ?_);refine Mc (some 29) rfl rfl Try.func53 (by kernel_rfl) rfl #[.int .i64 Tb,.int .i64 0,.int .i64 (wrap64 ((Ca.length:Int) - 1))] rfl (by (try simp only [List.map_toArray,List.map_cons,List.map_nil]);first|done|rfl|(simp only [List.length_drop,List.length_take];rfl)) ?_;(with_reducible refine (Za.calls Tb 0 (wrap64 ((Ca.length:Int) - 1)) t105 _ pR.out).mono ?_);rintro e w' ⟨rfl,⟨nd,rfl⟩⟩;refine ⟨_,rfl,?_⟩)|((with_reducible refine mb (f:=53) rfl ?_);refine Mc (some 35) rfl rfl Try.func53 (by kernel_rfl) rfl #[.int .i64 Sb,.int .i64 0,.int .i64 (wrap64 (Ia - 1))] rfl (by (try simp only [List.map_toArray,List.map_cons,List.map_nil]);first|done|rfl|(simp only [List.length_drop,List.length_take];rfl)) ?_;(with_reducible refine (Za.calls Sb 0 (wrap64 (Ia - 1)) true _ rI.out).mono ?_);rintro e w' ⟨rfl,⟨nd,rfl⟩⟩;refine ⟨_,rfl,?_⟩));go_ret;exact ⟨by first|rfl|(simp [Ma,La] <;> rfl)|(simp [*,Ma,La] <;> rfl),by repeat (first|(with_reducible first|exact HB.out|apply qa|apply ia|apply ta|refine ua ?_ Ra.out|refine ua ?_ yc.out)|exact HB.out)⟩
        ·rw [if_neg HL] at H;have aT:(Tb == 0)=false:=beq_eq_false_iff_ne.mpr HL;have ZS:(Tb != 0)=true:=bne_iff_ne.mpr HL;obtain rfl:=Option.some.inj H;have Oaq:=Lb.out;have iaq:=Mb.out;have Baj:wr.cell? ⟨Ka,0,none⟩=some (.slice Df Sc.length jf):=(ga za.out 0).trans rfl;have Aaj:wr.cell? ⟨Ka,1,none⟩=some (.int .i64 Wb):=(ga za.out 1).trans rfl;have zaj:wr.cell? ⟨Ka,2,none⟩=some (.int .i64 Sb):=(ga za.out 2).trans rfl;have yaj:wr.cell? ⟨Ka,3,none⟩=some (.int .i64 Tb):=(ga za.out 3).trans rfl;have xaj:wr.cell? ⟨Ka,4,none⟩=some (.int .i64 fc):=(ga za.out 4).trans rfl;have sag:=aa za.out 0;have rag:=aa za.out 1;have qag:=aa za.out 2;have pag:=aa za.out 3;have oag:=aa za.out 4;have RG:wr.cell? ⟨ya,0,none⟩=some (.slice Wa Oa.length Ya):=(ga oa.out 0).trans rfl;have QG:wr.cell? ⟨ya,1,none⟩=some (.int .i64 Ja):=(ga oa.out 1).trans rfl;have PG:wr.cell? ⟨ya,2,none⟩=some (.int .i64 Fa):=(ga oa.out 2).trans rfl;have OG:wr.cell? ⟨ya,3,none⟩=some (.int .i64 Ia):=(ga oa.out 3).trans rfl;have NG:wr.cell? ⟨ya,4,none⟩=some (.slice Ob Ca.length Cb):=(ga oa.out 4).trans rfl;have PF:=aa oa.out 0;have NF:=aa oa.out 1;have MF:=aa oa.out 2;have LF:=aa oa.out 3;have KF:=aa oa.out 4;go_wp2_with (first|((with_reducible refine mb (f:=53) rfl ?_);refine Mc (some 29) rfl rfl Try.func53 (by kernel_rfl) rfl #[.int .i64 Tb,.int .i64 0,.int .i64 (wrap64 ((Ca.length:Int) - 1))] rfl (by (try simp only [List.map_toArray,List.map_cons,List.map_nil]);first|done|rfl|(simp only [List.length_drop,List.length_take];rfl)) ?_;(with_reducible refine (Za.calls Tb 0 (wrap64 ((Ca.length:Int) - 1)) t105 _ pR.out).mono ?_);rintro e w' ⟨rfl,⟨nd,rfl⟩⟩;refine ⟨_,rfl,?_⟩)|((with_reducible refine mb (f:=53) rfl ?_);refine Mc (some 35) rfl rfl Try.func53 (by kernel_rfl) rfl #[.int .i64 Sb,.int .i64 0,.int .i64 (wrap64 (Ia - 1))] rfl (by (try simp only [List.map_toArray,List.map_cons,List.map_nil]);first|done|rfl|(simp only [List.length_drop,List.length_take];rfl)) ?_;(with_reducible refine (Za.calls Sb 0 (wrap64 (Ia - 1)) true _ rI.out).mono ?_);rintro e w' ⟨rfl,⟨nd,rfl⟩⟩;refine ⟨_,rfl,?_⟩));go_ret;exact ⟨by first|rfl|(simp [Ma,La] <;> rfl)|(simp [*,Ma,La] <;> rfl),by repeat (first|(with_reducible first|exact HB.out|apply qa|apply ia|apply ta|refine ua ?_ Ra.out|refine ua ?_ yc.out)|exact HB.out)⟩
       ·replace OX:=Bool.eq_false_iff.mpr OX;subst OX;have H1:(some false)=some r:=by rw [if_neg (show ¬ (false=true) by decide)] at H;exact H
        clear H;have H:=H1;clear H1;obtain rfl:=Option.some.inj H;have Naq:=Lb.out;have haq:=Mb.out;have paj:wr.cell? ⟨Ka,0,none⟩=some (.slice Df Sc.length jf):=(ga za.out 0).trans rfl;have oaj:wr.cell? ⟨Ka,1,none⟩=some (.int .i64 Wb):=(ga za.out 1).trans rfl;have naj:wr.cell? ⟨Ka,2,none⟩=some (.int .i64 Sb):=(ga za.out 2).trans rfl;have maj:wr.cell? ⟨Ka,3,none⟩=some (.int .i64 Tb):=(ga za.out 3).trans rfl;have laj:wr.cell? ⟨Ka,4,none⟩=some (.int .i64 fc):=(ga za.out 4).trans rfl;have fag:=aa za.out 0;have eag:=aa za.out 1;have dag:=aa za.out 2;have cag:=aa za.out 3;have bag:=aa za.out 4;have kaj:wr.cell? ⟨ya,0,none⟩=some (.slice Wa Oa.length Ya):=(ga oa.out 0).trans rfl;have jaj:wr.cell? ⟨ya,1,none⟩=some (.int .i64 Ja):=(ga oa.out 1).trans rfl;have iaj:wr.cell? ⟨ya,2,none⟩=some (.int .i64 Fa):=(ga oa.out 2).trans rfl;have haj:wr.cell? ⟨ya,3,none⟩=some (.int .i64 Ia):=(ga oa.out 3).trans rfl;have gaj:wr.cell? ⟨ya,4,none⟩=some (.slice Ob Ca.length Cb):=(ga oa.out 4).trans rfl;have aag:=aa oa.out 0;have Zaf:=aa oa.out 1;have Yaf:=aa oa.out 2;have Xaf:=aa oa.out 3;have Waf:=aa oa.out 4;go_wp2_with (first|((with_reducible refine mb (f:=53) rfl ?_);refine Mc (some 29) rfl rfl Try.func53 (by kernel_rfl) rfl #[.int .i64 Tb,.int .i64 0,.int .i64 (wrap64 ((Ca.length:Int) - 1))] rfl (by (try simp only [List.map_toArray,List.map_cons,List.map_nil]);first|done|rfl|(simp only [List.length_drop,List.length_take];rfl)) ?_;(with_reducible refine (Za.calls Tb 0 (wrap64 ((Ca.length:Int) - 1)) t105 _ pR.out).mono ?_);rintro e w' ⟨rfl,⟨nd,rfl⟩⟩;refine ⟨_,rfl,?_⟩)|((with_reducible refine mb (f:=53) rfl ?_);refine Mc (some 35) rfl rfl Try.func53 (by kernel_rfl) rfl #[.int .i64 Sb,.int .i64 0,.int .i64 (wrap64 (Ia - 1))] rfl (by (try simp only [List.map_toArray,List.map_cons,List.map_nil]);first|done|rfl|(simp only [List.length_drop,List.length_take];rfl)) ?_;(with_reducible refine (Za.calls Sb 0 (wrap64 (Ia - 1)) false _ rI.out).mono ?_);rintro e w' ⟨rfl,⟨nd,rfl⟩⟩;refine ⟨_,rfl,?_⟩));go_ret;exact ⟨by first|rfl|(simp [Ma,La] <;> rfl)|(simp [*,Ma,La] <;> rfl),by repeat (first|(with_reducible first|exact HB.out|apply qa|apply ia|apply ta|refine ua ?_ Ra.out|refine ua ?_ yc.out)|exact HB.out)⟩
      ·rw [if_neg IL] at H;have eT:(Wb == 2)=false:=beq_eq_false_iff_ne.mpr IL;have bT:(Wb != 2)=true:=bne_iff_ne.mpr IL;obtain rfl:=Option.some.inj H;have Maq:=Lb.out;have gaq:=Mb.out;have faj:wr.cell? ⟨Ka,0,none⟩=some (.slice Df Sc.length jf):=(ga za.out 0).trans rfl;have eaj:wr.cell? ⟨Ka,1,none⟩=some (.int .i64 Wb):=(ga za.out 1).trans rfl;have daj:wr.cell? ⟨Ka,2,none⟩=some (.int .i64 Sb):=(ga za.out 2).trans rfl;have caj:wr.cell? ⟨Ka,3,none⟩=some (.int .i64 Tb):=(ga za.out 3).trans rfl;have baj:wr.cell? ⟨Ka,4,none⟩=some (.int .i64 fc):=(ga za.out 4).trans rfl;have Vaf:=aa za.out 0;have Uaf:=aa za.out 1;have Taf:=aa za.out 2;have Saf:=aa za.out 3;have Raf:=aa za.out 4;have AW:wr.cell? ⟨ya,0,none⟩=some (.slice Wa Oa.length Ya):=(ga oa.out 0).trans rfl;have zW:wr.cell? ⟨ya,1,none⟩=some (.int .i64 Ja):=(ga oa.out 1).trans rfl;have xW:wr.cell? ⟨ya,2,none⟩=some (.int .i64 Fa):=(ga oa.out 2).trans rfl;have wW:wr.cell? ⟨ya,3,none⟩=some (.int .i64 Ia):=(ga oa.out 3).trans rfl;have vW:wr.cell? ⟨ya,4,none⟩=some (.slice Ob Ca.length Cb):=(ga oa.out 4).trans rfl;have tV:=aa oa.out 0;have sV:=aa oa.out 1;have rV:=aa oa.out 2;have qV:=aa oa.out 3;have pV:=aa oa.out 4;go_wp2_with (first|((with_reducible refine mb (f:=53) rfl ?_);refine Mc (some 29) rfl rfl Try.func53 (by kernel_rfl) rfl #[.int .i64 Tb,.int .i64 0,.int .i64 (wrap64 ((Ca.length:Int) - 1))] rfl (by (try simp only [List.map_toArray,List.map_cons,List.map_nil]);first|done|rfl|(simp only [List.length_drop,List.length_take];rfl)) ?_;(with_reducible refine (Za.calls Tb 0 (wrap64 ((Ca.length:Int) - 1)) t105 _ pR.out).mono ?_);rintro e w' ⟨rfl,⟨nd,rfl⟩⟩;refine ⟨_,rfl,?_⟩)|((with_reducible refine mb (f:=53) rfl ?_);refine Mc (some 35) rfl rfl Try.func53 (by kernel_rfl) rfl #[.int .i64 Sb,.int .i64 0,.int .i64 (wrap64 (Ia - 1))] rfl (by (try simp only [List.map_toArray,List.map_cons,List.map_nil]);first|done|rfl|(simp only [List.length_drop,List.length_take];rfl)) ?_;(with_reducible refine (Za.calls Sb 0 (wrap64 (Ia - 1)) t106 _ rI.out).mono ?_);rintro e w' ⟨rfl,⟨nd,rfl⟩⟩;refine ⟨_,rfl,?_⟩));go_ret;exact ⟨by first|rfl|(simp [Ma,La] <;> rfl)|(simp [*,Ma,La] <;> rfl),by repeat (first|(with_reducible first|exact HB.out|apply qa|apply ia|apply ta|refine ua ?_ Ra.out|refine ua ?_ yc.out)|exact HB.out)⟩
mutual
def Xa.l0:Nat→Int→List Int→Int→Int→Int→List (Ke)→Option (Bool)
 | 0,_,_,_,_,_,_=>none
 | k + 1,x3,Cc,Uc,Ic,Gc,ec=>if x3 < (Cc.length:Int) then (if 0 ≤ x3 then ((Za.f (rd Cc x3) 1 16).bind fun t103=>(if t103=true then (Xa.l0 k (wrap64 (x3 + 1)) Cc Uc Ic Gc ec) else (some false))) else (none)) else ((Za.f (Cc.length:Int) 1 4).bind fun t104=>(if t104=true then ((Za.f Ic 0 20).bind fun t105=>(if t105=true then ((Za.f Uc 0 6).bind fun t106=>(if t106=true then (if Uc > Ic then (Xa.j1 k true Cc Uc Ic Gc ec) else ((Za.f Gc Ic 1000).bind fun t107=>(if t107=true then ((Za.f (ec.length:Int) 1 300).bind fun t108=>(Xa.j1 k (!t108) Cc Uc Ic Gc ec)) else (Xa.j1 k true Cc Uc Ic Gc ec)))) else (Xa.j1 k true Cc Uc Ic Gc ec))) else (Xa.j1 k true Cc Uc Ic Gc ec))) else (Xa.j1 k true Cc Uc Ic Gc ec)))
def Xa.j1:Nat→Bool→List Int→Int→Int→Int→List (Ke)→Option (Bool)
 | 0,_,_,_,_,_,_=>none
 | k + 1,x58,Cc,Uc,Ic,Gc,ec=>if x58=true then (some false) else (Xa.l1 k 0 0 Cc Uc Ic Gc ec)
def Xa.l1:Nat→Int→Int→List Int→Int→Int→Int→List (Ke)→Option (Bool)
 | 0,_,_,_,_,_,_,_=>none
 | k + 1,x4,x5,Cc,Uc,Ic,Gc,ec=>if x5 < (ec.length:Int) then (if 0 ≤ x5 then (if (wrap64 (x4 + (((Ea ec x5).f0).length:Int))) > 1000 then (some false) else ((oc.f k Cc Uc Ic Gc ec ((Ea ec x5).f0) ((Ea ec x5).f1) ((Ea ec x5).f2) ((Ea ec x5).f3) ((Ea ec x5).f4)).bind fun t111=>(if t111=true then (Xa.l1 k (wrap64 (x4 + (((Ea ec x5).f0).length:Int))) (wrap64 (x5 + 1)) Cc Uc Ic Gc ec) else (some false)))) else (none)) else (some true)
end
def Xa.f (k:Nat) (Oa:List Int) (Ja:Int) (Fa:Int) (Ia:Int) (Ca:List (Ke)):Option (Bool):=Xa.l0 k 0 Oa Ja Fa Ia Ca
def Xa.T13:Bool × List (List Nat × List Nat):=(true,[([],[]),([0],[0]),([1],[1]),([2],[2]),([2],[2]),([4,2],[2,4]),([2],[2]),([5,6,2],[2,5,6]),([7,2],[2,7]),([3,8,2,2],[2,3,8]),([9,2],[2,9]),([2,10],[2,10])])
def Xa.B13:List Nat:=[0,1,3,7,7,23,7,119,247,511,1023,2047]
theorem Xa.yR:Tn .any (opsOf Try.f40 13)=Xa.T13:=by kernel_rfl
theorem Xa.RL:oo Xa.T13.2 Xa.B13=true:=by kernel_rfl
theorem Xa.calls (k:Nat) (Wa:Option Addr) (Ya:Nat) (Oa:List Int) (Ja:Int) (Fa:Int) (Ia:Int) (Ob:Option Addr) (Cb:Nat) (Ca:List (Ke)) (r:Bool) (w:World) (Ld:Kd.C (Kd.int .i64) w Wa Oa.length Oa) (Gd:Oa.length ≤ Ya) (Ue:Kd.C Gs w Ob Ca.length Ca) (Qe:Ca.length ≤ Cb) (h:Xa.f k Oa Ja Fa Ia Ca=some r) :
  Calls Try.prog 40 #[.agg #[.slice Wa Oa.length Ya,.int .i64 Ja,.int .i64 Fa,.int .i64 Ia,.slice Ob Ca.length Cb]] w fun e w'=>e = .returned (.bool r)∧Below w.heap.size w w':=by
 have gB:=Try.underlying30;have fB:=Try.underlying59;have Md:=ja.mk Ld;have Rd:=ja.mk Gd;clear Ld Gd;have Ce:=ja.mk Ue;have Ff:=ja.mk Qe;clear Ue Qe;have HB:=ja.mk (Below.refl w.heap.size w);have H:(Xa.l0 k 0 Oa Ja Fa Ia Ca)=some r:=h;clear h;have H':=ja.mk H;clear H;go_enter Try.func40,Try.ntmps40;go_wp2_with (first|((with_reducible refine qb (N:=1) rfl ?_);(try (refine kg (by rfl) ?_;dsimp only));refine Gb ?hg (N:=1) ?hd (cs:=#[.slice Wa Oa.length Ya,.int .i64 Ja,.int .i64 Fa,.int .i64 Ia,.slice Ob Ca.length Cb]) (t:=30) ?hr ?_;(case hd=>rfl);(case hg=>rfl);(case hr=>first|(go_simp;done)|(go_simp;rfl));intro ya hg w2 Rb hb;have Eb:=ja.mk (Na (by repeat (first|(with_reducible first|exact HB.out|apply qa|apply ia|apply ta)|exact HB.out)) hb);have Jb:=ja.mk (Rb);have Ub:=ja.mk ((by rw [hg];exact (Ga (by repeat (first|(with_reducible first|exact HB.out|apply qa|apply ia|apply ta)|exact HB.out))):w.heap.size ≤ ya));have uc:=ja.mk ((by rw [hg];exact (Ga (by repeat (first|(with_reducible first|exact HB.out|apply qa|apply ia|apply ta)|exact HB.out))):w.heap.size ≤ ya));clear HB;have HB:=Eb;have oa:=Jb;have xd:=Ub;have Ra:=uc;clear Eb Jb Ub uc hb Rb hg))
 go_loopg [3] k (fun kq v3 w'=>∃ (ye:Int),v3 = .int .i64 ye∧ja (Xa.l0 kq ye Oa Ja Fa Ia Ca=some r)∧ja (kq ≤ k)∧ja (w'.heap[ya]? = some (.cells #[(.slice Wa Oa.length Ya),.int .i64 Ja,.int .i64 Fa,.int .i64 Ia,(.slice Ob Ca.length Cb)] 30 (0,0)))∧ja (Below w.heap.size w w'))
 case atStart=>exact ⟨(0),(by first|rfl|(simp;done)|(simp [*];done)),H',⟨Nat.le_refl _⟩,⟨by (with_reducible repeat (first|refine Aa ?_ _|refine Da ?_|refine Ba ?_ _));exact oa.out⟩,⟨by repeat (first|(with_reducible first|exact HB.out|apply qa|apply ia|apply ta|refine ua ?_ Ra.out)|exact HB.out)⟩⟩
 case round =>
  clear H'
  try clear p2
  (try clear HA);(try clear Rh);(try clear oa);(try clear HB);obtain ⟨ye,rfl,HA,Rh,oa,HB⟩:=hrel;cases gk with
  | zero=>exact absurd HA.out (by simp [Xa.l0])
  | succ k1 =>
   have H:=HA.out;clear HA;simp only [Xa.l0] at H
   by_cases c3:ye < (Oa.length:Int)
   ·rw [if_pos c3] at H;have uj:decide (ye < (Oa.length:Int))=true:=decide_eq_true c3;clear c3
    by_cases c4:0 ≤ ye
    ·rw [if_pos c4] at H;have Fl:decide (0 ≤ ye)=true:=decide_eq_true c4;clear c4;replace H:=Option.bind_eq_some_iff.mp H;obtain ⟨t103,NP,H⟩:=H;replace H:(if t103=true then (Xa.l0 k1 (wrap64 (ye + 1)) Oa Ja Fa Ia Ca) else (some false))=some r:=H;have A5:=ja.mk NP;clear NP
     by_cases c6:t103=true
     ·subst c6;have H1:(Xa.l0 k1 (wrap64 (ye + 1)) Oa Ja Fa Ia Ca)=some r:=by rw [if_pos rfl] at H;exact H
      clear H;have H:=H1;clear H1;have H':=ja.mk H;clear H;have Ak:wr.cell? ⟨ya,0,none⟩=some (.slice Wa Oa.length Ya):=(ga oa.out 0).trans rfl;have zk:wr.cell? ⟨ya,1,none⟩=some (.int .i64 Ja):=(ga oa.out 1).trans rfl;have xk:wr.cell? ⟨ya,2,none⟩=some (.int .i64 Fa):=(ga oa.out 2).trans rfl;have vk:wr.cell? ⟨ya,3,none⟩=some (.int .i64 Ia):=(ga oa.out 3).trans rfl;have uk:wr.cell? ⟨ya,4,none⟩=some (.slice Ob Ca.length Cb):=(ga oa.out 4).trans rfl;have qk:=aa oa.out 0;have nk:=aa oa.out 1;have jk:=aa oa.out 2;have fk:=aa oa.out 3;have ek:=aa oa.out 4;have Vi:0 ≤ (ye:Int):=Sa;have Ui:ye < (Oa.length:Int):=Sa;obtain ⟨Xe,Rt,Ze⟩:=Kd.Zf Md.out ye Vi Ui;cases Rt;replace Ze:=Qa HB.out Ze;replace Vi:=eq_true Vi;replace Ui:=eq_true Ui;go_wp2_with (first|((with_reducible refine mb (f:=53) rfl ?_);refine Mc (some 18) rfl rfl Try.func53 (by kernel_rfl) rfl #[.int .i64 (rd Oa ye),.int .i64 1,.int .i64 16] rfl (by (try simp only [List.map_toArray,List.map_cons,List.map_nil]);first|done|rfl|(simp only [List.length_drop,List.length_take];rfl)) ?_;(with_reducible refine (Za.calls (rd Oa ye) 1 16 true _ A5.out).mono ?_);rintro e w' ⟨rfl,⟨nd,rfl⟩⟩;refine ⟨_,rfl,?_⟩))
      go_roundg k1
      case measure=>have:=Rh.out;omega
      case rel=>exact ⟨(wrap64 (ye + 1)),(by first|rfl|(simp;done)|(simp [*];done)),H',⟨by have:=Rh.out;omega⟩,⟨by (with_reducible repeat (first|refine Aa ?_ _|refine Da ?_|refine Ba ?_ _));exact oa.out⟩,⟨by repeat (first|(with_reducible first|exact HB.out|apply qa|apply ia|apply ta|refine ua ?_ Ra.out)|exact HB.out)⟩⟩
     ·replace c6:=Bool.eq_false_iff.mpr c6;subst c6;have H1:(some false)=some r:=by rw [if_neg (show ¬ (false=true) by decide)] at H;exact H
      clear H;have H:=H1;clear H1;obtain rfl:=Option.some.inj H;have rA:wr.cell? ⟨ya,0,none⟩=some (.slice Wa Oa.length Ya):=(ga oa.out 0).trans rfl;have qA:wr.cell? ⟨ya,1,none⟩=some (.int .i64 Ja):=(ga oa.out 1).trans rfl;have oA:wr.cell? ⟨ya,2,none⟩=some (.int .i64 Fa):=(ga oa.out 2).trans rfl;have nA:wr.cell? ⟨ya,3,none⟩=some (.int .i64 Ia):=(ga oa.out 3).trans rfl;have mA:wr.cell? ⟨ya,4,none⟩=some (.slice Ob Ca.length Cb):=(ga oa.out 4).trans rfl;have dA:=aa oa.out 0;have cA:=aa oa.out 1;have bA:=aa oa.out 2;have aA:=aa oa.out 3;have Zz:=aa oa.out 4;have Vi:0 ≤ (ye:Int):=Sa;have Ui:ye < (Oa.length:Int):=Sa;obtain ⟨Xe,Rt,Ze⟩:=Kd.Zf Md.out ye Vi Ui;cases Rt;replace Ze:=Qa HB.out Ze;replace Vi:=eq_true Vi;replace Ui:=eq_true Ui;go_wp2_with (first|((with_reducible refine mb (f:=53) rfl ?_);refine Mc (some 18) rfl rfl Try.func53 (by kernel_rfl) rfl #[.int .i64 (rd Oa ye),.int .i64 1,.int .i64 16] rfl (by (try simp only [List.map_toArray,List.map_cons,List.map_nil]);first|done|rfl|(simp only [List.length_drop,List.length_take];rfl)) ?_;(with_reducible refine (Za.calls (rd Oa ye) 1 16 false _ A5.out).mono ?_);rintro e w' ⟨rfl,⟨nd,rfl⟩⟩;refine ⟨_,rfl,?_⟩));go_ret;exact ⟨by first|rfl|(simp [Ma,La] <;> rfl)|(simp [*,Ma,La] <;> rfl),by repeat (first|(with_reducible first|exact HB.out|apply qa|apply ia|apply ta|refine ua ?_ Ra.out)|exact HB.out)⟩
    ·rw [if_neg c4] at H;exact absurd H (by simp)
   ·rw [if_neg c3] at H;have uj:decide (ye < (Oa.length:Int))=false:=decide_eq_false c3;clear c3;have HC9:=ja.mk H;clear H;have Ah:wr.cell? ⟨ya,0,none⟩=some (.slice Wa Oa.length Ya):=(ga oa.out 0).trans rfl;have zh:wr.cell? ⟨ya,1,none⟩=some (.int .i64 Ja):=(ga oa.out 1).trans rfl;have yh:wr.cell? ⟨ya,2,none⟩=some (.int .i64 Fa):=(ga oa.out 2).trans rfl;have xh:wr.cell? ⟨ya,3,none⟩=some (.int .i64 Ia):=(ga oa.out 3).trans rfl;have wh:wr.cell? ⟨ya,4,none⟩=some (.slice Ob Ca.length Cb):=(ga oa.out 4).trans rfl;have mh:=aa oa.out 0;have jh:=aa oa.out 1;have gh:=aa oa.out 2;have fh:=aa oa.out 3;have dh:=aa oa.out 4
    go_upto_region 6 with (fail)
    go_cut [58] (fun v58 wc=>∃ (kq:Nat) (jM:Bool),v58 = .bool jM∧ja (Xa.j1 kq jM Oa Ja Fa Ia Ca=some r)∧ja (kq ≤ k1)∧ja (wc.heap[ya]? = some (.cells #[(.slice Wa Oa.length Ya),.int .i64 Ja,.int .i64 Fa,.int .i64 Ia,(.slice Ob Ca.length Cb)] 30 (0,0)))∧ja (Below w.heap.size w wc))
    case first =>
     have H:=HC9.out;clear HC9;replace H:=Option.bind_eq_some_iff.mp H;obtain ⟨t104,VJ,H⟩:=H;replace H:(if t104=true then ((Za.f Fa 0 20).bind fun t105=>(if t105=true then ((Za.f Ja 0 6).bind fun t106=>(if t106=true then (if Ja > Fa then (Xa.j1 k1 true Oa Ja Fa Ia Ca) else ((Za.f Ia Fa 1000).bind fun t107=>(if t107=true then ((Za.f (Ca.length:Int) 1 300).bind fun t108=>(Xa.j1 k1 (!t108) Oa Ja Fa Ia Ca)) else (Xa.j1 k1 true Oa Ja Fa Ia Ca)))) else (Xa.j1 k1 true Oa Ja Fa Ia Ca))) else (Xa.j1 k1 true Oa Ja Fa Ia Ca))) else (Xa.j1 k1 true Oa Ja Fa Ia Ca))=some r:=H;have qR:=ja.mk VJ;clear VJ
     by_cases Xr:t104=true
     ·subst Xr;have H1:((Za.f Fa 0 20).bind fun t105=>(if t105=true then ((Za.f Ja 0 6).bind fun t106=>(if t106=true then (if Ja > Fa then (Xa.j1 k1 true Oa Ja Fa Ia Ca) else ((Za.f Ia Fa 1000).bind fun t107=>(if t107=true then ((Za.f (Ca.length:Int) 1 300).bind fun t108=>(Xa.j1 k1 (!t108) Oa Ja Fa Ia Ca)) else (Xa.j1 k1 true Oa Ja Fa Ia Ca)))) else (Xa.j1 k1 true Oa Ja Fa Ia Ca))) else (Xa.j1 k1 true Oa Ja Fa Ia Ca)))=some r:=by rw [if_pos rfl] at H;exact H
      clear H;have H:=H1;clear H1;replace H:=Option.bind_eq_some_iff.mp H;obtain ⟨t105,TD,H⟩:=H;replace H:(if t105=true then ((Za.f Ja 0 6).bind fun t106=>(if t106=true then (if Ja > Fa then (Xa.j1 k1 true Oa Ja Fa Ia Ca) else ((Za.f Ia Fa 1000).bind fun t107=>(if t107=true then ((Za.f (Ca.length:Int) 1 300).bind fun t108=>(Xa.j1 k1 (!t108) Oa Ja Fa Ia Ca)) else (Xa.j1 k1 true Oa Ja Fa Ia Ca)))) else (Xa.j1 k1 true Oa Ja Fa Ia Ca))) else (Xa.j1 k1 true Oa Ja Fa Ia Ca))=some r:=H;have gM:=ja.mk TD;clear TD
      by_cases N6:t105=true
      ·subst N6;have H1:((Za.f Ja 0 6).bind fun t106=>(if t106=true then (if Ja > Fa then (Xa.j1 k1 true Oa Ja Fa Ia Ca) else ((Za.f Ia Fa 1000).bind fun t107=>(if t107=true then ((Za.f (Ca.length:Int) 1 300).bind fun t108=>(Xa.j1 k1 (!t108) Oa Ja Fa Ia Ca)) else (Xa.j1 k1 true Oa Ja Fa Ia Ca)))) else (Xa.j1 k1 true Oa Ja Fa Ia Ca)))=some r:=by rw [if_pos rfl] at H;exact H
       clear H;have H:=H1;clear H1;replace H:=Option.bind_eq_some_iff.mp H;obtain ⟨t106,UJ,H⟩:=H;replace H:(if t106=true then (if Ja > Fa then (Xa.j1 k1 true Oa Ja Fa Ia Ca) else ((Za.f Ia Fa 1000).bind fun t107=>(if t107=true then ((Za.f (Ca.length:Int) 1 300).bind fun t108=>(Xa.j1 k1 (!t108) Oa Ja Fa Ia Ca)) else (Xa.j1 k1 true Oa Ja Fa Ia Ca)))) else (Xa.j1 k1 true Oa Ja Fa Ia Ca))=some r:=H;have QZ:=ja.mk UJ;clear UJ
       by_cases VA:t106=true
       ·subst VA;have H1:(if Ja > Fa then (Xa.j1 k1 true Oa Ja Fa Ia Ca) else ((Za.f Ia Fa 1000).bind fun t107=>(if t107=true then ((Za.f (Ca.length:Int) 1 300).bind fun t108=>(Xa.j1 k1 (!t108) Oa Ja Fa Ia Ca)) else (Xa.j1 k1 true Oa Ja Fa Ia Ca))))=some r:=by rw [if_pos rfl] at H;exact H
        clear H;have H:=H1;clear H1
        by_cases Qo:Ja > Fa
        ·rw [if_pos Qo] at H;have Bm:decide (Fa < Ja)=true:=decide_eq_true Qo;clear Qo;(first|rw [Bm]|(simp only [ic,jc];rw [Bm])|skip);have H':=ja.mk H;clear H;have Pv:wr.cell? ⟨ya,0,none⟩=some (.slice Wa Oa.length Ya):=(ga oa.out 0).trans rfl;have Ov:wr.cell? ⟨ya,1,none⟩=some (.int .i64 Ja):=(ga oa.out 1).trans rfl;have Nv:wr.cell? ⟨ya,2,none⟩=some (.int .i64 Fa):=(ga oa.out 2).trans rfl;have Mv:wr.cell? ⟨ya,3,none⟩=some (.int .i64 Ia):=(ga oa.out 3).trans rfl;have Lv:wr.cell? ⟨ya,4,none⟩=some (.slice Ob Ca.length Cb):=(ga oa.out 4).trans rfl;have zv:=aa oa.out 0;have wv:=aa oa.out 1;have vv:=aa oa.out 2;have uv:=aa oa.out 3;have tv:=aa oa.out 4;go_wp2_with (first|((with_reducible refine mb (f:=53) rfl ?_);refine Mc (some 23) rfl rfl Try.func53 (by kernel_rfl) rfl #[.int .i64 (Oa.length:Int),.int .i64 1,.int .i64 4] rfl (by (try simp only [List.map_toArray,List.map_cons,List.map_nil]);first|done|rfl|(simp only [List.length_drop,List.length_take];rfl)) ?_;(with_reducible refine (Za.calls (Oa.length:Int) 1 4 true _ qR.out).mono ?_);rintro e w' ⟨rfl,⟨nd,rfl⟩⟩;refine ⟨_,rfl,?_⟩)|(go_at_call 53;(with_reducible refine (Za.calls Fa 0 20 true _ gM.out).mono ?_);rintro e w' ⟨rfl,⟨nd,rfl⟩⟩)|(go_at_call 53;(with_reducible refine (Za.calls Ja 0 6 true _ QZ.out).mono ?_);rintro e w' ⟨rfl,⟨nd,rfl⟩⟩))
         go_meet
         case rel=>exact ⟨_,(true),(by first|rfl|(simp;done)|(simp [*];done)),H',⟨by have:=Rh.out;first|omega|exact Nat.le_refl _⟩,⟨by (with_reducible repeat (first|refine Aa ?_ _|refine Da ?_|refine Ba ?_ _));exact oa.out⟩,⟨by repeat (first|(with_reducible first|exact HB.out|apply qa|apply ia|apply ta|refine ua ?_ Ra.out)|exact HB.out)⟩⟩
        ·rw [if_neg Qo] at H;have Bm:decide (Fa < Ja)=false:=decide_eq_false Qo;clear Qo;(first|rw [Bm]|(simp only [ic,jc];rw [Bm])|skip);replace H:=Option.bind_eq_some_iff.mp H;obtain ⟨t107,Nad,H⟩:=H;replace H:(if t107=true then ((Za.f (Ca.length:Int) 1 300).bind fun t108=>(Xa.j1 k1 (!t108) Oa Ja Fa Ia Ca)) else (Xa.j1 k1 true Oa Ja Fa Ia Ca))=some r:=H;have A19:=ja.mk Nad;clear Nad
         by_cases Mn:t107=true
         ·subst Mn;have H1:((Za.f (Ca.length:Int) 1 300).bind fun t108=>(Xa.j1 k1 (!t108) Oa Ja Fa Ia Ca))=some r:=by rw [if_pos rfl] at H;exact H
          clear H;have H:=H1;clear H1;replace H:=Option.bind_eq_some_iff.mp H;obtain ⟨t108,QJ,H⟩:=H;replace H:(Xa.j1 k1 (!t108) Oa Ja Fa Ia Ca)=some r:=H;have RJ:=ja.mk QJ;clear QJ;have H':=ja.mk H;clear H;have jz:wr.cell? ⟨ya,0,none⟩=some (.slice Wa Oa.length Ya):=(ga oa.out 0).trans rfl;have iz:wr.cell? ⟨ya,1,none⟩=some (.int .i64 Ja):=(ga oa.out 1).trans rfl;have gz:wr.cell? ⟨ya,2,none⟩=some (.int .i64 Fa):=(ga oa.out 2).trans rfl;have fz:wr.cell? ⟨ya,3,none⟩=some (.int .i64 Ia):=(ga oa.out 3).trans rfl;have ez:wr.cell? ⟨ya,4,none⟩=some (.slice Ob Ca.length Cb):=(ga oa.out 4).trans rfl;have Ly:=aa oa.out 0;have Ky:=aa oa.out 1;have Jy:=aa oa.out 2;have Iy:=aa oa.out 3;have Hy:=aa oa.out 4;go_wp2_with (first|((with_reducible refine mb (f:=53) rfl ?_);refine Mc (some 23) rfl rfl Try.func53 (by kernel_rfl) rfl #[.int .i64 (Oa.length:Int),.int .i64 1,.int .i64 4] rfl (by (try simp only [List.map_toArray,List.map_cons,List.map_nil]);first|done|rfl|(simp only [List.length_drop,List.length_take];rfl)) ?_;(with_reducible refine (Za.calls (Oa.length:Int) 1 4 true _ qR.out).mono ?_);rintro e w' ⟨rfl,⟨nd,rfl⟩⟩;refine ⟨_,rfl,?_⟩)|(go_at_call 53;(with_reducible refine (Za.calls Fa 0 20 true _ gM.out).mono ?_);rintro e w' ⟨rfl,⟨nd,rfl⟩⟩)|(go_at_call 53;(with_reducible refine (Za.calls Ja 0 6 true _ QZ.out).mono ?_);rintro e w' ⟨rfl,⟨nd,rfl⟩⟩)|(go_at_call 53;(with_reducible refine (Za.calls Ia Fa 1000 true _ A19.out).mono ?_);rintro e w' ⟨rfl,⟨nd,rfl⟩⟩)|(go_at_call 53;(with_reducible refine (Za.calls (Ca.length:Int) 1 300 t108 _ RJ.out).mono ?_);rintro e w' ⟨rfl,⟨nd,rfl⟩⟩))
          go_meet
          case rel=>exact ⟨_,(!t108),(by first|rfl|(simp;done)|(simp [*];done)),H',⟨by have:=Rh.out;first|omega|exact Nat.le_refl _⟩,⟨by (with_reducible repeat (first|refine Aa ?_ _|refine Da ?_|refine Ba ?_ _));exact oa.out⟩,⟨by repeat (first|(with_reducible first|exact HB.out|apply qa|apply ia|apply ta|refine ua ?_ Ra.out)|exact HB.out)⟩⟩
         ·replace Mn:=Bool.eq_false_iff.mpr Mn;subst Mn;have H1:(Xa.j1 k1 true Oa Ja Fa Ia Ca)=some r:=by rw [if_neg (show ¬ (false=true) by decide)] at H;exact H
          clear H;have H:=H1;clear H1;have H':=ja.mk H;clear H;have Wq:wr.cell? ⟨ya,0,none⟩=some (.slice Wa Oa.length Ya):=(ga oa.out 0).trans rfl;have Vq:wr.cell? ⟨ya,1,none⟩=some (.int .i64 Ja):=(ga oa.out 1).trans rfl;have Uq:wr.cell? ⟨ya,2,none⟩=some (.int .i64 Fa):=(ga oa.out 2).trans rfl;have Tq:wr.cell? ⟨ya,3,none⟩=some (.int .i64 Ia):=(ga oa.out 3).trans rfl;have Rq:wr.cell? ⟨ya,4,none⟩=some (.slice Ob Ca.length Cb):=(ga oa.out 4).trans rfl;have zq:=aa oa.out 0;have yq:=aa oa.out 1;have xq:=aa oa.out 2;have wq:=aa oa.out 3;have vq:=aa oa.out 4;go_wp2_with (first|((with_reducible refine mb (f:=53) rfl ?_);refine Mc (some 23) rfl rfl Try.func53 (by kernel_rfl) rfl #[.int .i64 (Oa.length:Int),.int .i64 1,.int .i64 4] rfl (by (try simp only [List.map_toArray,List.map_cons,List.map_nil]);first|done|rfl|(simp only [List.length_drop,List.length_take];rfl)) ?_;(with_reducible refine (Za.calls (Oa.length:Int) 1 4 true _ qR.out).mono ?_);rintro e w' ⟨rfl,⟨nd,rfl⟩⟩;refine ⟨_,rfl,?_⟩)|(go_at_call 53;(with_reducible refine (Za.calls Fa 0 20 true _ gM.out).mono ?_);rintro e w' ⟨rfl,⟨nd,rfl⟩⟩)|(go_at_call 53;(with_reducible refine (Za.calls Ja 0 6 true _ QZ.out).mono ?_);rintro e w' ⟨rfl,⟨nd,rfl⟩⟩)|(go_at_call 53;(with_reducible refine (Za.calls Ia Fa 1000 false _ A19.out).mono ?_);rintro e w' ⟨rfl,⟨nd,rfl⟩⟩))
          go_meet
          case rel=>exact ⟨_,(true),(by first|rfl|(simp;done)|(simp [*];done)),H',⟨by have:=Rh.out;first|omega|exact Nat.le_refl _⟩,⟨by (with_reducible repeat (first|refine Aa ?_ _|refine Da ?_|refine Ba ?_ _));exact oa.out⟩,⟨by repeat (first|(with_reducible first|exact HB.out|apply qa|apply ia|apply ta|refine ua ?_ Ra.out)|exact HB.out)⟩⟩
       ·replace VA:=Bool.eq_false_iff.mpr VA;subst VA;have H1:(Xa.j1 k1 true Oa Ja Fa Ia Ca)=some r:=by rw [if_neg (show ¬ (false=true) by decide)] at H;exact H
        clear H;have H:=H1;clear H1;have H':=ja.mk H;clear H;have Qq:wr.cell? ⟨ya,0,none⟩=some (.slice Wa Oa.length Ya):=(ga oa.out 0).trans rfl;have Pq:wr.cell? ⟨ya,1,none⟩=some (.int .i64 Ja):=(ga oa.out 1).trans rfl;have Oq:wr.cell? ⟨ya,2,none⟩=some (.int .i64 Fa):=(ga oa.out 2).trans rfl;have Nq:wr.cell? ⟨ya,3,none⟩=some (.int .i64 Ia):=(ga oa.out 3).trans rfl;have Mq:wr.cell? ⟨ya,4,none⟩=some (.slice Ob Ca.length Cb):=(ga oa.out 4).trans rfl;have uq:=aa oa.out 0;have tq:=aa oa.out 1;have rq:=aa oa.out 2;have qq:=aa oa.out 3;have oq:=aa oa.out 4;go_wp2_with (first|((with_reducible refine mb (f:=53) rfl ?_);refine Mc (some 23) rfl rfl Try.func53 (by kernel_rfl) rfl #[.int .i64 (Oa.length:Int),.int .i64 1,.int .i64 4] rfl (by (try simp only [List.map_toArray,List.map_cons,List.map_nil]);first|done|rfl|(simp only [List.length_drop,List.length_take];rfl)) ?_;(with_reducible refine (Za.calls (Oa.length:Int) 1 4 true _ qR.out).mono ?_);rintro e w' ⟨rfl,⟨nd,rfl⟩⟩;refine ⟨_,rfl,?_⟩)|(go_at_call 53;(with_reducible refine (Za.calls Fa 0 20 true _ gM.out).mono ?_);rintro e w' ⟨rfl,⟨nd,rfl⟩⟩)|(go_at_call 53;(with_reducible refine (Za.calls Ja 0 6 false _ QZ.out).mono ?_);rintro e w' ⟨rfl,⟨nd,rfl⟩⟩))
        go_meet
        case rel=>exact ⟨_,(true),(by first|rfl|(simp;done)|(simp [*];done)),H',⟨by have:=Rh.out;first|omega|exact Nat.le_refl _⟩,⟨by (with_reducible repeat (first|refine Aa ?_ _|refine Da ?_|refine Ba ?_ _));exact oa.out⟩,⟨by repeat (first|(with_reducible first|exact HB.out|apply qa|apply ia|apply ta|refine ua ?_ Ra.out)|exact HB.out)⟩⟩
      ·replace N6:=Bool.eq_false_iff.mpr N6;subst N6;have H1:(Xa.j1 k1 true Oa Ja Fa Ia Ca)=some r:=by rw [if_neg (show ¬ (false=true) by decide)] at H;exact H
       clear H;have H:=H1;clear H1;have H':=ja.mk H;clear H;have Kv:wr.cell? ⟨ya,0,none⟩=some (.slice Wa Oa.length Ya):=(ga oa.out 0).trans rfl;have Jv:wr.cell? ⟨ya,1,none⟩=some (.int .i64 Ja):=(ga oa.out 1).trans rfl;have Iv:wr.cell? ⟨ya,2,none⟩=some (.int .i64 Fa):=(ga oa.out 2).trans rfl;have Hv:wr.cell? ⟨ya,3,none⟩=some (.int .i64 Ia):=(ga oa.out 3).trans rfl;have Gv:wr.cell? ⟨ya,4,none⟩=some (.slice Ob Ca.length Cb):=(ga oa.out 4).trans rfl;have qv:=aa oa.out 0;have ov:=aa oa.out 1;have nv:=aa oa.out 2;have jv:=aa oa.out 3;have gv:=aa oa.out 4;go_wp2_with (first|((with_reducible refine mb (f:=53) rfl ?_);refine Mc (some 23) rfl rfl Try.func53 (by kernel_rfl) rfl #[.int .i64 (Oa.length:Int),.int .i64 1,.int .i64 4] rfl (by (try simp only [List.map_toArray,List.map_cons,List.map_nil]);first|done|rfl|(simp only [List.length_drop,List.length_take];rfl)) ?_;(with_reducible refine (Za.calls (Oa.length:Int) 1 4 true _ qR.out).mono ?_);rintro e w' ⟨rfl,⟨nd,rfl⟩⟩;refine ⟨_,rfl,?_⟩)|(go_at_call 53;(with_reducible refine (Za.calls Fa 0 20 false _ gM.out).mono ?_);rintro e w' ⟨rfl,⟨nd,rfl⟩⟩))
       go_meet
       case rel=>exact ⟨_,(true),(by first|rfl|(simp;done)|(simp [*];done)),H',⟨by have:=Rh.out;first|omega|exact Nat.le_refl _⟩,⟨by (with_reducible repeat (first|refine Aa ?_ _|refine Da ?_|refine Ba ?_ _));exact oa.out⟩,⟨by repeat (first|(with_reducible first|exact HB.out|apply qa|apply ia|apply ta|refine ua ?_ Ra.out)|exact HB.out)⟩⟩
     ·replace Xr:=Bool.eq_false_iff.mpr Xr;subst Xr;have H1:(Xa.j1 k1 true Oa Ja Fa Ia Ca)=some r:=by rw [if_neg (show ¬ (false=true) by decide)] at H;exact H
      clear H;have H:=H1;clear H1;have H':=ja.mk H;clear H;have Ht:wr.cell? ⟨ya,0,none⟩=some (.slice Wa Oa.length Ya):=(ga oa.out 0).trans rfl;have Gt:wr.cell? ⟨ya,1,none⟩=some (.int .i64 Ja):=(ga oa.out 1).trans rfl;have Ft:wr.cell? ⟨ya,2,none⟩=some (.int .i64 Fa):=(ga oa.out 2).trans rfl;have Et:wr.cell? ⟨ya,3,none⟩=some (.int .i64 Ia):=(ga oa.out 3).trans rfl;have Dt:wr.cell? ⟨ya,4,none⟩=some (.slice Ob Ca.length Cb):=(ga oa.out 4).trans rfl;have jt:=aa oa.out 0;have ct:=aa oa.out 1;have bt:=aa oa.out 2;have Zs:=aa oa.out 3;have Ys:=aa oa.out 4;go_wp2_with (first|((with_reducible refine mb (f:=53) rfl ?_);refine Mc (some 23) rfl rfl Try.func53 (by kernel_rfl) rfl #[.int .i64 (Oa.length:Int),.int .i64 1,.int .i64 4] rfl (by (try simp only [List.map_toArray,List.map_cons,List.map_nil]);first|done|rfl|(simp only [List.length_drop,List.length_take];rfl)) ?_;(with_reducible refine (Za.calls (Oa.length:Int) 1 4 false _ qR.out).mono ?_);rintro e w' ⟨rfl,⟨nd,rfl⟩⟩;refine ⟨_,rfl,?_⟩))
      go_meet
      case rel=>exact ⟨_,(true),(by first|rfl|(simp;done)|(simp [*];done)),H',⟨by have:=Rh.out;first|omega|exact Nat.le_refl _⟩,⟨by (with_reducible repeat (first|refine Aa ?_ _|refine Da ?_|refine Ba ?_ _));exact oa.out⟩,⟨by repeat (first|(with_reducible first|exact HB.out|apply qa|apply ia|apply ta|refine ua ?_ Ra.out)|exact HB.out)⟩⟩
    case rest =>
     clear HC9
     try clear c1
     try clear p1
     try clear q1
     try clear hx1
     try clear c2
     try clear p2
     try clear c3
     try clear uj
     try clear c4
     try clear Fl
     try clear c5
     try clear c6
     try clear p6
     try clear YP
     try clear XP
     try clear jV
     try clear Xr
     try clear N6
     try clear VA
     try clear Qo
     try clear Bm
     try clear Mn
     try clear Ah
     try clear zh
     try clear yh
     try clear xh
     try clear wh
     try clear Pv
     try clear Ov
     try clear Nv
     try clear Mv
     try clear Lv
     try clear jz
     try clear iz
     try clear gz
     try clear fz
     try clear ez
     try clear Wq
     try clear Vq
     try clear Uq
     try clear Tq
     try clear Rq
     try clear Qq
     try clear Pq
     try clear Oq
     try clear Nq
     try clear Mq
     try clear Kv
     try clear Jv
     try clear Iv
     try clear Hv
     try clear Gv
     try clear Ht
     try clear Gt
     try clear Ft
     try clear Et
     try clear Dt
     try clear Ak
     try clear zk
     try clear xk
     try clear vk
     try clear uk
     try clear rA
     try clear qA
     try clear oA
     try clear nA
     try clear mA
     try clear mh
     try clear jh
     try clear gh
     try clear fh
     try clear dh
     try clear zv
     try clear wv
     try clear vv
     try clear uv
     try clear tv
     try clear Ly
     try clear Ky
     try clear Jy
     try clear Iy
     try clear Hy
     try clear zq
     try clear yq
     try clear xq
     try clear wq
     try clear vq
     try clear uq
     try clear tq
     try clear rq
     try clear qq
     try clear oq
     try clear qv
     try clear ov
     try clear nv
     try clear jv
     try clear gv
     try clear jt
     try clear ct
     try clear bt
     try clear Zs
     try clear Ys
     try clear qk
     try clear nk
     try clear jk
     try clear fk
     try clear ek
     try clear dA
     try clear cA
     try clear bA
     try clear aA
     try clear Zz
     try clear Ze
     try clear Vi
     try clear p2
     try clear Ui
     obtain ⟨kq,jM,rfl,HA,HJ8,oa,HB⟩:=hcut;cases kq with
     | zero=>exact absurd HA.out (by simp [Xa.j1])
     | succ kj8 =>
      have H:=HA.out;clear HA;simp only [Xa.j1] at H
      by_cases vE:jM=true
      ·subst vE;have H1:(some false)=some r:=by rw [if_pos rfl] at H;exact H
       clear H;have H:=H1;clear H1;obtain rfl:=Option.some.inj H;go_wp2;go_ret;exact ⟨by first|rfl|(simp [Ma,La] <;> rfl)|(simp [*,Ma,La] <;> rfl),by repeat (first|(with_reducible first|exact HB.out|apply qa|apply ia|apply ta|refine ua ?_ Ra.out)|exact HB.out)⟩
      ·replace vE:=Bool.eq_false_iff.mpr vE;subst vE;have H1:(Xa.l1 kj8 0 0 Oa Ja Fa Ia Ca)=some r:=by rw [if_neg (show ¬ (false=true) by decide)] at H;exact H
       clear H;have H:=H1;clear H1;have H':=ja.mk H;clear H;go_wp2
       go_loopg [4,5] kj8 (fun kq v4 v5 w'=>∃ (kF:Int) (Me:Int),v4 = .int .i64 kF∧v5 = .int .i64 Me∧ja (Xa.l1 kq kF Me Oa Ja Fa Ia Ca=some r)∧ja (kq ≤ kj8)∧ja (w'.heap[ya]? = some (.cells #[(.slice Wa Oa.length Ya),.int .i64 Ja,.int .i64 Fa,.int .i64 Ia,(.slice Ob Ca.length Cb)] 30 (0,0)))∧ja (Below w.heap.size w w'))
       case atStart=>exact ⟨(0),(0),(by first|rfl|(simp;done)|(simp [*];done)),(by first|rfl|(simp;done)|(simp [*];done)),H',⟨Nat.le_refl _⟩,⟨by (with_reducible repeat (first|refine Aa ?_ _|refine Da ?_|refine Ba ?_ _));exact oa.out⟩,⟨by repeat (first|(with_reducible first|exact HB.out|apply qa|apply ia|apply ta|refine ua ?_ Ra.out)|exact HB.out)⟩⟩
       case round =>
        clear H'
        try clear c1
        try clear p1
        try clear q1
        try clear hx1
        try clear c2
        try clear p2
        try clear c3
        try clear uj
        try clear c4
        try clear Fl
        try clear c5
        try clear c6
        try clear p6
        try clear YP
        try clear XP
        try clear jV
        try clear Xr
        try clear N6
        try clear VA
        try clear Qo
        try clear Bm
        try clear Mn
        try clear vE
        try clear Ah
        try clear zh
        try clear yh
        try clear xh
        try clear wh
        try clear Pv
        try clear Ov
        try clear Nv
        try clear Mv
        try clear Lv
        try clear jz
        try clear iz
        try clear gz
        try clear fz
        try clear ez
        try clear Wq
        try clear Vq
        try clear Uq
        try clear Tq
        try clear Rq
        try clear Qq
        try clear Pq
        try clear Oq
        try clear Nq
        try clear Mq
        try clear Kv
        try clear Jv
        try clear Iv
        try clear Hv
        try clear Gv
        try clear Ht
        try clear Gt
        try clear Ft
        try clear Et
        try clear Dt
        try clear Ak
        try clear zk
        try clear xk
        try clear vk
        try clear uk
        try clear rA
        try clear qA
        try clear oA
        try clear nA
        try clear mA
        try clear mh
        try clear jh
        try clear gh
        try clear fh
        try clear dh
        try clear zv
        try clear wv
        try clear vv
        try clear uv
        try clear tv
        try clear Ly
        try clear Ky
        try clear Jy
        try clear Iy
        try clear Hy
        try clear zq
        try clear yq
        try clear xq
        try clear wq
        try clear vq
        try clear uq
        try clear tq
        try clear rq
        try clear qq
        try clear oq
        try clear qv
        try clear ov
        try clear nv
        try clear jv
        try clear gv
        try clear jt
        try clear ct
        try clear bt
        try clear Zs
        try clear Ys
        try clear qk
        try clear nk
        try clear jk
        try clear fk
        try clear ek
        try clear dA
        try clear cA
        try clear bA
        try clear aA
        try clear Zz
        try clear Ze
        try clear p1
        try clear YP
        try clear Vi
        try clear p2
        try clear p6
        try clear q1
        try clear XP
        try clear Ui
        (try clear HA);(try clear Es);(try clear oa);(try clear HB);obtain ⟨kF,Me,rfl,rfl,HA,Es,oa,HB⟩:=hrel;cases gk with
        | zero=>exact absurd HA.out (by simp [Xa.l1])
        | succ k3 =>
         have H:=HA.out;clear HA;simp only [Xa.l1] at H
         by_cases BI:Me < (Ca.length:Int)
         ·rw [if_pos BI] at H;have oP:decide (Me < (Ca.length:Int))=true:=decide_eq_true BI;clear BI
          by_cases yD:0 ≤ Me
          ·rw [if_pos yD] at H;have xz:decide (0 ≤ Me)=true:=decide_eq_true yD;clear yD
           by_cases Sw:(wrap64 (kF + (((Ea Ca Me).f0).length:Int))) > 1000
           ·rw [if_pos Sw] at H;have UA:decide (1000 < (wrap64 (kF + (((Ea Ca Me).f0).length:Int))))=true:=decide_eq_true Sw;clear Sw;obtain rfl:=Option.some.inj H;have dz:wr.cell? ⟨ya,0,none⟩=some (.slice Wa Oa.length Ya):=(ga oa.out 0).trans rfl;have bz:wr.cell? ⟨ya,1,none⟩=some (.int .i64 Ja):=(ga oa.out 1).trans rfl;have az:wr.cell? ⟨ya,2,none⟩=some (.int .i64 Fa):=(ga oa.out 2).trans rfl;have Zy:wr.cell? ⟨ya,3,none⟩=some (.int .i64 Ia):=(ga oa.out 3).trans rfl;have Yy:wr.cell? ⟨ya,4,none⟩=some (.slice Ob Ca.length Cb):=(ga oa.out 4).trans rfl;have Gy:=aa oa.out 0;have Fy:=aa oa.out 1;have Ey:=aa oa.out 2;have Dy:=aa oa.out 3;have Cy:=aa oa.out 4;have Dh:0 ≤ (Me:Int):=Sa;have Ch:Me < (Ca.length:Int):=Sa;obtain ⟨Kf,Jm,Cm,Wn,ue,Nj,Mj,Lj,Kj,Qj,Sj⟩:=wj Ce.out Me Dh Ch;cases Wn;replace ue:=Qa HB.out ue;replace Nj:=Qa HB.out Nj;replace Mj:=Qa HB.out Mj;replace Lj:=Qa HB.out Lj;replace Kj:=Qa HB.out Kj;have yC:=ja.mk Sj;have zC:=ja.mk Qj;clear Sj Qj;replace Dh:=eq_true Dh;replace Ch:=eq_true Ch
            try go_wp2
            have Eb:=ja.mk (Da oa.out);have Jb:=ja.mk (ta HB.out);clear oa HB;have oa:=Eb;have HB:=Jb;clear Eb Jb;refine Qm (n:=12) (S:=fun w'=>True) (ds:=[]) #[false,false,false,false,false,false,false,false,false,false,false,false] (by kernel_rfl) rfl rfl trivial (fun hHeld=>?_);refine Dj Xa.yR Xa.RL (fun dg Tv=>?_);generalize wr.drew=tI at oa HB hHeld ⊢;refine zd (i:=0) (N:=some 75) (v:=?_) (a':=?_) #[true,false,false,false,false,false,false,false,false,false,false,false] rfl rfl (Xc dg.out (by kernel_rfl)) (fun _ _ _ h=>h) (Or.inl ⟨by rfl,?_⟩) ?_ ?_;rotate_left
            ·intro w';go_simp;with_reducible rfl
            rotate_left
            ·simp only [Act.put,List.setIfInBounds_toArray,List.set_cons_zero,List.set_cons_succ,ic,jc]
             rfl
            refine zd (i:=1) (N:=some 76) (v:=?_) (a':=?_) #[true,true,false,false,false,false,false,false,false,false,false,false] rfl rfl (Xc dg.out (by kernel_rfl)) (fun _ _ _ h=>h) (Or.inl ⟨by rfl,?_⟩) ?_ ?_;rotate_left
            ·intro w';go_simp;with_reducible rfl
            rotate_left
            ·simp only [Act.put,List.setIfInBounds_toArray,List.set_cons_zero,List.set_cons_succ,ic,jc]
             rfl
            refine zd (i:=2) (N:=some 77) (v:=?_) (a':=?_) #[true,true,true,false,false,false,false,false,false,false,false,false] rfl rfl (Xc dg.out (by kernel_rfl)) (fun _ _ _ h=>h) (Or.inl ⟨by rfl,?_⟩) ?_ ?_;rotate_left
            ·intro w';go_simp;with_reducible rfl
            rotate_left
            ·simp only [Act.put,List.setIfInBounds_toArray,List.set_cons_zero,List.set_cons_succ,ic,jc]
             rfl
            refine zd (i:=3) (N:=some 78) (v:=undef) (a':=?_) #[true,true,true,true,false,false,false,false,false,false,false,false] rfl rfl (Xc dg.out (by kernel_rfl)) (fun _ _ _ h=>h) (Or.inr ⟨by rfl,rfl⟩) ?_ ?_;rotate_left
            ·simp only [Act.put,List.setIfInBounds_toArray,List.set_cons_zero,List.set_cons_succ,ic,jc]
             rfl
            refine zd (i:=4) (N:=some 79) (v:=undef) (a':=?_) #[true,true,true,true,true,false,false,false,false,false,false,false] rfl rfl (Xc dg.out (by kernel_rfl)) (fun _ _ _ h=>h) (Or.inr ⟨by rfl,rfl⟩) ?_ ?_;rotate_left
            ·simp only [Act.put,List.setIfInBounds_toArray,List.set_cons_zero,List.set_cons_succ,ic,jc]
             rfl
            refine zd (i:=5) (N:=some 80) (v:=undef) (a':=?_) #[true,true,true,true,true,true,false,false,false,false,false,false] rfl rfl (Xc dg.out (by kernel_rfl)) (fun _ _ _ h=>h) (Or.inr ⟨by rfl,rfl⟩) ?_ ?_;rotate_left
            ·simp only [Act.put,List.setIfInBounds_toArray,List.set_cons_zero,List.set_cons_succ,ic,jc]
             rfl
            refine zd (i:=6) (N:=some 81) (v:=undef) (a':=?_) #[true,true,true,true,true,true,true,false,false,false,false,false] rfl rfl (Xc dg.out (by kernel_rfl)) (fun _ _ _ h=>h) (Or.inr ⟨by rfl,rfl⟩) ?_ ?_;rotate_left
            ·simp only [Act.put,List.setIfInBounds_toArray,List.set_cons_zero,List.set_cons_succ,ic,jc]
             rfl
            refine zd (i:=7) (N:=some 82) (v:=undef) (a':=?_) #[true,true,true,true,true,true,true,true,false,false,false,false] rfl rfl (Xc dg.out (by kernel_rfl)) (fun _ _ _ h=>h) (Or.inr ⟨by rfl,rfl⟩) ?_ ?_;rotate_left
            ·simp only [Act.put,List.setIfInBounds_toArray,List.set_cons_zero,List.set_cons_succ,ic,jc]
             rfl
            refine zd (i:=8) (N:=some 83) (v:=undef) (a':=?_) #[true,true,true,true,true,true,true,true,true,false,false,false] rfl rfl (Xc dg.out (by kernel_rfl)) (fun _ _ _ h=>h) (Or.inr ⟨by rfl,rfl⟩) ?_ ?_;rotate_left
            ·simp only [Act.put,List.setIfInBounds_toArray,List.set_cons_zero,List.set_cons_succ,ic,jc]
             rfl
            refine zd (i:=9) (N:=some 84) (v:=undef) (a':=?_) #[true,true,true,true,true,true,true,true,true,true,false,false] rfl rfl (Xc dg.out (by kernel_rfl)) (fun _ _ _ h=>h) (Or.inr ⟨by rfl,rfl⟩) ?_ ?_;rotate_left
            ·simp only [Act.put,List.setIfInBounds_toArray,List.set_cons_zero,List.set_cons_succ,ic,jc]
             rfl
            refine zd (i:=10) (N:=some 85) (v:=undef) (a':=?_) #[true,true,true,true,true,true,true,true,true,true,true,false] rfl rfl (Xc dg.out (by kernel_rfl)) (fun _ _ _ h=>h) (Or.inr ⟨by rfl,rfl⟩) ?_ ?_;rotate_left
            ·simp only [Act.put,List.setIfInBounds_toArray,List.set_cons_zero,List.set_cons_succ,ic,jc]
             rfl
            refine zd (i:=11) (N:=some 86) (v:=?_) (a':=?_) #[true,true,true,true,true,true,true,true,true,true,true,true] rfl rfl (Xc dg.out (by kernel_rfl)) (fun _ _ _ h=>h) (Or.inl ⟨by rfl,?_⟩) ?_ ?_;rotate_left
            ·intro w';go_simp;with_reducible rfl
            rotate_left
            ·simp only [Act.put,List.setIfInBounds_toArray,List.set_cons_zero,List.set_cons_succ,ic,jc]
             rfl
            refine Sr (sn dg.out (by kernel_rfl)) ?_
            try go_wp2
            go_ret;exact ⟨by first|rfl|(simp [Ma,La] <;> rfl)|(simp [*,Ma,La] <;> rfl),by repeat (first|(with_reducible first|exact HB.out|apply qa|apply ia|apply ta|refine ua ?_ Ra.out)|exact HB.out)⟩
           ·rw [if_neg Sw] at H;have UA:decide (1000 < (wrap64 (kF + (((Ea Ca Me).f0).length:Int))))=false:=decide_eq_false Sw;clear Sw;replace H:=Option.bind_eq_some_iff.mp H;obtain ⟨t111,Kad,H⟩:=H;replace H:(if t111=true then (Xa.l1 k3 (wrap64 (kF + (((Ea Ca Me).f0).length:Int))) (wrap64 (Me + 1)) Oa Ja Fa Ia Ca) else (some false))=some r:=H;have A33:=ja.mk Kad;clear Kad
            by_cases wJ:t111=true
            ·subst wJ;have H1:(Xa.l1 k3 (wrap64 (kF + (((Ea Ca Me).f0).length:Int))) (wrap64 (Me + 1)) Oa Ja Fa Ia Ca)=some r:=by rw [if_pos rfl] at H;exact H
             clear H;have H:=H1;clear H1;have H':=ja.mk H;clear H;have AO:wr.cell? ⟨ya,0,none⟩=some (.slice Wa Oa.length Ya):=(ga oa.out 0).trans rfl;have zO:wr.cell? ⟨ya,1,none⟩=some (.int .i64 Ja):=(ga oa.out 1).trans rfl;have yO:wr.cell? ⟨ya,2,none⟩=some (.int .i64 Fa):=(ga oa.out 2).trans rfl;have xO:wr.cell? ⟨ya,3,none⟩=some (.int .i64 Ia):=(ga oa.out 3).trans rfl;have wO:wr.cell? ⟨ya,4,none⟩=some (.slice Ob Ca.length Cb):=(ga oa.out 4).trans rfl;have DN:=aa oa.out 0;have CN:=aa oa.out 1;have BN:=aa oa.out 2;have zN:=aa oa.out 3;have yN:=aa oa.out 4;have Dh:0 ≤ (Me:Int):=Sa;have Ch:Me < (Ca.length:Int):=Sa;obtain ⟨Kf,Jm,Cm,Wn,ue,Nj,Mj,Lj,Kj,Qj,Sj⟩:=wj Ce.out Me Dh Ch;cases Wn;replace ue:=Qa HB.out ue;replace Nj:=Qa HB.out Nj;replace Mj:=Qa HB.out Mj;replace Lj:=Qa HB.out Lj;replace Kj:=Qa HB.out Kj;have yC:=ja.mk Sj;have zC:=ja.mk Qj;clear Sj Qj;replace Dh:=eq_true Dh;replace Ch:=eq_true Ch
             try go_wp2
             have Eb:=ja.mk (Da oa.out);have Jb:=ja.mk (ta HB.out);clear oa HB;have oa:=Eb;have HB:=Jb;clear Eb Jb;have Bl:0 ≤ (Me:Int):=Sa;have Al:Me < (Ca.length:Int):=Sa;obtain ⟨Wp,UD,CD,Pw,Lf,Bo,Ao,zo,yo,gy,oy⟩:=wj Ce.out Me Bl Al;have Jx:=yo;have Kx:=zo;have Lx:=Ao;have Mx:=Bo;have Nx:=Lf;obtain rfl:Kf=Wp:=(by injection Pw);replace Lf:=Qa HB.out Lf;replace Bo:=Qa HB.out Bo;replace Ao:=Qa HB.out Ao;replace zo:=Qa HB.out zo;replace yo:=Qa HB.out yo;have Fz:=ja.mk oy;have nI:=ja.mk gy;clear oy gy;replace Bl:=eq_true Bl;replace Al:=eq_true Al;refine Qm (n:=12) (S:=fun w'=>w'.cell? ⟨ya,0,none⟩=some (.slice Wa Oa.length Ya)∧w'.cell? ⟨ya,1,none⟩=some (.int .i64 Ja)∧w'.cell? ⟨ya,2,none⟩=some (.int .i64 Fa)∧w'.cell? ⟨ya,3,none⟩=some (.int .i64 Ia)∧w'.cell? ⟨ya,4,none⟩=some (.slice (some Kf) Ca.length Cb)∧w'.cell? (Kf.add ((Me).toNat * 5))=some (.slice UD ((Ea Ca Me).f0).length CD)∧w'.cell? ⟨(Kf.add ((Me).toNat * 5)).block,(Kf.add ((Me).toNat * 5)).off + 1,none⟩=some (.int .i64 ((Ea Ca Me).f1))∧w'.cell? ⟨(Kf.add ((Me).toNat * 5)).block,(Kf.add ((Me).toNat * 5)).off + 2,none⟩=some (.int .i64 ((Ea Ca Me).f2))∧w'.cell? ⟨(Kf.add ((Me).toNat * 5)).block,(Kf.add ((Me).toNat * 5)).off + 3,none⟩=some (.int .i64 ((Ea Ca Me).f3))∧w'.cell? ⟨(Kf.add ((Me).toNat * 5)).block,(Kf.add ((Me).toNat * 5)).off + 4,none⟩=some (.int .i64 ((Ea Ca Me).f4))) (ds:=[]) #[false,false,false,false,false,false,false,false,false,false,false,false] (by kernel_rfl) rfl rfl ⟨(ga oa.out 0).trans rfl,(ga oa.out 1).trans rfl,(ga oa.out 2).trans rfl,(ga oa.out 3).trans rfl,(ga oa.out 4).trans rfl,(Qa HB.out Nx),(Qa HB.out Mx),(Qa HB.out Lx),(Qa HB.out Kx),(Qa HB.out Jx)⟩ (fun hHeld=>?_);refine Dj Xa.yR Xa.RL (fun dg Tv=>?_);generalize wr.drew=FC at oa HB Fz Lf Bo Ao zo yo hHeld ⊢;refine zd (i:=0) (N:=some 75) (v:=?_) (a':=?_) #[true,false,false,false,false,false,false,false,false,false,false,false] rfl rfl (Xc dg.out (by kernel_rfl)) (fun _ _ _ h=>h) (Or.inl ⟨by rfl,?_⟩) ?_ ?_;rotate_left
             ·intro w';go_simp;with_reducible rfl
             rotate_left
             ·simp only [Act.put,List.setIfInBounds_toArray,List.set_cons_zero,List.set_cons_succ,ic,jc]
              rfl
             refine zd (i:=1) (N:=some 76) (v:=?_) (a':=?_) #[true,true,false,false,false,false,false,false,false,false,false,false] rfl rfl (Xc dg.out (by kernel_rfl)) (fun _ _ _ h=>h) (Or.inl ⟨by rfl,?_⟩) ?_ ?_;rotate_left
             ·intro w';go_simp;with_reducible rfl
             rotate_left
             ·simp only [Act.put,List.setIfInBounds_toArray,List.set_cons_zero,List.set_cons_succ,ic,jc]
              rfl
             refine zd (i:=2) (N:=some 77) (v:=?_) (a':=?_) #[true,true,true,false,false,false,false,false,false,false,false,false] rfl rfl (Xc dg.out (by kernel_rfl)) (fun _ _ _ h=>h) (Or.inl ⟨by rfl,?_⟩) ?_ ?_;rotate_left
             ·intro w';go_simp;with_reducible rfl
             rotate_left
             ·simp only [Act.put,List.setIfInBounds_toArray,List.set_cons_zero,List.set_cons_succ,ic,jc]
              rfl
             refine zd (i:=4) (N:=some 79) (v:=?_) (a':=?_) #[true,true,true,false,true,false,false,false,false,false,false,false] rfl rfl (Xc dg.out (by kernel_rfl)) (fun _ _ _ h=>h) (Or.inl ⟨by rfl,?_⟩) ?_ ?_;rotate_left
             ·intro w';go_simp;with_reducible rfl
             rotate_left
             ·simp only [Act.put,List.setIfInBounds_toArray,List.set_cons_zero,List.set_cons_succ,ic,jc]
              rfl
             refine zd (i:=6) (N:=some 81) (v:=?_) (a':=?_) #[true,true,true,false,true,false,true,false,false,false,false,false] rfl rfl (Xc dg.out (by kernel_rfl)) (fun _ _ _ h=>h) (Or.inl ⟨by rfl,?_⟩) ?_ ?_;rotate_left
             ·intro w';go_simp;with_reducible rfl
             rotate_left
             ·simp only [Act.put,List.setIfInBounds_toArray,List.set_cons_zero,List.set_cons_succ,ic,jc]
              rfl
             refine Fh (i:=3) (N:=some 78) (v:=?_) (a':=?_) #[true,true,true,true,true,false,true,false,false,false,false,false] rfl rfl (uf dg.out Tv.out (by kernel_rfl)) (fun _ _ _ h=>h) (Or.inl ⟨by rfl,?_⟩) hHeld ?_ ?_;rotate_left
             ·rintro w' ⟨s0,s1,s2,s3,s4,s5,s6,s7,s8,s9⟩;go_simp;with_reducible rfl
             rotate_left
             ·simp only [Act.put,List.setIfInBounds_toArray,List.set_cons_zero,List.set_cons_succ,ic,jc]
              rfl
             refine Fh (i:=5) (N:=some 80) (v:=?_) (a':=?_) #[true,true,true,true,true,true,true,false,false,false,false,false] rfl rfl (uf dg.out Tv.out (by kernel_rfl)) (fun _ _ _ h=>h) (Or.inl ⟨by rfl,?_⟩) hHeld ?_ ?_;rotate_left
             ·rintro w' ⟨s0,s1,s2,s3,s4,s5,s6,s7,s8,s9⟩;go_simp;with_reducible rfl
             rotate_left
             ·simp only [Act.put,List.setIfInBounds_toArray,List.set_cons_zero,List.set_cons_succ,ic,jc]
              rfl
             refine zd (i:=7) (N:=some 82) (v:=?_) (a':=?_) #[true,true,true,true,true,true,true,true,false,false,false,false] rfl rfl (Xc dg.out (by kernel_rfl)) (fun _ _ _ h=>h) (Or.inl ⟨by rfl,?_⟩) ?_ ?_;rotate_left
             ·intro w';go_simp;with_reducible rfl
             rotate_left
             ·simp only [Act.put,List.setIfInBounds_toArray,List.set_cons_zero,List.set_cons_succ,ic,jc]
              rfl
             refine Fh (i:=8) (N:=some 83) (v:=?_) (a':=?_) #[true,true,true,true,true,true,true,true,true,false,false,false] rfl rfl (uf dg.out Tv.out (by kernel_rfl)) (fun _ _ _ h=>h) (Or.inl ⟨by rfl,?_⟩) hHeld ?_ ?_;rotate_left
             ·rintro w' ⟨s0,s1,s2,s3,s4,s5,s6,s7,s8,s9⟩;go_simp;with_reducible rfl
             rotate_left
             ·simp only [Act.put,List.setIfInBounds_toArray,List.set_cons_zero,List.set_cons_succ,ic,jc]
              rfl
             refine Jw (i:=9) (N:=some 84) #[true,true,true,true,true,true,true,true,true,true,false,false] rfl rfl (Ts dg.out (by kernel_rfl)) (by decide) (fun K hK=>?_);refine eu Try.func71 (by kernel_rfl) rfl #[.agg #[.slice Wa Oa.length Ya,.int .i64 Ja,.int .i64 Fa,.int .i64 Ia,.slice (some Kf) Ca.length Cb],.agg #[.slice UD ((Ea Ca Me).f0).length CD,.int .i64 ((Ea Ca Me).f1),.int .i64 ((Ea Ca Me).f2),.int .i64 ((Ea Ca Me).f3),.int .i64 ((Ea Ca Me).f4)]] (by rfl) rfl rfl (by (try simp only [List.map_toArray,List.map_cons,List.map_nil]);first|done|rfl|(simp only [List.length_drop,List.length_take];rfl)) ?_;with_reducible refine (oc.calls k3 _ _ Oa Ja Fa Ia _ _ Ca _ _ ((Ea Ca Me).f0) ((Ea Ca Me).f1) ((Ea Ca Me).f2) ((Ea Ca Me).f3) ((Ea Ca Me).f4) true _ ?dc ?Zb ?Rc ?Qc ?Dn ?Cn A33.out).mono ?_
             (case dc=>repeat (first|exact (Kd.Db Md.out HB.out)|(with_reducible refine Kd.Bb ?_ _)|(with_reducible refine Kd.Ab ?_ _)|(with_reducible refine Kd.Qb ?_)))
             (case Zb=>exact Rd.out)
             (case Rc=>repeat (first|exact (Kd.Db Ce.out HB.out)|(with_reducible refine Kd.Bb ?_ _)|(with_reducible refine Kd.Ab ?_ _)|(with_reducible refine Kd.Qb ?_)))
             (case Qc=>exact Ff.out)
             (case Dn=>repeat (first|exact (Kd.Db Fz.out HB.out)|(with_reducible refine Kd.Bb ?_ _)|(with_reducible refine Kd.Ab ?_ _)|(with_reducible refine Kd.Qb ?_)))
             (case Cn=>exact nI.out)
             rintro e GU ⟨rfl,hb⟩;refine ⟨_,rfl,?_⟩;have Eb:=ja.mk (Ta (g:=ya) (o:=.cells #[.slice Wa Oa.length Ya,.int .i64 Ja,.int .i64 Fa,.int .i64 Ia,.slice (some Kf) Ca.length Cb] 30 (0,0)) (by (with_reducible repeat (first|refine Aa ?_ _|refine Da ?_|refine Ba ?_ _));exact oa.out) hb);have Jb:=ja.mk (Na (by repeat (first|(with_reducible first|exact HB.out|apply qa|apply ia|apply ta|refine ua ?_ Ra.out)|exact HB.out)) hb);clear oa HB;have oa:=Eb;have HB:=Jb;clear Eb Jb;(try clear hb);(try clear ni);(try clear hk);(try clear hi);refine hK.out _ _ ⟨(ga oa.out 0).trans rfl,(ga oa.out 1).trans rfl,(ga oa.out 2).trans rfl,(ga oa.out 3).trans rfl,(ga oa.out 4).trans rfl,(Qa HB.out Nx),(Qa HB.out Mx),(Qa HB.out Lx),(Qa HB.out Kx),(Qa HB.out Jx)⟩ (fun hHeld=>?_);clear hK K;refine yp (a':=?_) ?_ ?_;rotate_left
             ·show Act.put _ (some 84) _=_
              simp only [Act.put,List.setIfInBounds_toArray,List.set_cons_zero,List.set_cons_succ,ic,jc]
              rfl
             refine zd (i:=10) (N:=some 85) (v:=?_) (a':=?_) #[true,true,true,true,true,true,true,true,true,true,true,false] rfl rfl (Xc dg.out (by kernel_rfl)) (fun _ _ _ h=>h) (Or.inl ⟨by rfl,?_⟩) ?_ ?_;rotate_left
             ·intro w';go_simp;with_reducible rfl
             rotate_left
             ·simp only [Act.put,List.setIfInBounds_toArray,List.set_cons_zero,List.set_cons_succ,ic,jc]
              rfl
             refine zd (i:=11) (N:=some 86) (v:=?_) (a':=?_) #[true,true,true,true,true,true,true,true,true,true,true,true] rfl rfl (Xc dg.out (by kernel_rfl)) (fun _ _ _ h=>h) (Or.inl ⟨by rfl,?_⟩) ?_ ?_;rotate_left
             ·intro w';go_simp;with_reducible rfl
             rotate_left
             ·simp only [Act.put,List.setIfInBounds_toArray,List.set_cons_zero,List.set_cons_succ,ic,jc]
              rfl
             refine Sr (sn dg.out (by kernel_rfl)) ?_
             try go_wp2
             go_roundg k3
             case measure=>have:=Rh.out;have:=HJ8.out;have:=Es.out;omega
             case rel=>exact ⟨(wrap64 (kF + (((Ea Ca Me).f0).length:Int))),(wrap64 (Me + 1)),(by first|rfl|(simp;done)|(simp [*];done)),(by first|rfl|(simp;done)|(simp [*];done)),H',⟨by have:=Rh.out;have:=HJ8.out;have:=Es.out;omega⟩,⟨by (with_reducible repeat (first|refine Aa ?_ _|refine Da ?_|refine Ba ?_ _));exact oa.out⟩,⟨by repeat (first|(with_reducible first|exact HB.out|apply qa|apply ia|apply ta|refine ua ?_ Ra.out)|exact HB.out)⟩⟩
            ·replace wJ:=Bool.eq_false_iff.mpr wJ;subst wJ;have H1:(some false)=some r:=by rw [if_neg (show ¬ (false=true) by decide)] at H;exact H
             clear H;have H:=H1;clear H1;obtain rfl:=Option.some.inj H;have XB:wr.cell? ⟨ya,0,none⟩=some (.slice Wa Oa.length Ya):=(ga oa.out 0).trans rfl;have WB:wr.cell? ⟨ya,1,none⟩=some (.int .i64 Ja):=(ga oa.out 1).trans rfl;have VB:wr.cell? ⟨ya,2,none⟩=some (.int .i64 Fa):=(ga oa.out 2).trans rfl;have UB:wr.cell? ⟨ya,3,none⟩=some (.int .i64 Ia):=(ga oa.out 3).trans rfl;have TB:wr.cell? ⟨ya,4,none⟩=some (.slice Ob Ca.length Cb):=(ga oa.out 4).trans rfl;have xB:=aa oa.out 0;have wB:=aa oa.out 1;have vB:=aa oa.out 2;have uB:=aa oa.out 3;have tB:=aa oa.out 4;have Dh:0 ≤ (Me:Int):=Sa;have Ch:Me < (Ca.length:Int):=Sa;obtain ⟨Kf,Jm,Cm,Wn,ue,Nj,Mj,Lj,Kj,Qj,Sj⟩:=wj Ce.out Me Dh Ch;cases Wn;replace ue:=Qa HB.out ue;replace Nj:=Qa HB.out Nj;replace Mj:=Qa HB.out Mj;replace Lj:=Qa HB.out Lj;replace Kj:=Qa HB.out Kj;have yC:=ja.mk Sj;have zC:=ja.mk Qj;clear Sj Qj;replace Dh:=eq_true Dh;replace Ch:=eq_true Ch
             try go_wp2
             have Eb:=ja.mk (Da oa.out);have Jb:=ja.mk (ta HB.out);clear oa HB;have oa:=Eb;have HB:=Jb;clear Eb Jb;have Bl:0 ≤ (Me:Int):=Sa;have Al:Me < (Ca.length:Int):=Sa;obtain ⟨Wp,UD,CD,Pw,Lf,Bo,Ao,zo,yo,gy,oy⟩:=wj Ce.out Me Bl Al;have Jx:=yo;have Kx:=zo;have Lx:=Ao;have Mx:=Bo;have Nx:=Lf;obtain rfl:Kf=Wp:=(by injection Pw);replace Lf:=Qa HB.out Lf;replace Bo:=Qa HB.out Bo;replace Ao:=Qa HB.out Ao;replace zo:=Qa HB.out zo;replace yo:=Qa HB.out yo;have Fz:=ja.mk oy;have nI:=ja.mk gy;clear oy gy;replace Bl:=eq_true Bl;replace Al:=eq_true Al;refine Qm (n:=12) (S:=fun w'=>w'.cell? ⟨ya,0,none⟩=some (.slice Wa Oa.length Ya)∧w'.cell? ⟨ya,1,none⟩=some (.int .i64 Ja)∧w'.cell? ⟨ya,2,none⟩=some (.int .i64 Fa)∧w'.cell? ⟨ya,3,none⟩=some (.int .i64 Ia)∧w'.cell? ⟨ya,4,none⟩=some (.slice (some Kf) Ca.length Cb)∧w'.cell? (Kf.add ((Me).toNat * 5))=some (.slice UD ((Ea Ca Me).f0).length CD)∧w'.cell? ⟨(Kf.add ((Me).toNat * 5)).block,(Kf.add ((Me).toNat * 5)).off + 1,none⟩=some (.int .i64 ((Ea Ca Me).f1))∧w'.cell? ⟨(Kf.add ((Me).toNat * 5)).block,(Kf.add ((Me).toNat * 5)).off + 2,none⟩=some (.int .i64 ((Ea Ca Me).f2))∧w'.cell? ⟨(Kf.add ((Me).toNat * 5)).block,(Kf.add ((Me).toNat * 5)).off + 3,none⟩=some (.int .i64 ((Ea Ca Me).f3))∧w'.cell? ⟨(Kf.add ((Me).toNat * 5)).block,(Kf.add ((Me).toNat * 5)).off + 4,none⟩=some (.int .i64 ((Ea Ca Me).f4))) (ds:=[]) #[false,false,false,false,false,false,false,false,false,false,false,false] (by kernel_rfl) rfl rfl ⟨(ga oa.out 0).trans rfl,(ga oa.out 1).trans rfl,(ga oa.out 2).trans rfl,(ga oa.out 3).trans rfl,(ga oa.out 4).trans rfl,(Qa HB.out Nx),(Qa HB.out Mx),(Qa HB.out Lx),(Qa HB.out Kx),(Qa HB.out Jx)⟩ (fun hHeld=>?_);refine Dj Xa.yR Xa.RL (fun dg Tv=>?_);generalize wr.drew=w39 at oa HB Fz Lf Bo Ao zo yo hHeld ⊢;refine zd (i:=0) (N:=some 75) (v:=?_) (a':=?_) #[true,false,false,false,false,false,false,false,false,false,false,false] rfl rfl (Xc dg.out (by kernel_rfl)) (fun _ _ _ h=>h) (Or.inl ⟨by rfl,?_⟩) ?_ ?_;rotate_left
             ·intro w';go_simp;with_reducible rfl
             rotate_left
             ·simp only [Act.put,List.setIfInBounds_toArray,List.set_cons_zero,List.set_cons_succ,ic,jc]
              rfl
             refine zd (i:=1) (N:=some 76) (v:=?_) (a':=?_) #[true,true,false,false,false,false,false,false,false,false,false,false] rfl rfl (Xc dg.out (by kernel_rfl)) (fun _ _ _ h=>h) (Or.inl ⟨by rfl,?_⟩) ?_ ?_;rotate_left
             ·intro w';go_simp;with_reducible rfl
             rotate_left
             ·simp only [Act.put,List.setIfInBounds_toArray,List.set_cons_zero,List.set_cons_succ,ic,jc]
              rfl
             refine zd (i:=2) (N:=some 77) (v:=?_) (a':=?_) #[true,true,true,false,false,false,false,false,false,false,false,false] rfl rfl (Xc dg.out (by kernel_rfl)) (fun _ _ _ h=>h) (Or.inl ⟨by rfl,?_⟩) ?_ ?_;rotate_left
             ·intro w';go_simp;with_reducible rfl
             rotate_left
             ·simp only [Act.put,List.setIfInBounds_toArray,List.set_cons_zero,List.set_cons_succ,ic,jc]
              rfl
             refine zd (i:=4) (N:=some 79) (v:=?_) (a':=?_) #[true,true,true,false,true,false,false,false,false,false,false,false] rfl rfl (Xc dg.out (by kernel_rfl)) (fun _ _ _ h=>h) (Or.inl ⟨by rfl,?_⟩) ?_ ?_;rotate_left
             ·intro w';go_simp;with_reducible rfl
             rotate_left
             ·simp only [Act.put,List.setIfInBounds_toArray,List.set_cons_zero,List.set_cons_succ,ic,jc]
              rfl
             refine zd (i:=6) (N:=some 81) (v:=?_) (a':=?_) #[true,true,true,false,true,false,true,false,false,false,false,false] rfl rfl (Xc dg.out (by kernel_rfl)) (fun _ _ _ h=>h) (Or.inl ⟨by rfl,?_⟩) ?_ ?_;rotate_left
             ·intro w';go_simp;with_reducible rfl
             rotate_left
             ·simp only [Act.put,List.setIfInBounds_toArray,List.set_cons_zero,List.set_cons_succ,ic,jc]
              rfl
             refine Fh (i:=3) (N:=some 78) (v:=?_) (a':=?_) #[true,true,true,true,true,false,true,false,false,false,false,false] rfl rfl (uf dg.out Tv.out (by kernel_rfl)) (fun _ _ _ h=>h) (Or.inl ⟨by rfl,?_⟩) hHeld ?_ ?_;rotate_left
             ·rintro w' ⟨s0,s1,s2,s3,s4,s5,s6,s7,s8,s9⟩;go_simp;with_reducible rfl
             rotate_left
             ·simp only [Act.put,List.setIfInBounds_toArray,List.set_cons_zero,List.set_cons_succ,ic,jc]
              rfl
             refine Fh (i:=5) (N:=some 80) (v:=?_) (a':=?_) #[true,true,true,true,true,true,true,false,false,false,false,false] rfl rfl (uf dg.out Tv.out (by kernel_rfl)) (fun _ _ _ h=>h) (Or.inl ⟨by rfl,?_⟩) hHeld ?_ ?_;rotate_left
             ·rintro w' ⟨s0,s1,s2,s3,s4,s5,s6,s7,s8,s9⟩;go_simp;with_reducible rfl
             rotate_left
             ·simp only [Act.put,List.setIfInBounds_toArray,List.set_cons_zero,List.set_cons_succ,ic,jc]
              rfl
             refine zd (i:=7) (N:=some 82) (v:=?_) (a':=?_) #[true,true,true,true,true,true,true,true,false,false,false,false] rfl rfl (Xc dg.out (by kernel_rfl)) (fun _ _ _ h=>h) (Or.inl ⟨by rfl,?_⟩) ?_ ?_;rotate_left
             ·intro w';go_simp;with_reducible rfl
             rotate_left
             ·simp only [Act.put,List.setIfInBounds_toArray,List.set_cons_zero,List.set_cons_succ,ic,jc]
              rfl
             refine Fh (i:=8) (N:=some 83) (v:=?_) (a':=?_) #[true,true,true,true,true,true,true,true,true,false,false,false] rfl rfl (uf dg.out Tv.out (by kernel_rfl)) (fun _ _ _ h=>h) (Or.inl ⟨by rfl,?_⟩) hHeld ?_ ?_;rotate_left
             ·rintro w' ⟨s0,s1,s2,s3,s4,s5,s6,s7,s8,s9⟩;go_simp;with_reducible rfl
             rotate_left
             ·simp only [Act.put,List.setIfInBounds_toArray,List.set_cons_zero,List.set_cons_succ,ic,jc]
              rfl
             refine Jw (i:=9) (N:=some 84) #[true,true,true,true,true,true,true,true,true,true,false,false] rfl rfl (Ts dg.out (by kernel_rfl)) (by decide) (fun K hK=>?_);refine eu Try.func71 (by kernel_rfl) rfl #[.agg #[.slice Wa Oa.length Ya,.int .i64 Ja,.int .i64 Fa,.int .i64 Ia,.slice (some Kf) Ca.length Cb],.agg #[.slice UD ((Ea Ca Me).f0).length CD,.int .i64 ((Ea Ca Me).f1),.int .i64 ((Ea Ca Me).f2),.int .i64 ((Ea Ca Me).f3),.int .i64 ((Ea Ca Me).f4)]] (by rfl) rfl rfl (by (try simp only [List.map_toArray,List.map_cons,List.map_nil]);first|done|rfl|(simp only [List.length_drop,List.length_take];rfl)) ?_;with_reducible refine (oc.calls k3 _ _ Oa Ja Fa Ia _ _ Ca _ _ ((Ea Ca Me).f0) ((Ea Ca Me).f1) ((Ea Ca Me).f2) ((Ea Ca Me).f3) ((Ea Ca Me).f4) false _ ?dc ?Zb ?Rc ?Qc ?Dn ?Cn A33.out).mono ?_
             (case dc=>repeat (first|exact (Kd.Db Md.out HB.out)|(with_reducible refine Kd.Bb ?_ _)|(with_reducible refine Kd.Ab ?_ _)|(with_reducible refine Kd.Qb ?_)))
             (case Zb=>exact Rd.out)
             (case Rc=>repeat (first|exact (Kd.Db Ce.out HB.out)|(with_reducible refine Kd.Bb ?_ _)|(with_reducible refine Kd.Ab ?_ _)|(with_reducible refine Kd.Qb ?_)))
             (case Qc=>exact Ff.out)
             (case Dn=>repeat (first|exact (Kd.Db Fz.out HB.out)|(with_reducible refine Kd.Bb ?_ _)|(with_reducible refine Kd.Ab ?_ _)|(with_reducible refine Kd.Qb ?_)))
             (case Cn=>exact nI.out)
             rintro e EY ⟨rfl,hb⟩;refine ⟨_,rfl,?_⟩;have Eb:=ja.mk (Ta (g:=ya) (o:=.cells #[.slice Wa Oa.length Ya,.int .i64 Ja,.int .i64 Fa,.int .i64 Ia,.slice (some Kf) Ca.length Cb] 30 (0,0)) (by (with_reducible repeat (first|refine Aa ?_ _|refine Da ?_|refine Ba ?_ _));exact oa.out) hb);have Jb:=ja.mk (Na (by repeat (first|(with_reducible first|exact HB.out|apply qa|apply ia|apply ta|refine ua ?_ Ra.out)|exact HB.out)) hb);clear oa HB;have oa:=Eb;have HB:=Jb;clear Eb Jb;(try clear hb);(try clear ni);(try clear hk);(try clear hi);refine hK.out _ _ ⟨(ga oa.out 0).trans rfl,(ga oa.out 1).trans rfl,(ga oa.out 2).trans rfl,(ga oa.out 3).trans rfl,(ga oa.out 4).trans rfl,(Qa HB.out Nx),(Qa HB.out Mx),(Qa HB.out Lx),(Qa HB.out Kx),(Qa HB.out Jx)⟩ (fun hHeld=>?_);clear hK K;refine yp (a':=?_) ?_ ?_;rotate_left
             ·show Act.put _ (some 84) _=_
              simp only [Act.put,List.setIfInBounds_toArray,List.set_cons_zero,List.set_cons_succ,ic,jc]
              rfl
             refine zd (i:=10) (N:=some 85) (v:=?_) (a':=?_) #[true,true,true,true,true,true,true,true,true,true,true,false] rfl rfl (Xc dg.out (by kernel_rfl)) (fun _ _ _ h=>h) (Or.inl ⟨by rfl,?_⟩) ?_ ?_;rotate_left
             ·intro w';go_simp;with_reducible rfl
             rotate_left
             ·simp only [Act.put,List.setIfInBounds_toArray,List.set_cons_zero,List.set_cons_succ,ic,jc]
              rfl
             refine zd (i:=11) (N:=some 86) (v:=?_) (a':=?_) #[true,true,true,true,true,true,true,true,true,true,true,true] rfl rfl (Xc dg.out (by kernel_rfl)) (fun _ _ _ h=>h) (Or.inl ⟨by rfl,?_⟩) ?_ ?_;rotate_left
             ·intro w';go_simp;with_reducible rfl
             rotate_left
             ·simp only [Act.put,List.setIfInBounds_toArray,List.set_cons_zero,List.set_cons_succ,ic,jc]
              rfl
             refine Sr (sn dg.out (by kernel_rfl)) ?_
             try go_wp2
             go_ret;exact ⟨by first|rfl|(simp [Ma,La] <;> rfl)|(simp [*,Ma,La] <;> rfl),by repeat (first|(with_reducible first|exact HB.out|apply qa|apply ia|apply ta|refine ua ?_ Ra.out)|exact HB.out)⟩
          ·rw [if_neg yD] at H;exact absurd H (by simp)
         ·rw [if_neg BI] at H;have oP:decide (Me < (Ca.length:Int))=false:=decide_eq_false BI;clear BI;obtain rfl:=Option.some.inj H;have oH:wr.cell? ⟨ya,0,none⟩=some (.slice Wa Oa.length Ya):=(ga oa.out 0).trans rfl;have nH:wr.cell? ⟨ya,1,none⟩=some (.int .i64 Ja):=(ga oa.out 1).trans rfl;have mH:wr.cell? ⟨ya,2,none⟩=some (.int .i64 Fa):=(ga oa.out 2).trans rfl;have lH:wr.cell? ⟨ya,3,none⟩=some (.int .i64 Ia):=(ga oa.out 3).trans rfl;have kH:wr.cell? ⟨ya,4,none⟩=some (.slice Ob Ca.length Cb):=(ga oa.out 4).trans rfl;have nG:=aa oa.out 0;have mG:=aa oa.out 1;have lG:=aa oa.out 2;have kG:=aa oa.out 3;have jG:=aa oa.out 4;go_wp2;go_ret;exact ⟨by first|rfl|(simp [Ma,La] <;> rfl)|(simp [*,Ma,La] <;> rfl),by repeat (first|(with_reducible first|exact HB.out|apply qa|apply ia|apply ta|refine ua ?_ Ra.out)|exact HB.out)⟩
end Go.Proofs.Ytkigbdceceeenaa.P
end
section
namespace Go.Proofs.Ytkigbdceceeenaa.P
open Go.RowKit Go.Proofs.Pa.Xb Go.Proofs.Pa.Pd Go.Proofs.Pa.Oe
set_option linter.unusedVariables false
set_option linter.unusedSimpArgs false
open Classical in
noncomputable def lB (n:Nat) (p:Nat→Prop):Bool:=decide (∀ j,j < n→p j)
open Classical in
theorem VQ {n:Nat} {p:Nat→Prop} (h:∀ j,j < n→p j):lB n p=true:=by
 unfold lB;exact decide_eq_true h
open Classical in
theorem BJ {n:Nat} {p:Nat→Prop}:lB n p=true ↔ ∀ j,j < n→p j:=by
 unfold lB;exact decide_eq_true_iff
theorem VL {n i:Nat} {p:Nat→Prop} (hi:i < n) (h:¬ p i):lB n p=false:=by
 cases e:lB n p with
 | false=>rfl
 | true=>exact absurd (BJ.mp e i hi) h
theorem sL {ρ:Type} {n:Nat} {R e:ρ} (p:Nat→Prop) (f:Nat→Nat→Option ρ) (hend:Ev (f n) R) (hyes:∀ i,i < n→p i→∀ r,Ev (f (i + 1)) r→Ev (f i) r) (hno:∀ i,i < n→¬ p i→Ev (f i) e):Ev (f 0) (bif lB n p then R else e):=by
 have key:∀ d i,i + d=n→(∀ j,j < i→p j)→Ev (f i) (bif lB n p then R else e):=by
  intro d
  induction d with
  | zero =>
   intro i hi h;have:i=n:=by omega
   subst this;rw [VQ h];exact hend
  | succ d ih =>
   intro i hi h
   by_cases hp:p i
   ·refine hyes i (by omega) hp _ (ih (i + 1) (by omega) ?_);intro j hj
    by_cases hji:j=i
    ·rw [hji];exact hp
    ·exact h j (by omega)
   ·rw [VL (by omega) hp];exact hno i (by omega) hp
 exact key n 0 (by omega) (fun j hj=>absurd hj (by omega))
theorem FA {α:Type} (l:List α) (z:α) (q:α→Bool):lB l.length (fun j=>q (l.getD j z)=true) = !(l.any fun x=>!q x):=by
 rw [Bool.eq_iff_iff,BJ];simp only [Bool.not_eq_true',List.any_eq_false,Bool.not_eq_true',Bool.not_eq_false]
 constructor
 ·intro h x hx;obtain ⟨j,hj,rfl⟩:=List.mem_iff_getElem.mp hx;have:=h j hj;rw [List.getD_eq_getElem?_getD,List.getElem?_eq_getElem hj] at this
  simpa using this
 ·intro h j hj;have:=h l[j] (List.getElem_mem hj);rw [List.getD_eq_getElem?_getD,List.getElem?_eq_getElem hj]
  simpa using this
end Go.Proofs.Ytkigbdceceeenaa.P
end
section
namespace Go.Proofs.Ytkigbdceceeenaa.P
open Go.RowKit Go.Proofs.Pa.Xb Go.Proofs.Pa.Pd Go.Proofs.Pa.Oe
set_option linter.unusedVariables false
set_option linter.unusedSimpArgs false
theorem VI (a b c:Int):Za.f a b c=some (Pk a b c):=by
 unfold Za.f Pk
 by_cases h:a ≥ b
 ·rw [if_pos h];have h':b ≤ a:=h;simp [h']
 ·rw [if_neg h];have h':¬ b ≤ a:=h;simp [h']
end Go.Proofs.Ytkigbdceceeenaa.P
end
