import Derived.Test.YtkigbdceceeenaaQSpilled1
set_option maxHeartbeats 8000000
set_option maxRecDepth 100000
section
namespace Go.Proofs.Ytkigbdceceeenaa.P
open Go.RowKit Go.Proofs.Ma.Wb Go.Proofs.Ma.Jd Go.Proofs.Ma.Fe
set_option linter.unusedVariables false
set_option linter.unusedSimpArgs false
attribute [local go_sem] Gi Xi Jj ak Sh Rh Yi Wi
def Qg.f (Qa:List (Le)) (Ja:Int) (Ga:Int) (Ia:Int) (Db:Int) (l1:List Bool):Option (List Bool):=(some (([]:List Bool):List Bool)).bind fun Dd=>(if Dd.length + l1.length < 140737488355328 then ((some (Dd ++ l1:List Bool)).bind fun ie=>(if Ja=0 then (some ie) else (if 0 ≤ Ga then (if Ga < (ie.length:Int) then (some (ie.set (Ga:Int).toNat true)) else (none)) else (none)))) else (none))
theorem Qg.calls (Wa:Option Addr) (Xa:Nat) (Qa:List (Le)) (Ja:Int) (Ga:Int) (Ia:Int) (Db:Int) (A1:Option Addr) (c1:Nat) (l1:List Bool) (r:List Bool) (w:World) (Od:Kd.C Wk w Wa Qa.length Qa) (Md:Qa.length ≤ Xa) (Kp:Kd.C Kd.bool w A1 l1.length l1) (Xk:l1.length ≤ c1) (h:Qg.f Qa Ja Ga Ia Db l1=some r) :
  Calls Try.prog 42 #[.agg #[.slice Wa Qa.length Xa,.int .i64 Ja,.int .i64 Ga,.int .i64 Ia,.int .i64 Db],.slice A1 l1.length c1] w fun e w'=>∃ wm:Value,e = .returned (wm)∧Kd.R Kd.bool 4 w' w.heap.size (fun _=>True) wm r∧Below w.heap.size w w':=by
 have JB:=Try.underlying59;have fe:=ga.mk Od;have ye:=ga.mk Md;clear Od Md;have Uo:=ga.mk Kp;have FG:=ga.mk Xk;clear Kp Xk;have HB:=ga.mk (Below.refl w.heap.size w);have H:((some (([]:List Bool):List Bool)).bind fun Dd=>(if Dd.length + l1.length < 140737488355328 then ((some (Dd ++ l1:List Bool)).bind fun ie=>(if Ja=0 then (some ie) else (if 0 ≤ Ga then (if Ga < (ie.length:Int) then (some (ie.set (Ga:Int).toNat true)) else (none)) else (none)))) else (none)))=some r:=h;clear h;obtain ⟨Dd,kf⟩:∃ y_:List Bool,y_=(([]:List Bool)):=⟨_,rfl⟩;replace H:(if Dd.length + l1.length < 140737488355328 then ((some (Dd ++ l1:List Bool)).bind fun ie=>(if Ja=0 then (some ie) else (if 0 ≤ Ga then (if Ga < (ie.length:Int) then (some (ie.set (Ga:Int).toNat true)) else (none)) else (none)))) else (none))=some r:=by first|(rw [kf];with_reducible exact H)|(have Td:=(Option.bind_some _ _).symm.trans H;rw [kf];with_reducible exact Td)|(have Td:=(Option.bind_some _ _).symm.trans H;with_reducible exact Td)|with_reducible exact H|(rw [kf];exact H)|exact H
 have Ci:=ga.mk kf;clear kf
 by_cases c3:Dd.length + l1.length < 140737488355328
 ·rw [if_pos c3] at H;have Bak:=ga.mk c3;clear c3;obtain ⟨ie,Ff⟩:∃ y_:List Bool,y_=(Dd ++ l1):=⟨_,rfl⟩;replace H:(if Ja=0 then (some ie) else (if 0 ≤ Ga then (if Ga < (ie.length:Int) then (some (ie.set (Ga:Int).toNat true)) else (none)) else (none)))=some r:=by first|(rw [Ff];with_reducible exact H)|(have Td:=(Option.bind_some _ _).symm.trans H;rw [Ff];with_reducible exact Td)|(have Td:=(Option.bind_some _ _).symm.trans H;with_reducible exact Td)|with_reducible exact H|(rw [Ff];exact H)|exact H
  have om:=ga.mk Ff;clear Ff
  by_cases c4:Ja=0
  ·rw [if_pos c4] at H;have Tl:(Ja == 0)=true:=beq_iff_eq.mpr c4;have n7:(Ja != 0)=false:=bne_eq_false_iff_eq.mpr c4;clear c4;obtain rfl:=Option.some.inj H;go_enter Try.func42,Try.ntmps42;go_wp2_with (first|((with_reducible refine qb (N:=2) rfl ?_);refine Ib ?hg (N:=2) ?hd (cs:=#[.slice Wa Qa.length Xa,.int .i64 Ja,.int .i64 Ga,.int .i64 Ia,.int .i64 Db]) (t:=59) ?hr ?_;(case hd=>rfl);(case hg=>rfl);(case hr=>first|(go_simp;done)|(go_simp;rfl));intro ya hg w5 Sb hb;have Cb:=ga.mk (Na CaH hb);have Eb:=ga.mk (Sb);have Rb:=ga.mk ((by rw [hg];exact (La CaH):w.heap.size ≤ ya));have Gc:=ga.mk ((by rw [hg];exact (La CaH):w.heap.size ≤ ya));clear HB;have HB:=Cb;have oa:=Eb;have Nd:=Rb;have Ta:=Gc;clear Cb Eb Rb Gc hb Sb hg)|((with_reducible refine qb (N:=6) rfl ?_);refine Kd.Vj Kd.bool _ 4 ?hg (N:=6) ?hd (xs:=([]:List Bool)) (inner:=[]) (ok:=fun _=>True) (Di:=fun _=>True) ?hr ?hp (fun _ hk=>hk) trivial (Below.refl _ _) (Nat.le_refl _) (by simp) ?_;(case hd=>rfl);(case hg=>rfl);(case hr=>first|(go_simp;done)|(go_simp;rfl));(case hp=>exact (Sd.none _ _));intro Sm w6 QW hb Wm Ye;clear Wm Ye;(first|rw [← Ci.out] at QW|(simp only [Int.reduceToNat] at QW;rw [← Ci.out] at QW));have Cb:=ga.mk (Kd.Wd QW (La BaH));have Eb:=ga.mk (Va (g:=ya) (o:=.cells #[.slice Wa Qa.length Xa,.int .i64 Ja,.int .i64 Ga,.int .i64 Ia,.int .i64 Db] 59 (0,0)) DaH hb);have Rb:=ga.mk (Na BaH hb);clear oa HB;have Cg:=Cb;have oa:=Eb;have HB:=Rb;clear Cb Eb Rb hb QW)|((with_reducible refine we (b:=.append) (xs:=#[.tmp 6,.tmp 7]) rfl ?_);at_builtin;refine Kd.Tk Kd.bool (w0:=w) w.heap.size rfl (.tmp 6) (.tmp 7) 60 4 (.bool false) 1 rfl Try.underlying60 Qv rfl (by decide) (by omega) Sm Dd l1 _ _ _ (fun _=>True) (fun _=>False) rfl rfl ?aO ?aR (fun _ _ h=>h) (fun _ h=>h.elim) ?aF ?aB ?aS ?aL ?_;(case aR=>repeat (first|exact (Kd.Ab Uo.out HB.out)|(with_reducible refine Kd.Lb ?_ _)|(with_reducible refine Kd.Kb ?_ _)|(with_reducible refine Kd.Xb ?_)));(case aB=>exact BaH);(case aF=>exact (fun _ _=>trivial));(case aO=>exact faI);(case aS=>exact (La BaH));(case aL=>have:=Bak.out;omega);intro yB w8 ho hb hg hat;rw [← om.out] at ho;have Cb:=ga.mk (xd (g:=ya) (o:=.cells #[.slice Wa Qa.length Xa,.int .i64 Ja,.int .i64 Ga,.int .i64 Ia,.int .i64 Db] 59 (0,0)) DaH hg (Kd.Fk Cg.out oa.out (by decide)));have Eb:=ga.mk (hb);have Rb:=ga.mk (ho);clear oa HB Cg;have oa:=Cb;have HB:=Eb;have Dj:=Rb;clear Cb Eb Rb ho hb hg hat;have Qh:w8.cell? ⟨ya,0,none⟩=some (.slice Wa Qa.length Xa):=(ia oa.out 0).trans rfl;have Ph:w8.cell? ⟨ya,1,none⟩=some (.int .i64 Ja):=(ia oa.out 1).trans rfl;have Oh:w8.cell? ⟨ya,2,none⟩=some (.int .i64 Ga):=(ia oa.out 2).trans rfl;have Nh:w8.cell? ⟨ya,3,none⟩=some (.int .i64 Ia):=(ia oa.out 3).trans rfl;have Mh:w8.cell? ⟨ya,4,none⟩=some (.int .i64 Db):=(ia oa.out 4).trans rfl;have Lh:=aa oa.out 0;have Kh:=aa oa.out 1;have Jh:=aa oa.out 2;have Ih:=aa oa.out 3;have Hh:=aa oa.out 4));go_ret;exact ⟨_,by first|rfl|(simp [Pa,Oa] <;> rfl)|(simp [*,Pa,Oa] <;> rfl),jaI,EaH⟩
  ·rw [if_neg c4] at H;have Tl:(Ja == 0)=false:=beq_eq_false_iff_ne.mpr c4;have n7:(Ja != 0)=true:=bne_iff_ne.mpr c4
   by_cases Gt:0 ≤ Ga
   ·rw [if_pos Gt] at H;have iu:decide (0 ≤ Ga)=true:=decide_eq_true Gt;clear Gt
    by_cases zG:Ga < (ie.length:Int)
    ·rw [if_pos zG] at H;have KM:decide (Ga < (ie.length:Int))=true:=decide_eq_true zG;clear zG;obtain ⟨gh,Ef⟩:∃ y_:List Bool,y_=(ie.set (Ga:Int).toNat true):=⟨_,rfl⟩;replace H:(some gh)=some r:=by first|(rw [Ef];with_reducible exact H)|(have Td:=(Option.bind_some _ _).symm.trans H;rw [Ef];with_reducible exact Td)|(have Td:=(Option.bind_some _ _).symm.trans H;with_reducible exact Td)|with_reducible exact H|(rw [Ef];exact H)|exact H
     have Wj:=ga.mk Ef;clear Ef;obtain rfl:=Option.some.inj H;go_enter Try.func42,Try.ntmps42;go_wp2_with (first|((with_reducible refine qb (N:=2) rfl ?_);refine Ib ?hg (N:=2) ?hd (cs:=#[.slice Wa Qa.length Xa,.int .i64 Ja,.int .i64 Ga,.int .i64 Ia,.int .i64 Db]) (t:=59) ?hr ?_;(case hd=>rfl);(case hg=>rfl);(case hr=>first|(go_simp;done)|(go_simp;rfl));intro ya hg Wr Sb hb;have Cb:=ga.mk (Na CaH hb);have Eb:=ga.mk (Sb);have Rb:=ga.mk ((by rw [hg];exact (La CaH):w.heap.size ≤ ya));have Gc:=ga.mk ((by rw [hg];exact (La CaH):w.heap.size ≤ ya));clear HB;have HB:=Cb;have oa:=Eb;have Nd:=Rb;have Ta:=Gc;clear Cb Eb Rb Gc hb Sb hg)|((with_reducible refine qb (N:=6) rfl ?_);refine Kd.Vj Kd.bool _ 4 ?hg (N:=6) ?hd (xs:=([]:List Bool)) (inner:=[]) (ok:=fun _=>True) (Di:=fun _=>True) ?hr ?hp (fun _ hk=>hk) trivial (Below.refl _ _) (Nat.le_refl _) (by simp) ?_;(case hd=>rfl);(case hg=>rfl);(case hr=>first|(go_simp;done)|(go_simp;rfl));(case hp=>exact (Sd.none _ _));intro Sm Ky jF hb Wm Ye;clear Wm Ye;(first|rw [← Ci.out] at jF|(simp only [Int.reduceToNat] at jF;rw [← Ci.out] at jF));have Cb:=ga.mk (Kd.Wd jF (La BaH));have Eb:=ga.mk (Va (g:=ya) (o:=.cells #[.slice Wa Qa.length Xa,.int .i64 Ja,.int .i64 Ga,.int .i64 Ia,.int .i64 Db] 59 (0,0)) DaH hb);have Rb:=ga.mk (Na BaH hb);clear oa HB;have Cg:=Cb;have oa:=Eb;have HB:=Rb;clear Cb Eb Rb hb jF)|((with_reducible refine we (b:=.append) (xs:=#[.tmp 6,.tmp 7]) rfl ?_);at_builtin;refine Kd.Tk Kd.bool (w0:=w) w.heap.size rfl (.tmp 6) (.tmp 7) 60 4 (.bool false) 1 rfl Try.underlying60 Qv rfl (by decide) (by omega) Sm Dd l1 _ _ _ (fun _=>True) (fun _=>False) rfl rfl ?aO ?aR (fun _ _ h=>h) (fun _ h=>h.elim) ?aF ?aB ?aS ?aL ?_;(case aR=>repeat (first|exact (Kd.Ab Uo.out HB.out)|(with_reducible refine Kd.Lb ?_ _)|(with_reducible refine Kd.Kb ?_ _)|(with_reducible refine Kd.Xb ?_)));(case aB=>exact BaH);(case aF=>exact (fun _ _=>trivial));(case aO=>exact faI);(case aS=>exact (La BaH));(case aL=>have:=Bak.out;omega);intro yB qz ho hb hg hat;rw [← om.out] at ho;have Cb:=ga.mk (xd (g:=ya) (o:=.cells #[.slice Wa Qa.length Xa,.int .i64 Ja,.int .i64 Ga,.int .i64 Ia,.int .i64 Db] 59 (0,0)) DaH hg (Kd.Fk Cg.out oa.out (by decide)));have Eb:=ga.mk (hb);have Rb:=ga.mk (ho);clear oa HB Cg;have oa:=Cb;have HB:=Eb;have Dj:=Rb;clear Cb Eb Rb ho hb hg hat;have jE:qz.cell? ⟨ya,0,none⟩=some (.slice Wa Qa.length Xa):=(ia oa.out 0).trans rfl;have iE:qz.cell? ⟨ya,1,none⟩=some (.int .i64 Ja):=(ia oa.out 1).trans rfl;have gE:qz.cell? ⟨ya,2,none⟩=some (.int .i64 Ga):=(ia oa.out 2).trans rfl;have fE:qz.cell? ⟨ya,3,none⟩=some (.int .i64 Ia):=(ia oa.out 3).trans rfl;have eE:qz.cell? ⟨ya,4,none⟩=some (.int .i64 Db):=(ia oa.out 4).trans rfl;have OD:=aa oa.out 0;have ND:=aa oa.out 1;have MD:=aa oa.out 2;have LD:=aa oa.out 3;have KD:=aa oa.out 4;have p12:0 ≤ (Ga:Int):=Ua;have q12:(Ga:Int) < ((ie.length:Int):Int):=Ua;obtain ⟨Qab,tax,oaj,gaj,Law,iaF,Mal⟩:=Kd.Ul Dj.out (by omega);(first|cases oaj|(injection oaj with Kk Xy Yy;(first|subst Kk|(injection Kk with Kk;subst Kk));subst Yy;clear Xy));have Jay:=ga.mk gaj;have naG:=ga.mk Mal;clear gaj Law Mal;obtain ⟨fF,kF⟩:=Kd.Cj false Dj.out (Ga:Int) p12 q12;replace p12:=eq_true p12;replace q12:=eq_true q12;obtain ⟨oaz,kaz⟩:=Kd.Cj false Dj.out (Ga:Int) (Ua) (Ua);have rP:=Kd.yo Dj.out (Ga:Int) true)|((with_reducible refine af (t:=4) (p:=15) rfl ?_);refine Ie (t:=4) (p:=15) (v:=?waa) (w1:=(qz.setCell ⟨Qab,(Ga:Int).toNat,none⟩ (.bool true))) ?hg ?ho ?hn ?hr ?_;(case ho=>rfl);(case hg=>rfl);(case hn=>rfl);(case hr=>first|(go_simp;done)|(go_simp;rfl));intro Ut hw;have hg:qz.grownBy Ut (some Qab):=(by rw [hw];exact rP.2);have Pm:Kd.R Kd.bool 4 Ut w.heap.size (fun _=>True) (.slice (some ⟨Qab,0,none⟩) ie.length tax) gh:=(by rw [hw,Wj.out];exact rP.1);clear rP;have Cb:=ga.mk (xd (g:=ya) (o:=.cells #[.slice Wa Qa.length Xa,.int .i64 Ja,.int .i64 Ga,.int .i64 Ia,.int .i64 Db] 59 (0,0)) DaH hg (Kd.Fk Dj.out oa.out (by decide)));have Eb:=ga.mk (Pm);have Rb:=ga.mk ((by rw [hw];exact ua (HB.out) Jay.out:Below w.heap.size w Ut));clear oa Dj HB;have oa:=Cb;have Dj:=Eb;have HB:=Rb;clear Cb Eb Rb hg hw Pm));go_ret;exact ⟨_,by first|rfl|(simp [Pa,Oa] <;> rfl)|(simp [*,Pa,Oa] <;> rfl),jaI,EaH⟩
    ·rw [if_neg zG] at H;exact absurd H (by simp)
   ·rw [if_neg Gt] at H;exact absurd H (by simp)
 ·rw [if_neg c3] at H;exact absurd H (by simp)
def Ig.f (Qb:Int) (Ja:Int) (Ga:Int) (Ia:Int) (Db:Int) (Dc:Int) (Bc:ByteArray):Option (Bool):=if Qb=4 then (some false) else (some (Qb != 6))
theorem Ig.calls (Qb:Int) (Ja:Int) (Ga:Int) (Ia:Int) (Db:Int) (Dc:Int) (Bc:ByteArray) (r:Bool) (w:World) (h:Ig.f Qb Ja Ga Ia Db Dc Bc=some r) :
  Calls Try.prog 73 #[.agg #[.int .i64 Qb,.int .i64 Ja,.int .i64 Ga,.int .i64 Ia,.int .i64 Db,.int .i64 Dc,.string Bc]] w fun e w'=>e = .returned (.bool r)∧Below w.heap.size w w':=by
 have kA:=Try.underlying65;have HB:=ga.mk (Below.refl w.heap.size w);have H:(if Qb=4 then (some false) else (some (Qb != 6)))=some r:=h;clear h
 by_cases c2:Qb=4
 ·rw [if_pos c2] at H;have fu:(Qb == 4)=true:=beq_iff_eq.mpr c2;have yw:(Qb != 4)=false:=bne_eq_false_iff_eq.mpr c2;clear c2;obtain rfl:=Option.some.inj H;go_enter Try.func73,Try.ntmps73;go_wp2_with (first|((with_reducible refine qb (N:=1) rfl ?_);refine Ib ?hg (N:=1) ?hd (cs:=#[.int .i64 Qb,.int .i64 Ja,.int .i64 Ga,.int .i64 Ia,.int .i64 Db,.int .i64 Dc,.string Bc]) (t:=65) ?hr ?_;(case hd=>rfl);(case hg=>rfl);(case hr=>first|(go_simp;done)|(go_simp;rfl));intro ya hg w3 Sb hb;have Cb:=ga.mk (Na CaH hb);have Eb:=ga.mk (Sb);have Rb:=ga.mk ((by rw [hg];exact (La CaH):w.heap.size ≤ ya));have Gc:=ga.mk ((by rw [hg];exact (La CaH):w.heap.size ≤ ya));clear HB;have HB:=Cb;have oa:=Eb;have Nd:=Rb;have Ta:=Gc;clear Cb Eb Rb Gc hb Sb hg;have mC:w3.cell? ⟨ya,0,none⟩=some (.int .i64 Qb):=(ia oa.out 0).trans rfl;have lC:w3.cell? ⟨ya,1,none⟩=some (.int .i64 Ja):=(ia oa.out 1).trans rfl;have kC:w3.cell? ⟨ya,2,none⟩=some (.int .i64 Ga):=(ia oa.out 2).trans rfl;have jC:w3.cell? ⟨ya,3,none⟩=some (.int .i64 Ia):=(ia oa.out 3).trans rfl;have iC:w3.cell? ⟨ya,4,none⟩=some (.int .i64 Db):=(ia oa.out 4).trans rfl;have mJ:w3.cell? ⟨ya,5,none⟩=some (.int .i64 Dc):=(ia oa.out 5).trans rfl;have lJ:w3.cell? ⟨ya,6,none⟩=some (.string Bc):=(ia oa.out 6).trans rfl;have ZB:=aa oa.out 0;have YB:=aa oa.out 1;have XB:=aa oa.out 2;have WB:=aa oa.out 3;have VB:=aa oa.out 4;have jI:=aa oa.out 5;have iI:=aa oa.out 6));go_ret;exact ⟨by first|rfl|(simp [Pa,Oa] <;> rfl)|(simp [*,Pa,Oa] <;> rfl),EaH⟩
 ·rw [if_neg c2] at H;have fu:(Qb == 4)=false:=beq_eq_false_iff_ne.mpr c2;have yw:(Qb != 4)=true:=bne_iff_ne.mpr c2;obtain rfl:=Option.some.inj H;go_enter Try.func73,Try.ntmps73;go_wp2_with (first|((with_reducible refine qb (N:=1) rfl ?_);refine Ib ?hg (N:=1) ?hd (cs:=#[.int .i64 Qb,.int .i64 Ja,.int .i64 Ga,.int .i64 Ia,.int .i64 Db,.int .i64 Dc,.string Bc]) (t:=65) ?hr ?_;(case hd=>rfl);(case hg=>rfl);(case hr=>first|(go_simp;done)|(go_simp;rfl));intro ya hg w5 Sb hb;have Cb:=ga.mk (Na CaH hb);have Eb:=ga.mk (Sb);have Rb:=ga.mk ((by rw [hg];exact (La CaH):w.heap.size ≤ ya));have Gc:=ga.mk ((by rw [hg];exact (La CaH):w.heap.size ≤ ya));clear HB;have HB:=Cb;have oa:=Eb;have Nd:=Rb;have Ta:=Gc;clear Cb Eb Rb Gc hb Sb hg;have ur:w5.cell? ⟨ya,0,none⟩=some (.int .i64 Qb):=(ia oa.out 0).trans rfl;have tr:w5.cell? ⟨ya,1,none⟩=some (.int .i64 Ja):=(ia oa.out 1).trans rfl;have sr:w5.cell? ⟨ya,2,none⟩=some (.int .i64 Ga):=(ia oa.out 2).trans rfl;have nr:w5.cell? ⟨ya,3,none⟩=some (.int .i64 Ia):=(ia oa.out 3).trans rfl;have kr:w5.cell? ⟨ya,4,none⟩=some (.int .i64 Db):=(ia oa.out 4).trans rfl;have av:w5.cell? ⟨ya,5,none⟩=some (.int .i64 Dc):=(ia oa.out 5).trans rfl;have Zu:w5.cell? ⟨ya,6,none⟩=some (.string Bc):=(ia oa.out 6).trans rfl;have jr:=aa oa.out 0;have ir:=aa oa.out 1;have gr:=aa oa.out 2;have er:=aa oa.out 3;have dr:=aa oa.out 4;have Ju:=aa oa.out 5;have Iu:=aa oa.out 6));go_ret;exact ⟨by first|rfl|(simp [Pa,Oa] <;> rfl)|(simp [*,Pa,Oa] <;> rfl),EaH⟩
mutual
def Ke.j0:Nat→Int→Bool→Int→Int→Int→Int→Int→Int→ByteArray→Option (List Int)
 | 0,_,_,_,_,_,_,_,_,_=>none
 | k + 1,x5,x6,Fc,Uc,Mc,Ic,jc,dn,bn=>if x6=true then (some (([Mc]:List Int))) else (if x5=2 then (some (([Mc,Ic]:List Int))) else (if x5=3 then (Ke.j1 k (x5 == 3) Fc Uc Mc Ic jc dn bn) else (Ke.j1 k (x5 == 4) Fc Uc Mc Ic jc dn bn)))
def Ke.j1:Nat→Bool→Int→Int→Int→Int→Int→Int→ByteArray→Option (List Int)
 | 0,_,_,_,_,_,_,_,_=>none
 | k + 1,x19,Fc,Uc,Mc,Ic,jc,dn,bn=>if x19=true then ((some (([Ic]:List Int):List Int)).bind fun gh=>(if Mc ≥ 0 then (if gh.length < 17592186044416 then ((some (gh ++ [Mc]:List Int)).bind fun Zm=>(if Fc=4 then (if Zm.length < 17592186044416 then (some (Zm ++ [jc])) else (none)) else (some Zm))) else (none)) else (if Fc=4 then (if gh.length < 17592186044416 then (some (gh ++ [jc])) else (none)) else (some gh)))) else (some (([]:List Int)))
end
def Ke.f (k:Nat) (Qb:Int) (Ja:Int) (Ga:Int) (Ia:Int) (Db:Int) (Dc:Int) (Bc:ByteArray):Option (List Int):=if Qb=1 then (Ke.j0 k Qb (Qb == 1) Qb Ja Ga Ia Db Dc Bc) else (Ke.j0 k Qb (Qb == 6) Qb Ja Ga Ia Db Dc Bc)
theorem Ke.calls (k:Nat) (Qb:Int) (Ja:Int) (Ga:Int) (Ia:Int) (Db:Int) (Dc:Int) (Bc:ByteArray) (r:List Int) (w:World) (h:Ke.f k Qb Ja Ga Ia Db Dc Bc=some r) :
  Calls Try.prog 74 #[.agg #[.int .i64 Qb,.int .i64 Ja,.int .i64 Ga,.int .i64 Ia,.int .i64 Db,.int .i64 Dc,.string Bc]] w fun e w'=>∃ wm:Value,e = .returned (wm)∧Kd.R (Kd.int .i64) 3 w' w.heap.size (fun _=>True) wm r∧Below w.heap.size w w':=by
 have kA:=Try.underlying65;have HB:=ga.mk (Below.refl w.heap.size w);have H:(if Qb=1 then (Ke.j0 k Qb (Qb == 1) Qb Ja Ga Ia Db Dc Bc) else (Ke.j0 k Qb (Qb == 6) Qb Ja Ga Ia Db Dc Bc))=some r:=h;clear h;have jU:=ga.mk H;clear H;go_enter Try.func74,Try.ntmps74
 go_upto_if 6 with (first|((with_reducible refine qb (N:=1) rfl ?_);refine Ib ?hg (N:=1) ?hd (cs:=#[.int .i64 Qb,.int .i64 Ja,.int .i64 Ga,.int .i64 Ia,.int .i64 Db,.int .i64 Dc,.string Bc]) (t:=65) ?hr ?_;(case hd=>rfl);(case hg=>rfl);(case hr=>first|(go_simp;done)|(go_simp;rfl));intro ya hg w3 Sb hb;have Cb:=ga.mk (Na CaH hb);have Eb:=ga.mk (Sb);have Rb:=ga.mk ((by rw [hg];exact (La CaH):w.heap.size ≤ ya));have Gc:=ga.mk ((by rw [hg];exact (La CaH):w.heap.size ≤ ya));clear HB;have HB:=Cb;have oa:=Eb;have Nd:=Rb;have Ta:=Gc;clear Cb Eb Rb Gc hb Sb hg;have mC:w3.cell? ⟨ya,0,none⟩=some (.int .i64 Qb):=(ia oa.out 0).trans rfl;have lC:w3.cell? ⟨ya,1,none⟩=some (.int .i64 Ja):=(ia oa.out 1).trans rfl;have kC:w3.cell? ⟨ya,2,none⟩=some (.int .i64 Ga):=(ia oa.out 2).trans rfl;have jC:w3.cell? ⟨ya,3,none⟩=some (.int .i64 Ia):=(ia oa.out 3).trans rfl;have iC:w3.cell? ⟨ya,4,none⟩=some (.int .i64 Db):=(ia oa.out 4).trans rfl;have mJ:w3.cell? ⟨ya,5,none⟩=some (.int .i64 Dc):=(ia oa.out 5).trans rfl;have lJ:w3.cell? ⟨ya,6,none⟩=some (.string Bc):=(ia oa.out 6).trans rfl;have ZB:=aa oa.out 0;have YB:=aa oa.out 1;have XB:=aa oa.out 2;have WB:=aa oa.out 3;have VB:=aa oa.out 4;have jI:=aa oa.out 5;have iI:=aa oa.out 6))
 (try simp only [Act.put,List.setIfInBounds_toArray,List.set_cons_zero,List.set_cons_succ])
 go_cut [6] (fun v6 wc=>∃ (kq:Nat) (Wl:Bool),v6 = .bool Wl∧ga (Ke.j0 kq Qb Wl Qb Ja Ga Ia Db Dc Bc=some r)∧ga (kq ≤ k)∧ga (wc.heap[ya]? = some (.cells #[.int .i64 Qb,.int .i64 Ja,.int .i64 Ga,.int .i64 Ia,.int .i64 Db,.int .i64 Dc,.string Bc] 65 (0,0)))∧ga (Below w.heap.size w wc))
 case first =>
  have H:=jU.out;clear jU
  by_cases c5:Qb=1
  ·rw [if_pos c5] at H;have Nk:(Qb == 1)=true:=beq_iff_eq.mpr c5;have bz:(Qb != 1)=false:=bne_eq_false_iff_eq.mpr c5;clear c5;(first|rw [Nk]|(simp only [qc,tc];rw [Nk])|skip);have H':=ga.mk H;clear H;go_wp2
   go_meet
   case rel=>exact ⟨_,((Qb == 1)),IaH,H',⟨by first|omega|exact Nat.le_refl _⟩,⟨HaH⟩,⟨EaH⟩⟩
  ·rw [if_neg c5] at H;have Nk:(Qb == 1)=false:=beq_eq_false_iff_ne.mpr c5;have bz:(Qb != 1)=true:=bne_iff_ne.mpr c5;(first|rw [Nk]|(simp only [qc,tc];rw [Nk])|skip);have H':=ga.mk H;clear H;go_wp2
   go_meet
   case rel=>exact ⟨_,((Qb == 6)),IaH,H',⟨by first|omega|exact Nat.le_refl _⟩,⟨HaH⟩,⟨EaH⟩⟩
 case rest =>
  clear jU
  try clear p2
  try clear c5
  try clear Nk
  try clear bz
  try clear mC
  try clear lC
  try clear kC
  try clear jC
  try clear iC
  try clear mJ
  try clear lJ
  try clear ZB
  try clear YB
  try clear XB
  try clear WB
  try clear VB
  try clear jI
  try clear iI
  obtain ⟨kq,Wl,rfl,HA,S_,oa,HB⟩:=hcut;cases kq with
  | zero=>exact absurd HA.out (by simp [Ke.j0])
  | succ pW =>
   have H:=HA.out;clear HA;simp only [Ke.j0] at H
   by_cases c6:Wl=true
   ·subst c6;have H1:(some (([Ga]:List Int)))=some r:=by rw [if_pos rfl] at H;exact H
    clear H;have H:=H1;clear H1;obtain ⟨Dd,kf⟩:∃ y_:List Int,y_=(([Ga]:List Int)):=⟨_,rfl⟩;replace H:(some Dd)=some r:=by first|(rw [kf];with_reducible exact H)|(have Td:=(Option.bind_some _ _).symm.trans H;rw [kf];with_reducible exact Td)|(have Td:=(Option.bind_some _ _).symm.trans H;with_reducible exact Td)|with_reducible exact H|(rw [kf];exact H)|exact H
    have Ci:=ga.mk kf;clear kf;obtain rfl:=Option.some.inj H;have Dk:wc.cell? ⟨ya,0,none⟩=some (.int .i64 Qb):=(ia oa.out 0).trans rfl;have Ck:wc.cell? ⟨ya,1,none⟩=some (.int .i64 Ja):=(ia oa.out 1).trans rfl;have Bk:wc.cell? ⟨ya,2,none⟩=some (.int .i64 Ga):=(ia oa.out 2).trans rfl;have Ak:wc.cell? ⟨ya,3,none⟩=some (.int .i64 Ia):=(ia oa.out 3).trans rfl;have zk:wc.cell? ⟨ya,4,none⟩=some (.int .i64 Db):=(ia oa.out 4).trans rfl;have fJ:wc.cell? ⟨ya,5,none⟩=some (.int .i64 Dc):=(ia oa.out 5).trans rfl;have eJ:wc.cell? ⟨ya,6,none⟩=some (.string Bc):=(ia oa.out 6).trans rfl;have xk:=aa oa.out 0;have vk:=aa oa.out 1;have uk:=aa oa.out 2;have sk:=aa oa.out 3;have qk:=aa oa.out 4;have bI:=aa oa.out 5;have ZH:=aa oa.out 6;go_wp2_with (first|((with_reducible refine qb (N:=11) rfl ?_);refine Kd.Vj (Kd.int .i64) _ 3 ?hg (N:=11) ?hd (xs:=([Ga]:List Int)) (inner:=[.int .i64 Ga]) (ok:=fun _=>True) (Di:=fun _=>True) ?hr ?hp (fun _ hk=>hk) trivial (Below.refl _ _) (Nat.le_refl _) (by simp) ?_;(case hd=>rfl);(case hg=>rfl);(case hr=>first|(go_simp;done)|(go_simp;rfl));(case hp=>exact (Sd.one (show Kd.M (Kd.int .i64) _ _ _ Ga [.int .i64 Ga] from rfl) (Sd.none _ _)));intro Sm w8 ho9 hb Wm Ye;clear Wm Ye;(first|rw [← Ci.out] at ho9|(simp only [Int.reduceToNat] at ho9;rw [← Ci.out] at ho9));have Cb:=ga.mk (Kd.Wd ho9 (La BaH));have Eb:=ga.mk (Va (g:=ya) (o:=.cells #[.int .i64 Qb,.int .i64 Ja,.int .i64 Ga,.int .i64 Ia,.int .i64 Db,.int .i64 Dc,.string Bc] 65 (0,0)) DaH hb);have Rb:=ga.mk (Na BaH hb);clear oa HB;have Cg:=Cb;have oa:=Eb;have HB:=Rb;clear Cb Eb Rb hb ho9));go_ret;exact ⟨_,by first|rfl|(simp [Pa,Oa] <;> rfl)|(simp [*,Pa,Oa] <;> rfl),XaH,EaH⟩
   ·replace c6:=Bool.eq_false_iff.mpr c6;subst c6;have H1:(if Qb=2 then (some (([Ga,Ia]:List Int))) else (if Qb=3 then (Ke.j1 pW (Qb == 3) Qb Ja Ga Ia Db Dc Bc) else (Ke.j1 pW (Qb == 4) Qb Ja Ga Ia Db Dc Bc)))=some r:=by rw [if_neg (show ¬ (false=true) by decide)] at H;exact H
    clear H;have H:=H1;clear H1
    by_cases Gt:Qb=2
    ·rw [if_pos Gt] at H;have iu:(Qb == 2)=true:=beq_iff_eq.mpr Gt;have i_:(Qb != 2)=false:=bne_eq_false_iff_eq.mpr Gt;clear Gt;obtain ⟨ie,Ff⟩:∃ y_:List Int,y_=(([Ga,Ia]:List Int)):=⟨_,rfl⟩;replace H:(some ie)=some r:=by first|(rw [Ff];with_reducible exact H)|(have Td:=(Option.bind_some _ _).symm.trans H;rw [Ff];with_reducible exact Td)|(have Td:=(Option.bind_some _ _).symm.trans H;with_reducible exact Td)|with_reducible exact H|(rw [Ff];exact H)|exact H
     have om:=ga.mk Ff;clear Ff;obtain rfl:=Option.some.inj H;have qo:wc.cell? ⟨ya,0,none⟩=some (.int .i64 Qb):=(ia oa.out 0).trans rfl;have oo:wc.cell? ⟨ya,1,none⟩=some (.int .i64 Ja):=(ia oa.out 1).trans rfl;have mo:wc.cell? ⟨ya,2,none⟩=some (.int .i64 Ga):=(ia oa.out 2).trans rfl;have jo:wc.cell? ⟨ya,3,none⟩=some (.int .i64 Ia):=(ia oa.out 3).trans rfl;have fo:wc.cell? ⟨ya,4,none⟩=some (.int .i64 Db):=(ia oa.out 4).trans rfl;have P6:wc.cell? ⟨ya,5,none⟩=some (.int .i64 Dc):=(ia oa.out 5).trans rfl;have O6:wc.cell? ⟨ya,6,none⟩=some (.string Bc):=(ia oa.out 6).trans rfl;have eo:=aa oa.out 0;have Zn:=aa oa.out 1;have Yn:=aa oa.out 2;have Xn:=aa oa.out 3;have Wn:=aa oa.out 4;have R4:=aa oa.out 5;have Q4:=aa oa.out 6;go_wp2_with (first|((with_reducible refine qb (N:=18) rfl ?_);refine Kd.Vj (Kd.int .i64) _ 3 ?hg (N:=18) ?hd (xs:=([Ga,Ia]:List Int)) (inner:=[.int .i64 Ga,.int .i64 Ia]) (ok:=fun _=>True) (Di:=fun _=>True) ?hr ?hp (fun _ hk=>hk) trivial (Below.refl _ _) (Nat.le_refl _) (by simp) ?_;(case hd=>rfl);(case hg=>rfl);(case hr=>first|(go_simp;done)|(go_simp;rfl));(case hp=>exact (Sd.one (show Kd.M (Kd.int .i64) _ _ _ Ga [.int .i64 Ga] from rfl) (Sd.one (show Kd.M (Kd.int .i64) _ _ _ Ia [.int .i64 Ia] from rfl) (Sd.none _ _))));intro yB Xr YW hb Wm Ye;clear Wm Ye;(first|rw [← om.out] at YW|(simp only [Int.reduceToNat] at YW;rw [← om.out] at YW));have Cb:=ga.mk (Kd.Wd YW (La BaH));have Eb:=ga.mk (Va (g:=ya) (o:=.cells #[.int .i64 Qb,.int .i64 Ja,.int .i64 Ga,.int .i64 Ia,.int .i64 Db,.int .i64 Dc,.string Bc] 65 (0,0)) DaH hb);have Rb:=ga.mk (Na BaH hb);clear oa HB;have Dj:=Cb;have oa:=Eb;have HB:=Rb;clear Cb Eb Rb hb YW));go_ret;exact ⟨_,by first|rfl|(simp [Pa,Oa] <;> rfl)|(simp [*,Pa,Oa] <;> rfl),jaI,EaH⟩
    ·rw [if_neg Gt] at H;have iu:(Qb == 2)=false:=beq_eq_false_iff_ne.mpr Gt;have i_:(Qb != 2)=true:=bne_iff_ne.mpr Gt;have Nad:=ga.mk H;clear H
     go_upto_if 19 with (fail)
     go_cut [19] (fun v19 wc=>∃ (kq:Nat) (oH:Bool),v19 = .bool oH∧ga (Ke.j1 kq oH Qb Ja Ga Ia Db Dc Bc=some r)∧ga (kq ≤ pW)∧ga (wc.heap[ya]? = some (.cells #[.int .i64 Qb,.int .i64 Ja,.int .i64 Ga,.int .i64 Ia,.int .i64 Db,.int .i64 Dc,.string Bc] 65 (0,0)))∧ga (Below w.heap.size w wc))
     case first =>
      have H:=Nad.out;clear Nad
      by_cases Yv:Qb=3
      ·rw [if_pos Yv] at H;have zw:(Qb == 3)=true:=beq_iff_eq.mpr Yv;have Z9:(Qb != 3)=false:=bne_eq_false_iff_eq.mpr Yv;clear Yv;(first|rw [zw]|(simp only [qc,tc];rw [zw])|skip);have H':=ga.mk H;clear H;go_wp2
       go_meet
       case rel=>exact ⟨_,((Qb == 3)),IaH,H',⟨by have:=S_.out;first|omega|exact Nat.le_refl _⟩,⟨HaH⟩,⟨EaH⟩⟩
      ·rw [if_neg Yv] at H;have zw:(Qb == 3)=false:=beq_eq_false_iff_ne.mpr Yv;have Z9:(Qb != 3)=true:=bne_iff_ne.mpr Yv;(first|rw [zw]|(simp only [qc,tc];rw [zw])|skip);have H':=ga.mk H;clear H;go_wp2
       go_meet
       case rel=>exact ⟨_,((Qb == 4)),IaH,H',⟨by have:=S_.out;first|omega|exact Nat.le_refl _⟩,⟨HaH⟩,⟨EaH⟩⟩
     case rest =>
      clear Nad
      try clear c1
      try clear p2
      try clear c5
      try clear Nk
      try clear bz
      try clear c6
      try clear c7
      try clear Gt
      try clear iu
      try clear i_
      try clear Yv
      try clear zw
      try clear Z9
      try clear qo
      try clear oo
      try clear mo
      try clear jo
      try clear fo
      try clear P6
      try clear O6
      try clear mC
      try clear lC
      try clear kC
      try clear jC
      try clear iC
      try clear mJ
      try clear lJ
      try clear Dk
      try clear Ck
      try clear Bk
      try clear Ak
      try clear zk
      try clear fJ
      try clear eJ
      try clear eo
      try clear Zn
      try clear Yn
      try clear Xn
      try clear Wn
      try clear R4
      try clear Q4
      try clear ZB
      try clear YB
      try clear XB
      try clear WB
      try clear VB
      try clear jI
      try clear iI
      try clear xk
      try clear vk
      try clear uk
      try clear sk
      try clear qk
      try clear bI
      try clear ZH
      try clear p2
      obtain ⟨kq,oH,rfl,HA,RaF,oa,HB⟩:=hcut;cases kq with
      | zero=>exact absurd HA.out (by simp [Ke.j1])
      | succ TaD =>
       have H:=HA.out;clear HA;simp only [Ke.j1] at H
       by_cases iz:oH=true
       ·subst iz;have H1:((some (([Ia]:List Int):List Int)).bind fun gh=>(if Ga ≥ 0 then (if gh.length < 17592186044416 then ((some (gh ++ [Ga]:List Int)).bind fun Zm=>(if Qb=4 then (if Zm.length < 17592186044416 then (some (Zm ++ [Db])) else (none)) else (some Zm))) else (none)) else (if Qb=4 then (if gh.length < 17592186044416 then (some (gh ++ [Db])) else (none)) else (some gh))))=some r:=by rw [if_pos rfl] at H;exact H
        clear H;have H:=H1;clear H1;obtain ⟨gh,Ef⟩:∃ y_:List Int,y_=(([Ia]:List Int)):=⟨_,rfl⟩;replace H:(if Ga ≥ 0 then (if gh.length < 17592186044416 then ((some (gh ++ [Ga]:List Int)).bind fun Zm=>(if Qb=4 then (if Zm.length < 17592186044416 then (some (Zm ++ [Db])) else (none)) else (some Zm))) else (none)) else (if Qb=4 then (if gh.length < 17592186044416 then (some (gh ++ [Db])) else (none)) else (some gh)))=some r:=by first|(rw [Ef];with_reducible exact H)|(have Td:=(Option.bind_some _ _).symm.trans H;rw [Ef];with_reducible exact Td)|(have Td:=(Option.bind_some _ _).symm.trans H;with_reducible exact Td)|with_reducible exact H|(rw [Ef];exact H)|exact H
        have Wj:=ga.mk Ef;clear Ef
        by_cases Ym:Ga ≥ 0
        ·rw [if_pos Ym] at H;have zm:decide (0 ≤ Ga)=true:=decide_eq_true Ym;clear Ym
         by_cases Ko:gh.length < 17592186044416
         ·rw [if_pos Ko] at H;have w_:=ga.mk Ko;clear Ko;obtain ⟨Zm,sj⟩:∃ y_:List Int,y_=(gh ++ [Ga]):=⟨_,rfl⟩;replace H:(if Qb=4 then (if Zm.length < 17592186044416 then (some (Zm ++ [Db])) else (none)) else (some Zm))=some r:=by first|(rw [sj];with_reducible exact H)|(have Td:=(Option.bind_some _ _).symm.trans H;rw [sj];with_reducible exact Td)|(have Td:=(Option.bind_some _ _).symm.trans H;with_reducible exact Td)|with_reducible exact H|(rw [sj];exact H)|exact H
          have Hy:=ga.mk sj;clear sj
          by_cases Ll:Qb=4
          ·rw [if_pos Ll] at H;have Kr:(Qb == 4)=true:=beq_iff_eq.mpr Ll;have IM:(Qb != 4)=false:=bne_eq_false_iff_eq.mpr Ll;clear Ll
           by_cases vm:Zm.length < 17592186044416
           ·rw [if_pos vm] at H;have GY:=ga.mk vm;clear vm;obtain ⟨Rm,Jp⟩:∃ y_:List Int,y_=(Zm ++ [Db]):=⟨_,rfl⟩;replace H:(some Rm)=some r:=by first|(rw [Jp];with_reducible exact H)|(have Td:=(Option.bind_some _ _).symm.trans H;rw [Jp];with_reducible exact Td)|(have Td:=(Option.bind_some _ _).symm.trans H;with_reducible exact Td)|with_reducible exact H|(rw [Jp];exact H)|exact H
            have WC:=ga.mk Jp;clear Jp;obtain rfl:=Option.some.inj H;have WA:wc.cell? ⟨ya,0,none⟩=some (.int .i64 Qb):=(ia oa.out 0).trans rfl;have VA:wc.cell? ⟨ya,1,none⟩=some (.int .i64 Ja):=(ia oa.out 1).trans rfl;have UA:wc.cell? ⟨ya,2,none⟩=some (.int .i64 Ga):=(ia oa.out 2).trans rfl;have TA:wc.cell? ⟨ya,3,none⟩=some (.int .i64 Ia):=(ia oa.out 3).trans rfl;have SA:wc.cell? ⟨ya,4,none⟩=some (.int .i64 Db):=(ia oa.out 4).trans rfl;have Mas:wc.cell? ⟨ya,5,none⟩=some (.int .i64 Dc):=(ia oa.out 5).trans rfl;have Las:wc.cell? ⟨ya,6,none⟩=some (.string Bc):=(ia oa.out 6).trans rfl;have DA:=aa oa.out 0;have CA:=aa oa.out 1;have BA:=aa oa.out 2;have AA:=aa oa.out 3;have zA:=aa oa.out 4;have Dap:=aa oa.out 5;have Bap:=aa oa.out 6;go_wp2_with (first|((with_reducible refine qb (N:=24) rfl ?_);refine Kd.Vj (Kd.int .i64) _ 3 ?hg (N:=24) ?hd (xs:=([Ia]:List Int)) (inner:=[.int .i64 Ia]) (ok:=fun _=>True) (Di:=fun _=>True) ?hr ?hp (fun _ hk=>hk) trivial (Below.refl _ _) (Nat.le_refl _) (by simp) ?_;(case hd=>rfl);(case hg=>rfl);(case hr=>first|(go_simp;done)|(go_simp;rfl));(case hp=>exact (Sd.one (show Kd.M (Kd.int .i64) _ _ _ Ia [.int .i64 Ia] from rfl) (Sd.none _ _)));intro nG CE WW hb Wm Ye;clear Wm Ye;(first|rw [← Wj.out] at WW|(simp only [Int.reduceToNat] at WW;rw [← Wj.out] at WW));have Cb:=ga.mk (Kd.Wd WW (La BaH));have Eb:=ga.mk (Va (g:=ya) (o:=.cells #[.int .i64 Qb,.int .i64 Ja,.int .i64 Ga,.int .i64 Ia,.int .i64 Db,.int .i64 Dc,.string Bc] 65 (0,0)) DaH hb);have Rb:=ga.mk (Na BaH hb);clear oa HB;have Ij:=Cb;have oa:=Eb;have HB:=Rb;clear Cb Eb Rb hb WW;have Nq:CE.cell? ⟨ya,0,none⟩=some (.int .i64 Qb):=(ia oa.out 0).trans rfl;have Mq:CE.cell? ⟨ya,1,none⟩=some (.int .i64 Ja):=(ia oa.out 1).trans rfl;have Kq:CE.cell? ⟨ya,2,none⟩=some (.int .i64 Ga):=(ia oa.out 2).trans rfl;have Jq:CE.cell? ⟨ya,3,none⟩=some (.int .i64 Ia):=(ia oa.out 3).trans rfl;have Iq:CE.cell? ⟨ya,4,none⟩=some (.int .i64 Db):=(ia oa.out 4).trans rfl;have m6:CE.cell? ⟨ya,5,none⟩=some (.int .i64 Dc):=(ia oa.out 5).trans rfl;have l6:CE.cell? ⟨ya,6,none⟩=some (.string Bc):=(ia oa.out 6).trans rfl;have Hq:=aa oa.out 0;have Gq:=aa oa.out 1;have Fq:=aa oa.out 2;have Dq:=aa oa.out 3;have Cq:=aa oa.out 4;have q4:=aa oa.out 5;have m4:=aa oa.out 6)|((with_reducible refine we (b:=.append) (xs:=#[.tmp 28,.tmp 31]) rfl ?_);at_builtin;refine Kd.Xh (Kd.int .i64) (w0:=w) w.heap.size rfl (.tmp 28) (.tmp 31) 22 3 (.int .i64 0) 8 rfl Try.underlying22 info3 rfl (by decide) (by omega) nG gh Ga [.int .i64 Ga] (fun _=>True) (fun _=>False) rfl rfl ?aP (fun _ hk=>hk.elim) ?aF ?aO ?aB ?aS ?aL ?_;(case aP=>exact rfl);(case aB=>exact BaH);(case aF=>exact (fun _ _=>trivial));(case aO=>exact maI);(case aS=>exact (La BaH));(case aL=>have:=w_.out;omega);intro MV Jy ho hb hg hat;rw [← Hy.out] at ho;have Cb:=ga.mk (xd (g:=ya) (o:=.cells #[.int .i64 Qb,.int .i64 Ja,.int .i64 Ga,.int .i64 Ia,.int .i64 Db,.int .i64 Dc,.string Bc] 65 (0,0)) DaH hg (Kd.Fk Ij.out oa.out (by decide)));have Eb:=ga.mk (hb);have Rb:=ga.mk (ho);clear oa HB Ij;have oa:=Cb;have HB:=Eb;have Bw:=Rb;clear Cb Eb Rb ho hb hg hat;have ov:Jy.cell? ⟨ya,0,none⟩=some (.int .i64 Qb):=(ia oa.out 0).trans rfl;have nv:Jy.cell? ⟨ya,1,none⟩=some (.int .i64 Ja):=(ia oa.out 1).trans rfl;have jv:Jy.cell? ⟨ya,2,none⟩=some (.int .i64 Ga):=(ia oa.out 2).trans rfl;have gv:Jy.cell? ⟨ya,3,none⟩=some (.int .i64 Ia):=(ia oa.out 3).trans rfl;have cv:Jy.cell? ⟨ya,4,none⟩=some (.int .i64 Db):=(ia oa.out 4).trans rfl;have Ias:Jy.cell? ⟨ya,5,none⟩=some (.int .i64 Dc):=(ia oa.out 5).trans rfl;have Gas:Jy.cell? ⟨ya,6,none⟩=some (.string Bc):=(ia oa.out 6).trans rfl;have Ou:=aa oa.out 0;have Nu:=aa oa.out 1;have Mu:=aa oa.out 2;have Lu:=aa oa.out 3;have Ku:=aa oa.out 4;have yap:=aa oa.out 5;have xap:=aa oa.out 6)|((with_reducible refine we (b:=.append) (xs:=#[.tmp 36,.tmp 39]) rfl ?_);at_builtin;refine Kd.Xh (Kd.int .i64) (w0:=w) w.heap.size rfl (.tmp 36) (.tmp 39) 22 3 (.int .i64 0) 8 rfl Try.underlying22 info3 rfl (by decide) (by omega) MV Zm Db [.int .i64 Db] (fun _=>True) (fun _=>False) rfl rfl ?aP (fun _ hk=>hk.elim) ?aF ?aO ?aB ?aS ?aL ?_;(case aP=>exact rfl);(case aB=>exact BaH);(case aF=>exact (fun _ _=>trivial));(case aO=>exact (by (with_reducible repeat (first|apply Kd.mb|apply Kd.jb|apply Kd.Gb));exact Bw.out));(case aS=>exact (La BaH));(case aL=>have:=GY.out;omega);intro yN w27 ho hb hg hat;rw [← WC.out] at ho;have Cb:=ga.mk (xd (g:=ya) (o:=.cells #[.int .i64 Qb,.int .i64 Ja,.int .i64 Ga,.int .i64 Ia,.int .i64 Db,.int .i64 Dc,.string Bc] 65 (0,0)) DaH hg (Kd.Fk Bw.out oa.out (by decide)));have Eb:=ga.mk (hb);have Rb:=ga.mk (ho);clear oa HB Bw;have oa:=Cb;have HB:=Eb;have Qr:=Rb;clear Cb Eb Rb ho hb hg hat));go_ret;exact ⟨_,by first|rfl|(simp [Pa,Oa] <;> rfl)|(simp [*,Pa,Oa] <;> rfl),by (with_reducible repeat (first|apply Kd.mb|apply Kd.jb|apply Kd.Gb));exact Qr.out,EaH⟩
           ·rw [if_neg vm] at H;exact absurd H (by simp)
          ·rw [if_neg Ll] at H;have Kr:(Qb == 4)=false:=beq_eq_false_iff_ne.mpr Ll;have IM:(Qb != 4)=true:=bne_iff_ne.mpr Ll;obtain rfl:=Option.some.inj H;have XJ:wc.cell? ⟨ya,0,none⟩=some (.int .i64 Qb):=(ia oa.out 0).trans rfl;have WJ:wc.cell? ⟨ya,1,none⟩=some (.int .i64 Ja):=(ia oa.out 1).trans rfl;have VJ:wc.cell? ⟨ya,2,none⟩=some (.int .i64 Ga):=(ia oa.out 2).trans rfl;have UJ:wc.cell? ⟨ya,3,none⟩=some (.int .i64 Ia):=(ia oa.out 3).trans rfl;have TJ:wc.cell? ⟨ya,4,none⟩=some (.int .i64 Db):=(ia oa.out 4).trans rfl;have j6:wc.cell? ⟨ya,5,none⟩=some (.int .i64 Dc):=(ia oa.out 5).trans rfl;have b6:wc.cell? ⟨ya,6,none⟩=some (.string Bc):=(ia oa.out 6).trans rfl;have WI:=aa oa.out 0;have VI:=aa oa.out 1;have UI:=aa oa.out 2;have TI:=aa oa.out 3;have SI:=aa oa.out 4;have j4:=aa oa.out 5;have Z3:=aa oa.out 6;go_wp2_with (first|((with_reducible refine qb (N:=24) rfl ?_);refine Kd.Vj (Kd.int .i64) _ 3 ?hg (N:=24) ?hd (xs:=([Ia]:List Int)) (inner:=[.int .i64 Ia]) (ok:=fun _=>True) (Di:=fun _=>True) ?hr ?hp (fun _ hk=>hk) trivial (Below.refl _ _) (Nat.le_refl _) (by simp) ?_;(case hd=>rfl);(case hg=>rfl);(case hr=>first|(go_simp;done)|(go_simp;rfl));(case hp=>exact (Sd.one (show Kd.M (Kd.int .i64) _ _ _ Ia [.int .i64 Ia] from rfl) (Sd.none _ _)));intro nG rH VW hb Wm Ye;clear Wm Ye;(first|rw [← Wj.out] at VW|(simp only [Int.reduceToNat] at VW;rw [← Wj.out] at VW));have Cb:=ga.mk (Kd.Wd VW (La BaH));have Eb:=ga.mk (Va (g:=ya) (o:=.cells #[.int .i64 Qb,.int .i64 Ja,.int .i64 Ga,.int .i64 Ia,.int .i64 Db,.int .i64 Dc,.string Bc] 65 (0,0)) DaH hb);have Rb:=ga.mk (Na BaH hb);clear oa HB;have Ij:=Cb;have oa:=Eb;have HB:=Rb;clear Cb Eb Rb hb VW;have RA:rH.cell? ⟨ya,0,none⟩=some (.int .i64 Qb):=(ia oa.out 0).trans rfl;have QA:rH.cell? ⟨ya,1,none⟩=some (.int .i64 Ja):=(ia oa.out 1).trans rfl;have PA:rH.cell? ⟨ya,2,none⟩=some (.int .i64 Ga):=(ia oa.out 2).trans rfl;have OA:rH.cell? ⟨ya,3,none⟩=some (.int .i64 Ia):=(ia oa.out 3).trans rfl;have NA:rH.cell? ⟨ya,4,none⟩=some (.int .i64 Db):=(ia oa.out 4).trans rfl;have S5:rH.cell? ⟨ya,5,none⟩=some (.int .i64 Dc):=(ia oa.out 5).trans rfl;have R5:rH.cell? ⟨ya,6,none⟩=some (.string Bc):=(ia oa.out 6).trans rfl;have yA:=aa oa.out 0;have xA:=aa oa.out 1;have wA:=aa oa.out 2;have vA:=aa oa.out 3;have uA:=aa oa.out 4;have R3:=aa oa.out 5;have Q3:=aa oa.out 6)|((with_reducible refine we (b:=.append) (xs:=#[.tmp 28,.tmp 31]) rfl ?_);at_builtin;refine Kd.Xh (Kd.int .i64) (w0:=w) w.heap.size rfl (.tmp 28) (.tmp 31) 22 3 (.int .i64 0) 8 rfl Try.underlying22 info3 rfl (by decide) (by omega) nG gh Ga [.int .i64 Ga] (fun _=>True) (fun _=>False) rfl rfl ?aP (fun _ hk=>hk.elim) ?aF ?aO ?aB ?aS ?aL ?_;(case aP=>exact rfl);(case aB=>exact BaH);(case aF=>exact (fun _ _=>trivial));(case aO=>exact maI);(case aS=>exact (La BaH));(case aL=>have:=w_.out;omega);intro MV oN ho hb hg hat;rw [← Hy.out] at ho;have Cb:=ga.mk (xd (g:=ya) (o:=.cells #[.int .i64 Qb,.int .i64 Ja,.int .i64 Ga,.int .i64 Ia,.int .i64 Db,.int .i64 Dc,.string Bc] 65 (0,0)) DaH hg (Kd.Fk Ij.out oa.out (by decide)));have Eb:=ga.mk (hb);have Rb:=ga.mk (ho);clear oa HB Ij;have oa:=Cb;have HB:=Eb;have Bw:=Rb;clear Cb Eb Rb ho hb hg hat;have bT:oN.cell? ⟨ya,0,none⟩=some (.int .i64 Qb):=(ia oa.out 0).trans rfl;have aT:oN.cell? ⟨ya,1,none⟩=some (.int .i64 Ja):=(ia oa.out 1).trans rfl;have ZS:oN.cell? ⟨ya,2,none⟩=some (.int .i64 Ga):=(ia oa.out 2).trans rfl;have YS:oN.cell? ⟨ya,3,none⟩=some (.int .i64 Ia):=(ia oa.out 3).trans rfl;have XS:oN.cell? ⟨ya,4,none⟩=some (.int .i64 Db):=(ia oa.out 4).trans rfl;have WS:oN.cell? ⟨ya,5,none⟩=some (.int .i64 Dc):=(ia oa.out 5).trans rfl;have VS:oN.cell? ⟨ya,6,none⟩=some (.string Bc):=(ia oa.out 6).trans rfl;have NR:=aa oa.out 0;have MR:=aa oa.out 1;have LR:=aa oa.out 2;have KR:=aa oa.out 3;have JR:=aa oa.out 4;have GR:=aa oa.out 5;have FR:=aa oa.out 6));go_ret;exact ⟨_,by first|rfl|(simp [Pa,Oa] <;> rfl)|(simp [*,Pa,Oa] <;> rfl),by (with_reducible repeat (first|apply Kd.mb|apply Kd.jb|apply Kd.Gb));exact Bw.out,EaH⟩
         ·rw [if_neg Ko] at H;exact absurd H (by simp)
        ·rw [if_neg Ym] at H;have zm:decide (0 ≤ Ga)=false:=decide_eq_false Ym;clear Ym
         by_cases nE:Qb=4
         ·rw [if_pos nE] at H;have qT:(Qb == 4)=true:=beq_iff_eq.mpr nE;have Raj:(Qb != 4)=false:=bne_eq_false_iff_eq.mpr nE;clear nE
          by_cases xF:gh.length < 17592186044416
          ·rw [if_pos xF] at H;have Aak:=ga.mk xF;clear xF;obtain ⟨Tt,qw⟩:∃ y_:List Int,y_=(gh ++ [Db]):=⟨_,rfl⟩;replace H:(some Tt)=some r:=by first|(rw [qw];with_reducible exact H)|(have Td:=(Option.bind_some _ _).symm.trans H;rw [qw];with_reducible exact Td)|(have Td:=(Option.bind_some _ _).symm.trans H;with_reducible exact Td)|with_reducible exact H|(rw [qw];exact H)|exact H
           have DT:=ga.mk qw;clear qw;obtain rfl:=Option.some.inj H;have SJ:wc.cell? ⟨ya,0,none⟩=some (.int .i64 Qb):=(ia oa.out 0).trans rfl;have RJ:wc.cell? ⟨ya,1,none⟩=some (.int .i64 Ja):=(ia oa.out 1).trans rfl;have QJ:wc.cell? ⟨ya,2,none⟩=some (.int .i64 Ga):=(ia oa.out 2).trans rfl;have PJ:wc.cell? ⟨ya,3,none⟩=some (.int .i64 Ia):=(ia oa.out 3).trans rfl;have OJ:wc.cell? ⟨ya,4,none⟩=some (.int .i64 Db):=(ia oa.out 4).trans rfl;have Das:wc.cell? ⟨ya,5,none⟩=some (.int .i64 Dc):=(ia oa.out 5).trans rfl;have Cas:wc.cell? ⟨ya,6,none⟩=some (.string Bc):=(ia oa.out 6).trans rfl;have RI:=aa oa.out 0;have QI:=aa oa.out 1;have PI:=aa oa.out 2;have OI:=aa oa.out 3;have NI:=aa oa.out 4;have uap:=aa oa.out 5;have tap:=aa oa.out 6;go_wp2_with (first|((with_reducible refine qb (N:=24) rfl ?_);refine Kd.Vj (Kd.int .i64) _ 3 ?hg (N:=24) ?hd (xs:=([Ia]:List Int)) (inner:=[.int .i64 Ia]) (ok:=fun _=>True) (Di:=fun _=>True) ?hr ?hp (fun _ hk=>hk) trivial (Below.refl _ _) (Nat.le_refl _) (by simp) ?_;(case hd=>rfl);(case hg=>rfl);(case hr=>first|(go_simp;done)|(go_simp;rfl));(case hp=>exact (Sd.one (show Kd.M (Kd.int .i64) _ _ _ Ia [.int .i64 Ia] from rfl) (Sd.none _ _)));intro nG Z0 TW hb Wm Ye;clear Wm Ye;(first|rw [← Wj.out] at TW|(simp only [Int.reduceToNat] at TW;rw [← Wj.out] at TW));have Cb:=ga.mk (Kd.Wd TW (La BaH));have Eb:=ga.mk (Va (g:=ya) (o:=.cells #[.int .i64 Qb,.int .i64 Ja,.int .i64 Ga,.int .i64 Ia,.int .i64 Db,.int .i64 Dc,.string Bc] 65 (0,0)) DaH hb);have Rb:=ga.mk (Na BaH hb);clear oa HB;have Ij:=Cb;have oa:=Eb;have HB:=Rb;clear Cb Eb Rb hb TW;have IJ:Z0.cell? ⟨ya,0,none⟩=some (.int .i64 Qb):=(ia oa.out 0).trans rfl;have HJ:Z0.cell? ⟨ya,1,none⟩=some (.int .i64 Ja):=(ia oa.out 1).trans rfl;have GJ:Z0.cell? ⟨ya,2,none⟩=some (.int .i64 Ga):=(ia oa.out 2).trans rfl;have FJ:Z0.cell? ⟨ya,3,none⟩=some (.int .i64 Ia):=(ia oa.out 3).trans rfl;have EJ:Z0.cell? ⟨ya,4,none⟩=some (.int .i64 Db):=(ia oa.out 4).trans rfl;have O5:Z0.cell? ⟨ya,5,none⟩=some (.int .i64 Dc):=(ia oa.out 5).trans rfl;have M5:Z0.cell? ⟨ya,6,none⟩=some (.string Bc):=(ia oa.out 6).trans rfl;have GI:=aa oa.out 0;have FI:=aa oa.out 1;have EI:=aa oa.out 2;have DI:=aa oa.out 3;have CI:=aa oa.out 4;have N3:=aa oa.out 5;have L3:=aa oa.out 6)|((with_reducible refine we (b:=.append) (xs:=#[.tmp 36,.tmp 39]) rfl ?_);at_builtin;refine Kd.Xh (Kd.int .i64) (w0:=w) w.heap.size rfl (.tmp 36) (.tmp 39) 22 3 (.int .i64 0) 8 rfl Try.underlying22 info3 rfl (by decide) (by omega) nG gh Db [.int .i64 Db] (fun _=>True) (fun _=>False) rfl rfl ?aP (fun _ hk=>hk.elim) ?aF ?aO ?aB ?aS ?aL ?_;(case aP=>exact rfl);(case aB=>exact BaH);(case aF=>exact (fun _ _=>trivial));(case aO=>exact maI);(case aS=>exact (La BaH));(case aL=>have:=Aak.out;omega);intro zaa w40 ho hb hg hat;rw [← DT.out] at ho;have Cb:=ga.mk (xd (g:=ya) (o:=.cells #[.int .i64 Qb,.int .i64 Ja,.int .i64 Ga,.int .i64 Ia,.int .i64 Db,.int .i64 Dc,.string Bc] 65 (0,0)) DaH hg (Kd.Fk Ij.out oa.out (by decide)));have Eb:=ga.mk (hb);have Rb:=ga.mk (ho);clear oa HB Ij;have oa:=Cb;have HB:=Eb;have UF:=Rb;clear Cb Eb Rb ho hb hg hat));go_ret;exact ⟨_,by first|rfl|(simp [Pa,Oa] <;> rfl)|(simp [*,Pa,Oa] <;> rfl),by (with_reducible repeat (first|apply Kd.mb|apply Kd.jb|apply Kd.Gb));exact UF.out,EaH⟩
          ·rw [if_neg xF] at H;exact absurd H (by simp)
         ·rw [if_neg nE] at H;have qT:(Qb == 4)=false:=beq_eq_false_iff_ne.mpr nE;have Raj:(Qb != 4)=true:=bne_iff_ne.mpr nE;obtain rfl:=Option.some.inj H;have xS:wc.cell? ⟨ya,0,none⟩=some (.int .i64 Qb):=(ia oa.out 0).trans rfl;have wS:wc.cell? ⟨ya,1,none⟩=some (.int .i64 Ja):=(ia oa.out 1).trans rfl;have vS:wc.cell? ⟨ya,2,none⟩=some (.int .i64 Ga):=(ia oa.out 2).trans rfl;have uS:wc.cell? ⟨ya,3,none⟩=some (.int .i64 Ia):=(ia oa.out 3).trans rfl;have tS:wc.cell? ⟨ya,4,none⟩=some (.int .i64 Db):=(ia oa.out 4).trans rfl;have zas:wc.cell? ⟨ya,5,none⟩=some (.int .i64 Dc):=(ia oa.out 5).trans rfl;have yas:wc.cell? ⟨ya,6,none⟩=some (.string Bc):=(ia oa.out 6).trans rfl;have lR:=aa oa.out 0;have kR:=aa oa.out 1;have jR:=aa oa.out 2;have iR:=aa oa.out 3;have gR:=aa oa.out 4;have qap:=aa oa.out 5;have oap:=aa oa.out 6;go_wp2_with (first|((with_reducible refine qb (N:=24) rfl ?_);refine Kd.Vj (Kd.int .i64) _ 3 ?hg (N:=24) ?hd (xs:=([Ia]:List Int)) (inner:=[.int .i64 Ia]) (ok:=fun _=>True) (Di:=fun _=>True) ?hr ?hp (fun _ hk=>hk) trivial (Below.refl _ _) (Nat.le_refl _) (by simp) ?_;(case hd=>rfl);(case hg=>rfl);(case hr=>first|(go_simp;done)|(go_simp;rfl));(case hp=>exact (Sd.one (show Kd.M (Kd.int .i64) _ _ _ Ia [.int .i64 Ia] from rfl) (Sd.none _ _)));intro nG eL SW hb Wm Ye;clear Wm Ye;(first|rw [← Wj.out] at SW|(simp only [Int.reduceToNat] at SW;rw [← Wj.out] at SW));have Cb:=ga.mk (Kd.Wd SW (La BaH));have Eb:=ga.mk (Va (g:=ya) (o:=.cells #[.int .i64 Qb,.int .i64 Ja,.int .i64 Ga,.int .i64 Ia,.int .i64 Db,.int .i64 Dc,.string Bc] 65 (0,0)) DaH hb);have Rb:=ga.mk (Na BaH hb);clear oa HB;have Ij:=Cb;have oa:=Eb;have HB:=Rb;clear Cb Eb Rb hb SW;have wJ:eL.cell? ⟨ya,0,none⟩=some (.int .i64 Qb):=(ia oa.out 0).trans rfl;have vJ:eL.cell? ⟨ya,1,none⟩=some (.int .i64 Ja):=(ia oa.out 1).trans rfl;have uJ:eL.cell? ⟨ya,2,none⟩=some (.int .i64 Ga):=(ia oa.out 2).trans rfl;have tJ:eL.cell? ⟨ya,3,none⟩=some (.int .i64 Ia):=(ia oa.out 3).trans rfl;have sJ:eL.cell? ⟨ya,4,none⟩=some (.int .i64 Db):=(ia oa.out 4).trans rfl;have kS:eL.cell? ⟨ya,5,none⟩=some (.int .i64 Dc):=(ia oa.out 5).trans rfl;have jS:eL.cell? ⟨ya,6,none⟩=some (.string Bc):=(ia oa.out 6).trans rfl;have tI:=aa oa.out 0;have sI:=aa oa.out 1;have rI:=aa oa.out 2;have qI:=aa oa.out 3;have pI:=aa oa.out 4;have XQ:=aa oa.out 5;have WQ:=aa oa.out 6));go_ret;exact ⟨_,by first|rfl|(simp [Pa,Oa] <;> rfl)|(simp [*,Pa,Oa] <;> rfl),by (with_reducible repeat (first|apply Kd.mb|apply Kd.jb|apply Kd.Gb));exact Ij.out,EaH⟩
       ·replace iz:=Bool.eq_false_iff.mpr iz;subst iz;have H1:(some (([]:List Int)))=some r:=by rw [if_neg (show ¬ (false=true) by decide)] at H;exact H
        clear H;have H:=H1;clear H1;obtain ⟨oaa,ow⟩:∃ y_:List Int,y_=(([]:List Int)):=⟨_,rfl⟩;replace H:(some oaa)=some r:=by first|(rw [ow];with_reducible exact H)|(have Td:=(Option.bind_some _ _).symm.trans H;rw [ow];with_reducible exact Td)|(have Td:=(Option.bind_some _ _).symm.trans H;with_reducible exact Td)|with_reducible exact H|(rw [ow];exact H)|exact H
        have CT:=ga.mk ow;clear ow;obtain rfl:=Option.some.inj H;go_wp2_with (first|((with_reducible refine qb (N:=42) rfl ?_);refine Kd.Vj (Kd.int .i64) _ 3 ?hg (N:=42) ?hd (xs:=([]:List Int)) (inner:=[]) (ok:=fun _=>True) (Di:=fun _=>True) ?hr ?hp (fun _ hk=>hk) trivial (Below.refl _ _) (Nat.le_refl _) (by simp) ?_;(case hd=>rfl);(case hg=>rfl);(case hr=>first|(go_simp;done)|(go_simp;rfl));(case hp=>exact (Sd.none _ _));intro uau Y0 RW hb Wm Ye;clear Wm Ye;(first|rw [← CT.out] at RW|(simp only [Int.reduceToNat] at RW;rw [← CT.out] at RW));have Cb:=ga.mk (Kd.Wd RW (La BaH));have Eb:=ga.mk (Va (g:=ya) (o:=.cells #[.int .i64 Qb,.int .i64 Ja,.int .i64 Ga,.int .i64 Ia,.int .i64 Db,.int .i64 Dc,.string Bc] 65 (0,0)) DaH hb);have Rb:=ga.mk (Na BaH hb);clear oa HB;have DZ:=Cb;have oa:=Eb;have HB:=Rb;clear Cb Eb Rb hb RW));go_ret;exact ⟨_,by first|rfl|(simp [Pa,Oa] <;> rfl)|(simp [*,Pa,Oa] <;> rfl),by (with_reducible repeat (first|apply Kd.mb|apply Kd.jb|apply Kd.Gb));exact DZ.out,EaH⟩
mutual
def Nc.j0:Nat→List Bool→Int→Int→Int→Int→Int→Int→ByteArray→Option (List Bool)
 | 0,_,_,_,_,_,_,_,_=>none
 | k + 1,x1,Fc,Uc,Mc,Ic,jc,dn,bn=>(Ke.f k Fc Uc Mc Ic jc dn bn).bind fun t104=>(Nc.l0 k x1 t104 0)
def Nc.l0:Nat→List Bool→List Int→Int→Option (List Bool)
 | 0,_,_,_=>none
 | k + 1,x1,x4,x5=>if x5 < (x4.length:Int) then (if 0 ≤ x5 then (if 0 ≤ (rd x4 x5) then (if (rd x4 x5) < (x1.length:Int) then (Nc.l0 k (x1.set ((rd x4 x5):Int).toNat true) x4 (wrap64 (x5 + 1))) else (none)) else (none)) else (none)) else (some x1)
end
def Nc.f (k:Nat) (Qb:Int) (Ja:Int) (Ga:Int) (Ia:Int) (Db:Int) (Dc:Int) (Bc:ByteArray) (l1:List Bool):Option (List Bool):=(Ig.f Qb Ja Ga Ia Db Dc Bc).bind fun t102=>(if t102=true then (if 0 ≤ Ja then (if Ja < (l1.length:Int) then (Nc.j0 k (l1.set (Ja:Int).toNat false) Qb Ja Ga Ia Db Dc Bc) else (none)) else (none)) else (Nc.j0 k l1 Qb Ja Ga Ia Db Dc Bc))
theorem Nc.calls (k:Nat) (Qb:Int) (Ja:Int) (Ga:Int) (Ia:Int) (Db:Int) (Dc:Int) (Bc:ByteArray) (iG:Nat→Prop) (Eg:Value) (l1:List Bool) (r:List Bool) (w0 w:World) (hB:Below w0.heap.size w0 w) (ho1:Kd.R Kd.bool 4 w w0.heap.size iG Eg l1) (h:Nc.f k Qb Ja Ga Ia Db Dc Bc l1=some r) :
  Calls Try.prog 44 #[.agg #[.int .i64 Qb,.int .i64 Ja,.int .i64 Ga,.int .i64 Ia,.int .i64 Db,.int .i64 Dc,.string Bc],Eg] w fun e w'=>e = .returned (.tuple #[])∧Kd.R Kd.bool 4 w' w0.heap.size (fun k_=>(iG k_ ∨ w.heap.size ≤ k_)) Eg r∧Below w0.heap.size w0 w'∧Kept w w' (fun k_=>iG k_):=by
 have kA:=Try.underlying65;have vN:=ga.mk (show Kd.R Kd.bool 4 w w0.heap.size (fun k_=>(iG k_ ∨ w.heap.size ≤ k_)) Eg l1 from Kd.Xd ho1 (fun k_ hk=>(.inl hk)));have HK:=ga.mk (Kept.refl w (fun k_=>iG k_));have HW0:=ga.mk hB.size;have HB:=ga.mk hB;clear hB;have H:((Ig.f Qb Ja Ga Ia Db Dc Bc).bind fun t102=>(if t102=true then (if 0 ≤ Ja then (if Ja < (l1.length:Int) then (Nc.j0 k (l1.set (Ja:Int).toNat false) Qb Ja Ga Ia Db Dc Bc) else (none)) else (none)) else (Nc.j0 k l1 Qb Ja Ga Ia Db Dc Bc)))=some r:=h;clear h;replace H:=Option.bind_eq_some_iff.mp H;obtain ⟨t102,Zv,H⟩:=H;replace H:(if t102=true then (if 0 ≤ Ja then (if Ja < (l1.length:Int) then (Nc.j0 k (l1.set (Ja:Int).toNat false) Qb Ja Ga Ia Db Dc Bc) else (none)) else (none)) else (Nc.j0 k l1 Qb Ja Ga Ia Db Dc Bc))=some r:=H;have A3:=ga.mk Zv;clear Zv;have R0:=ga.mk H;clear H;go_enter Try.func44,Try.ntmps44
 go_upto_if 7 with (first|((with_reducible refine qb (N:=2) rfl ?_);refine Ib ?hg (N:=2) ?hd (cs:=#[.int .i64 Qb,.int .i64 Ja,.int .i64 Ga,.int .i64 Ia,.int .i64 Db,.int .i64 Dc,.string Bc]) (t:=65) ?hr ?_;(case hd=>rfl);(case hg=>rfl);(case hr=>first|(go_simp;done)|(go_simp;rfl));intro ya hg w5 Sb hb;have Cb:=ga.mk (Kd.oc (by (with_reducible repeat (first|apply Kd.mb|apply Kd.jb|apply Kd.Gb));exact vN.out) hb);have Eb:=ga.mk (Kept.below (S:=(fun k_=>iG k_)) QaH hb);have Rb:=ga.mk (Na CaH hb);have Gc:=ga.mk (Sb);have kg:=ga.mk ((by rw [hg];exact (by first|exact HK.out.1|exact (show Kept w _ (fun k_=>iG k_) from by repeat (first|(with_reducible first|exact HK.out|apply Kept.alloc|apply Kept.drewN|apply Kept.drew)|exact HK.out)).1):w.heap.size ≤ ya));have Rg:=ga.mk ((by rw [hg];exact (La CaH):w0.heap.size ≤ ya));clear vN HK HB;have vN:=Cb;have HK:=Eb;have HB:=Rb;have oa:=Gc;have Nd:=kg;have Ta:=Rg;clear Cb Eb Rb Gc kg Rg hb Sb hg;have ur:w5.cell? ⟨ya,0,none⟩=some (.int .i64 Qb):=(ia oa.out 0).trans rfl;have tr:w5.cell? ⟨ya,1,none⟩=some (.int .i64 Ja):=(ia oa.out 1).trans rfl;have sr:w5.cell? ⟨ya,2,none⟩=some (.int .i64 Ga):=(ia oa.out 2).trans rfl;have nr:w5.cell? ⟨ya,3,none⟩=some (.int .i64 Ia):=(ia oa.out 3).trans rfl;have kr:w5.cell? ⟨ya,4,none⟩=some (.int .i64 Db):=(ia oa.out 4).trans rfl;have av:w5.cell? ⟨ya,5,none⟩=some (.int .i64 Dc):=(ia oa.out 5).trans rfl;have Zu:w5.cell? ⟨ya,6,none⟩=some (.string Bc):=(ia oa.out 6).trans rfl;have jr:=aa oa.out 0;have ir:=aa oa.out 1;have gr:=aa oa.out 2;have er:=aa oa.out 3;have dr:=aa oa.out 4;have Ju:=aa oa.out 5;have Iu:=aa oa.out 6)|((with_reducible refine Bb (f:=73) rfl ?_);refine Tc (some 7) rfl rfl Try.func73 (by kernel_rfl) rfl #[.agg #[.int .i64 Qb,.int .i64 Ja,.int .i64 Ga,.int .i64 Ia,.int .i64 Db,.int .i64 Dc,.string Bc]] rfl FaH ?_;(with_reducible refine (Ig.calls Qb Ja Ga Ia Db Dc Bc t102 _ A3.out).mono ?_);rintro e w7 ⟨rfl,hb⟩;refine ⟨_,rfl,?_⟩;have Cb:=ga.mk (Kd.oc (by (with_reducible repeat (first|apply Kd.mb|apply Kd.jb|apply Kd.Gb));exact vN.out) hb);have Eb:=ga.mk (Va (g:=ya) (o:=.cells #[.int .i64 Qb,.int .i64 Ja,.int .i64 Ga,.int .i64 Ia,.int .i64 Db,.int .i64 Dc,.string Bc] 65 (0,0)) DaH hb);have Rb:=ga.mk (Kept.below (S:=(fun k_=>iG k_)) SaH hb);have Gc:=ga.mk (Na BaH hb);clear vN oa HK HB;have vN:=Cb;have oa:=Eb;have HK:=Rb;have HB:=Gc;clear Cb Eb Rb Gc;(try clear hb);(try clear jj);(try clear hk);(try clear hi)))
 (try simp only [Act.put,List.setIfInBounds_toArray,List.set_cons_zero,List.set_cons_succ])
 go_cut [] (fun wc=>∃ (kq:Nat) (GV:List Bool),ga (Nc.j0 kq GV Qb Ja Ga Ia Db Dc Bc=some r)∧ga (kq ≤ k)∧ga (Kd.R Kd.bool 4 wc w0.heap.size (fun k_=>(iG k_ ∨ w.heap.size ≤ k_)) Eg GV)∧ga (wc.heap[ya]? = some (.cells #[.int .i64 Qb,.int .i64 Ja,.int .i64 Ga,.int .i64 Ia,.int .i64 Db,.int .i64 Dc,.string Bc] 65 (0,0)))∧ga (Kept w wc (fun k_=>iG k_))∧ga (Below w0.heap.size w0 wc))
 case first =>
  have H:=R0.out;clear R0
  by_cases c8:t102=true
  ·subst c8;have H1:(if 0 ≤ Ja then (if Ja < (l1.length:Int) then (Nc.j0 k (l1.set (Ja:Int).toNat false) Qb Ja Ga Ia Db Dc Bc) else (none)) else (none))=some r:=by rw [if_pos rfl] at H;exact H
   clear H;have H:=H1;clear H1
   by_cases c9:0 ≤ Ja
   ·rw [if_pos c9] at H;have gy:decide (0 ≤ Ja)=true:=decide_eq_true c9;clear c9;(first|rw [gy]|(simp only [qc,tc];rw [gy])|skip)
    by_cases Gt:Ja < (l1.length:Int)
    ·rw [if_pos Gt] at H;have iu:decide (Ja < (l1.length:Int))=true:=decide_eq_true Gt;clear Gt;obtain ⟨qg,Ql⟩:∃ y_:List Bool,y_=(l1.set (Ja:Int).toNat false):=⟨_,rfl⟩;replace H:(Nc.j0 k qg Qb Ja Ga Ia Db Dc Bc)=some r:=by first|(rw [Ql];with_reducible exact H)|(have Td:=(Option.bind_some _ _).symm.trans H;rw [Ql];with_reducible exact Td)|(have Td:=(Option.bind_some _ _).symm.trans H;with_reducible exact Td)|with_reducible exact H|(rw [Ql];exact H)|exact H
     have XC:=ga.mk Ql;clear Ql;have H':=ga.mk H;clear H;have Ft:w7.cell? ⟨ya,0,none⟩=some (.int .i64 Qb):=(ia oa.out 0).trans rfl;have Et:w7.cell? ⟨ya,1,none⟩=some (.int .i64 Ja):=(ia oa.out 1).trans rfl;have Dt:w7.cell? ⟨ya,2,none⟩=some (.int .i64 Ga):=(ia oa.out 2).trans rfl;have Ct:w7.cell? ⟨ya,3,none⟩=some (.int .i64 Ia):=(ia oa.out 3).trans rfl;have Bt:w7.cell? ⟨ya,4,none⟩=some (.int .i64 Db):=(ia oa.out 4).trans rfl;have kT:w7.cell? ⟨ya,5,none⟩=some (.int .i64 Dc):=(ia oa.out 5).trans rfl;have jT:w7.cell? ⟨ya,6,none⟩=some (.string Bc):=(ia oa.out 6).trans rfl;have Xs:=aa oa.out 0;have Ws:=aa oa.out 1;have Vs:=aa oa.out 2;have Us:=aa oa.out 3;have Ts:=aa oa.out 4;have VR:=aa oa.out 5;have UR:=aa oa.out 6;have iL:0 ≤ (Ja:Int):=Ua;have gL:(Ja:Int) < ((l1.length:Int):Int):=Ua;obtain ⟨oF,xw,AO,JX,Rab,uax,JZ⟩:=Kd.Ul vN.out (by omega);(first|cases AO|(injection AO with Kk Xy Yy;(first|subst Kk|(injection Kk with Kk;subst Kk));subst Yy;clear Xy));have Sad:=ga.mk JX;have zay:=ga.mk JZ;clear JX Rab JZ;have Ead:=ga.mk (show (iG oF ∨ w.heap.size ≤ oF) from (vN.out.1 _ rfl));obtain ⟨gF,Aab⟩:=Kd.Cj false vN.out (Ja:Int) iL gL;replace iL:=eq_true iL;replace gL:=eq_true gL;have Bad:=Kd.yo vN.out (Ja:Int) false;go_wp2_with (first|((with_reducible refine af (t:=4) (p:=11) rfl ?_);refine Ie (t:=4) (p:=11) (v:=?qau) (w1:=(w7.setCell ⟨oF,(Ja:Int).toNat,none⟩ (.bool false))) ?hg ?ho ?hn ?hr ?_;(case ho=>rfl);(case hg=>rfl);(case hn=>rfl);(case hr=>first|(go_simp;done)|(go_simp;rfl));intro Ky hw;have hg:w7.grownBy Ky (some oF):=(by rw [hw];exact Bad.2);have Pm:Kd.R Kd.bool 4 Ky w0.heap.size (fun k_=>(iG k_ ∨ w.heap.size ≤ k_)) (.slice (some ⟨oF,0,none⟩) l1.length xw) qg:=(by rw [hw,XC.out];exact Bad.1);clear Bad;have Cb:=ga.mk (Pm);have Eb:=ga.mk (xd (g:=ya) (o:=.cells #[.int .i64 Qb,.int .i64 Ja,.int .i64 Ga,.int .i64 Ia,.int .i64 Db,.int .i64 Dc,.string Bc] 65 (0,0)) DaH hg (Kd.Fk vN.out oa.out (by decide)));have Rb:=ga.mk ((by rw [hw];exact ua (HB.out) Sad.out:Below w0.heap.size w0 Ky));have Gc:=ga.mk (Kept.mj (S:=(fun k_=>iG k_)) hg SaH (fun k_ e_=>(vN.out.1 k_ e_)));clear vN oa HB HK;have vN:=Cb;have oa:=Eb;have HB:=Rb;have HK:=Gc;clear Cb Eb Rb Gc hg hw Pm))
     go_meet
     case rel=>exact ⟨_,(qg),H',⟨by first|omega|exact Nat.le_refl _⟩,⟨by (with_reducible repeat (first|apply Kd.mb|apply Kd.jb|apply Kd.Gb));exact vN.out⟩,⟨HaH⟩,⟨MaH⟩,⟨EaH⟩⟩
    ·rw [if_neg Gt] at H;exact absurd H (by simp)
   ·rw [if_neg c9] at H;exact absurd H (by simp)
  ·replace c8:=Bool.eq_false_iff.mpr c8;subst c8;have H1:(Nc.j0 k l1 Qb Ja Ga Ia Db Dc Bc)=some r:=by rw [if_neg (show ¬ (false=true) by decide)] at H;exact H
   clear H;have H:=H1;clear H1;have H':=ga.mk H;clear H;go_wp2
   go_meet
   case rel=>exact ⟨_,(l1),H',⟨by first|omega|exact Nat.le_refl _⟩,⟨by (with_reducible repeat (first|apply Kd.mb|apply Kd.jb|apply Kd.Gb));exact vN.out⟩,⟨HaH⟩,⟨MaH⟩,⟨EaH⟩⟩
 case rest =>
  clear R0
  try clear c1
  try clear p1
  try clear q1
  try clear hx1
  try clear p2
  try clear c4
  try clear c7
  try clear c8
  try clear c9
  try clear gy
  try clear Gt
  try clear iu
  try clear iL
  try clear gL
  try clear EW
  try clear Bab
  try clear Ft
  try clear Et
  try clear Dt
  try clear Ct
  try clear Bt
  try clear kT
  try clear jT
  try clear ur
  try clear tr
  try clear sr
  try clear nr
  try clear kr
  try clear av
  try clear Zu
  try clear Xs
  try clear Ws
  try clear Vs
  try clear Us
  try clear Ts
  try clear VR
  try clear UR
  try clear jr
  try clear ir
  try clear gr
  try clear er
  try clear dr
  try clear Ju
  try clear Iu
  try clear gF
  try clear iL
  try clear gL
  obtain ⟨kq,GV,HA,HJ3,Aw,oa,HK,HB⟩:=hcut;cases kq with
  | zero=>exact absurd HA.out (by simp [Nc.j0])
  | succ K2 =>
   have H:=HA.out;clear HA;simp only [Nc.j0] at H;replace H:=Option.bind_eq_some_iff.mp H;obtain ⟨t104,SZ,H⟩:=H;replace H:(Nc.l0 K2 GV t104 0)=some r:=H;have A15:=ga.mk SZ;clear SZ;have H':=ga.mk H;clear H;have zp:wc.cell? ⟨ya,0,none⟩=some (.int .i64 Qb):=(ia oa.out 0).trans rfl;have yp:wc.cell? ⟨ya,1,none⟩=some (.int .i64 Ja):=(ia oa.out 1).trans rfl;have xp:wc.cell? ⟨ya,2,none⟩=some (.int .i64 Ga):=(ia oa.out 2).trans rfl;have vp:wc.cell? ⟨ya,3,none⟩=some (.int .i64 Ia):=(ia oa.out 3).trans rfl;have qp:wc.cell? ⟨ya,4,none⟩=some (.int .i64 Db):=(ia oa.out 4).trans rfl;have lE:wc.cell? ⟨ya,5,none⟩=some (.int .i64 Dc):=(ia oa.out 5).trans rfl;have kE:wc.cell? ⟨ya,6,none⟩=some (.string Bc):=(ia oa.out 6).trans rfl;have lp:=aa oa.out 0;have gp:=aa oa.out 1;have ep:=aa oa.out 2;have bp:=aa oa.out 3;have Zo:=aa oa.out 4;have QD:=aa oa.out 5;have PD:=aa oa.out 6;go_wp2_with (first|((with_reducible refine Bb (f:=74) rfl ?_);refine Tc (some 13) rfl rfl Try.func74 (by kernel_rfl) rfl #[.agg #[.int .i64 Qb,.int .i64 Ja,.int .i64 Ga,.int .i64 Ia,.int .i64 Db,.int .i64 Dc,.string Bc]] rfl FaH ?_;(with_reducible refine (Ke.calls K2 Qb Ja Ga Ia Db Dc Bc t104 _ A15.out).mono ?_);rintro e js ⟨D1,rfl,Hi,hb⟩;refine ⟨_,rfl,?_⟩;have Cb:=ga.mk (Kd.oc (by (with_reducible repeat (first|apply Kd.mb|apply Kd.jb|apply Kd.Gb));exact Aw.out) hb);have Eb:=ga.mk (Kd.Wd (Kd.yY (M:=fun k_=>(iG k_ ∨ w.heap.size ≤ k_)) Hi (by first|exact HK.out.1|exact (show Kept w _ (fun k_=>iG k_) from by repeat (first|(with_reducible first|exact HK.out|apply Kept.alloc|apply Kept.drewN|apply Kept.drew|refine Kept.setCell ?_ (.inr Nd.out) _)|exact HK.out)).1) (fun k_ h_=>.inr h_)) (La BaH));have Rb:=ga.mk (Va (g:=ya) (o:=.cells #[.int .i64 Qb,.int .i64 Ja,.int .i64 Ga,.int .i64 Ia,.int .i64 Db,.int .i64 Dc,.string Bc] 65 (0,0)) DaH hb);have Gc:=ga.mk (Kept.below (S:=(fun k_=>iG k_)) SaH hb);have kg:=ga.mk (Na BaH hb);clear Aw oa HK HB;have Aw:=Cb;have su:=Eb;have oa:=Rb;have HK:=Gc;have HB:=kg;clear Cb Eb Rb Gc kg;(try clear hb);(try clear jj);(try clear hk);(try clear hi);(try clear Hi)))
   go_loopg [5] K2 (fun kq v5 w'=>∃ (nH:List Bool) (Eo:Int),v5 = .int .i64 Eo∧ga (Nc.l0 kq nH t104 Eo=some r)∧ga (kq ≤ K2)∧ga (Kd.R Kd.bool 4 w' w0.heap.size (fun k_=>(iG k_ ∨ w.heap.size ≤ k_)) Eg nH)∧ga (Kd.R (Kd.int .i64) 3 w' w0.heap.size (fun k_=>(iG k_ ∨ w.heap.size ≤ k_)) D1 t104)∧ga (w'.heap[ya]? = some (.cells #[.int .i64 Qb,.int .i64 Ja,.int .i64 Ga,.int .i64 Ia,.int .i64 Db,.int .i64 Dc,.string Bc] 65 (0,0)))∧ga (Kept w w' (fun k_=>iG k_))∧ga (Below w0.heap.size w0 w'))
   case atStart=>exact ⟨(GV),(0),IaH,H',⟨Nat.le_refl _⟩,⟨by (with_reducible repeat (first|apply Kd.mb|apply Kd.jb|apply Kd.Gb));exact Aw.out⟩,⟨by (with_reducible repeat (first|apply Kd.mb|apply Kd.jb|apply Kd.Gb));exact Kd.Xd su.out (fun _ hk=>hk.1)⟩,⟨HaH⟩,⟨MaH⟩,⟨EaH⟩⟩
   case round =>
    clear H'
    try clear c1
    try clear p1
    try clear q1
    try clear hx1
    try clear p2
    try clear c4
    try clear c7
    try clear c8
    try clear c9
    try clear gy
    try clear Gt
    try clear iu
    try clear iL
    try clear gL
    try clear EW
    try clear Bab
    try clear Ft
    try clear Et
    try clear Dt
    try clear Ct
    try clear Bt
    try clear kT
    try clear jT
    try clear zp
    try clear yp
    try clear xp
    try clear vp
    try clear qp
    try clear lE
    try clear kE
    try clear ur
    try clear tr
    try clear sr
    try clear nr
    try clear kr
    try clear av
    try clear Zu
    try clear Xs
    try clear Ws
    try clear Vs
    try clear Us
    try clear Ts
    try clear VR
    try clear UR
    try clear lp
    try clear gp
    try clear ep
    try clear bp
    try clear Zo
    try clear QD
    try clear PD
    try clear jr
    try clear ir
    try clear gr
    try clear er
    try clear dr
    try clear Ju
    try clear Iu
    try clear gF
    try clear p1
    try clear iL
    try clear p2
    try clear q1
    try clear gL
    (try clear HA);(try clear Cm);(try clear Aw);(try clear WM);(try clear oa);(try clear HK);(try clear HB);obtain ⟨nH,Eo,rfl,HA,Cm,Aw,WM,oa,HK,HB⟩:=hrel;cases gk with
    | zero=>exact absurd HA.out (by simp [Nc.l0])
    | succ k2 =>
     have H:=HA.out;clear HA;simp only [Nc.l0] at H
     by_cases Ko:Eo < (t104.length:Int)
     ·rw [if_pos Ko] at H;have Jo:decide (Eo < (t104.length:Int))=true:=decide_eq_true Ko;clear Ko
      by_cases Ll:0 ≤ Eo
      ·rw [if_pos Ll] at H;have Kr:decide (0 ≤ Eo)=true:=decide_eq_true Ll;clear Ll
       by_cases vm:0 ≤ (rd t104 Eo)
       ·rw [if_pos vm] at H;have Jr:decide (0 ≤ (rd t104 Eo))=true:=decide_eq_true vm;clear vm
        by_cases Ir:(rd t104 Eo) < (nH.length:Int)
        ·rw [if_pos Ir] at H;have GM:decide ((rd t104 Eo) < (nH.length:Int))=true:=decide_eq_true Ir;clear Ir;obtain ⟨gh,Ef⟩:∃ y_:List Bool,y_=(nH.set ((rd t104 Eo):Int).toNat true):=⟨_,rfl⟩;replace H:(Nc.l0 k2 gh t104 (wrap64 (Eo + 1)))=some r:=by first|(rw [Ef];with_reducible exact H)|(have Td:=(Option.bind_some _ _).symm.trans H;rw [Ef];with_reducible exact Td)|(have Td:=(Option.bind_some _ _).symm.trans H;with_reducible exact Td)|with_reducible exact H|(rw [Ef];exact H)|exact H
         have Wj:=ga.mk Ef;clear Ef;have H':=ga.mk H;clear H;obtain ⟨DaG,cac,j7⟩:=Kd.Bd WM.out;subst j7;have Zx:0 ≤ (Eo:Int):=Ua;have Yx:Eo < (t104.length:Int):=Ua;obtain ⟨Fy,FO,Fs⟩:=Kd.Rf (Kd.Vb WM.out).2.2 Eo Zx Yx;cases FO;replace Zx:=eq_true Zx;replace Yx:=eq_true Yx;have p22:0 ≤ ((rd t104 Eo):Int):=Ua;have q22:((rd t104 Eo):Int) < ((nH.length:Int):Int):=Ua;obtain ⟨XU,dac,k7,eaj,Jaw,gaF,Kal⟩:=Kd.Ul Aw.out (by omega);(first|cases k7|(injection k7 with Kk Xy Yy;(first|subst Kk|(injection Kk with Kk;subst Kk));subst Yy;clear Xy));have Hay:=ga.mk eaj;have laG:=ga.mk Kal;clear eaj Jaw Kal;have Zax:=ga.mk (show (iG XU ∨ w.heap.size ≤ XU) from (Aw.out.1 _ rfl));obtain ⟨Xau,iaw⟩:=Kd.Cj false Aw.out ((rd t104 Eo):Int) p22 q22;replace p22:=eq_true p22;replace q22:=eq_true q22;have QF:=Kd.yo Aw.out ((rd t104 Eo):Int) true;go_wp2_with (first|((with_reducible refine af (t:=4) (p:=25) rfl ?_);refine Ie (t:=4) (p:=25) (v:=?KV) (w1:=(wr.setCell ⟨XU,((rd t104 Eo):Int).toNat,none⟩ (.bool true))) ?hg ?ho ?hn ?hr ?_;(case ho=>rfl);(case hg=>rfl);(case hn=>rfl);(case hr=>first|(go_simp;done)|(go_simp;rfl));intro Jy hw;have hg:wr.grownBy Jy (some XU):=(by rw [hw];exact QF.2);have Pm:Kd.R Kd.bool 4 Jy w0.heap.size (fun k_=>(iG k_ ∨ w.heap.size ≤ k_)) (.slice (some ⟨XU,0,none⟩) nH.length dac) gh:=(by rw [hw,Wj.out];exact QF.1);clear QF;have Cb:=ga.mk (Pm);have Eb:=ga.mk (Kd.Jv (v:=(.slice (some ⟨XU,0,none⟩) nH.length dac)) (by (with_reducible repeat (first|apply Kd.mb|apply Kd.jb|apply Kd.Gb));exact WM.out) (Kd.Ht Aw.out) (by decide) hg);have Rb:=ga.mk (xd (g:=ya) (o:=.cells #[.int .i64 Qb,.int .i64 Ja,.int .i64 Ga,.int .i64 Ia,.int .i64 Db,.int .i64 Dc,.string Bc] 65 (0,0)) DaH hg (Kd.Fk Aw.out oa.out (by decide)));have Gc:=ga.mk ((by rw [hw];exact ua (HB.out) Hay.out:Below w0.heap.size w0 Jy));have kg:=ga.mk (Kept.mj (S:=(fun k_=>iG k_)) hg SaH (fun k_ e_=>(Aw.out.1 k_ e_)));clear Aw WM oa HB HK;have Aw:=Cb;have WM:=Eb;have oa:=Rb;have HB:=Gc;have HK:=kg;clear Cb Eb Rb Gc kg hg hw Pm))
         go_roundg k2
         case measure=>have:=HJ3.out;have:=Cm.out;omega
         case rel=>exact ⟨(gh),(wrap64 (Eo + 1)),IaH,H',⟨by have:=HJ3.out;have:=Cm.out;omega⟩,⟨by (with_reducible repeat (first|apply Kd.mb|apply Kd.jb|apply Kd.Gb));exact Aw.out⟩,⟨by (with_reducible repeat (first|apply Kd.mb|apply Kd.jb|apply Kd.Gb));exact WM.out⟩,⟨HaH⟩,⟨MaH⟩,⟨EaH⟩⟩
        ·rw [if_neg Ir] at H;exact absurd H (by simp)
       ·rw [if_neg vm] at H;exact absurd H (by simp)
      ·rw [if_neg Ll] at H;exact absurd H (by simp)
     ·rw [if_neg Ko] at H;have Jo:decide (Eo < (t104.length:Int))=false:=decide_eq_false Ko;clear Ko;obtain rfl:=Option.some.inj H;obtain ⟨BaG,YaE,Zaw⟩:=Kd.Bd WM.out;subst Zaw;go_wp2
      first|go_end0|((try simp only [Exit.inBlock,Exit.then]);refine bodyPost_ret (results_none rfl _ _ _) rfl ?_)
      exact ⟨by first|rfl|(simp [Pa,Oa] <;> rfl)|(simp [*,Pa,Oa] <;> rfl),by (with_reducible repeat (first|apply Kd.mb|apply Kd.jb|apply Kd.Gb));exact Aw.out,EaH,MaH⟩
def Zf.l0:Nat→List Bool→Int→List (Le)→Int→Int→Int→Int→Option (List Bool)
 | 0,_,_,_,_,_,_,_=>none
 | k + 1,x5,x6,Fc,Uc,Mc,Ic,jc=>if x6 ≥ 0 then (if 0 ≤ x6 then (if x6 < (Fc.length:Int) then ((Nc.f k ((Ea Fc x6).f0) ((Ea Fc x6).f1) ((Ea Fc x6).f2) ((Ea Fc x6).f3) ((Ea Fc x6).f4) ((Ea Fc x6).f5) ((Ea Fc x6).f6) x5).bind fun t106=>(Zf.l0 k t106 (wrap64 (x6 - 1)) Fc Uc Mc Ic jc)) else (none)) else (none)) else (some x5)
def Zf.f (k:Nat) (Qa:List (Le)) (Ja:Int) (Ga:Int) (Ia:Int) (Db:Int) (l1:List Bool):Option (List Bool):=(Qg.f Qa Ja Ga Ia Db l1).bind fun t102=>(Zf.l0 k t102 (wrap64 ((Qa.length:Int) - 1)) Qa Ja Ga Ia Db)
theorem Zf.calls (k:Nat) (Wa:Option Addr) (Xa:Nat) (Qa:List (Le)) (Ja:Int) (Ga:Int) (Ia:Int) (Db:Int) (A1:Option Addr) (c1:Nat) (l1:List Bool) (r:List Bool) (w:World) (Od:Kd.C Wk w Wa Qa.length Qa) (Md:Qa.length ≤ Xa) (Kp:Kd.C Kd.bool w A1 l1.length l1) (Xk:l1.length ≤ c1) (h:Zf.f k Qa Ja Ga Ia Db l1=some r) :
  Calls Try.prog 54 #[.agg #[.slice Wa Qa.length Xa,.int .i64 Ja,.int .i64 Ga,.int .i64 Ia,.int .i64 Db],.slice A1 l1.length c1] w fun e w'=>∃ wm:Value,e = .returned (wm)∧Kd.R Kd.bool 4 w' w.heap.size (fun _=>True) wm r∧Below w.heap.size w w':=by
 have JB:=Try.underlying59;have kA:=Try.underlying65;have fe:=ga.mk Od;have ye:=ga.mk Md;clear Od Md;have Uo:=ga.mk Kp;have FG:=ga.mk Xk;clear Kp Xk;have HB:=ga.mk (Below.refl w.heap.size w);have H:((Qg.f Qa Ja Ga Ia Db l1).bind fun t102=>(Zf.l0 k t102 (wrap64 ((Qa.length:Int) - 1)) Qa Ja Ga Ia Db))=some r:=h;clear h;replace H:=Option.bind_eq_some_iff.mp H;obtain ⟨t102,Zv,H⟩:=H;replace H:(Zf.l0 k t102 (wrap64 ((Qa.length:Int) - 1)) Qa Ja Ga Ia Db)=some r:=H;have A3:=ga.mk Zv;clear Zv;have H':=ga.mk H;clear H;go_enter Try.func54,Try.ntmps54;go_wp2_with (first|((with_reducible refine qb (N:=2) rfl ?_);refine Ib ?hg (N:=2) ?hd (cs:=#[.slice Wa Qa.length Xa,.int .i64 Ja,.int .i64 Ga,.int .i64 Ia,.int .i64 Db]) (t:=59) ?hr ?_;(case hd=>rfl);(case hg=>rfl);(case hr=>first|(go_simp;done)|(go_simp;rfl));intro ya hg w4 Sb hb;have Cb:=ga.mk (Na CaH hb);have Eb:=ga.mk (Sb);have Rb:=ga.mk ((by rw [hg];exact (La CaH):w.heap.size ≤ ya));have Gc:=ga.mk ((by rw [hg];exact (La CaH):w.heap.size ≤ ya));clear HB;have HB:=Cb;have oa:=Eb;have Nd:=Rb;have Ta:=Gc;clear Cb Eb Rb Gc hb Sb hg;have gC:w4.cell? ⟨ya,0,none⟩=some (.slice Wa Qa.length Xa):=(ia oa.out 0).trans rfl;have fC:w4.cell? ⟨ya,1,none⟩=some (.int .i64 Ja):=(ia oa.out 1).trans rfl;have eC:w4.cell? ⟨ya,2,none⟩=some (.int .i64 Ga):=(ia oa.out 2).trans rfl;have cC:w4.cell? ⟨ya,3,none⟩=some (.int .i64 Ia):=(ia oa.out 3).trans rfl;have bC:w4.cell? ⟨ya,4,none⟩=some (.int .i64 Db):=(ia oa.out 4).trans rfl;have UB:=aa oa.out 0;have SB:=aa oa.out 1;have RB:=aa oa.out 2;have QB:=aa oa.out 3;have OB:=aa oa.out 4)|((with_reducible refine Bb (f:=42) rfl ?_);refine Tc (some 9) rfl rfl Try.func42 (by kernel_rfl) rfl #[.agg #[.slice Wa Qa.length Xa,.int .i64 Ja,.int .i64 Ga,.int .i64 Ia,.int .i64 Db],.slice A1 l1.length c1] rfl FaH ?_;(with_reducible refine (Qg.calls _ _ Qa Ja Ga Ia Db _ _ l1 t102 _ ?yc ?uc ?td ?qd A3.out).mono ?_);(case yc=>repeat (first|exact (Kd.Ab fe.out HB.out)|(with_reducible refine Kd.Lb ?_ _)|(with_reducible refine Kd.Kb ?_ _)|(with_reducible refine Kd.Xb ?_)));(case uc=>exact ye.out);(case td=>repeat (first|exact (Kd.Ab Uo.out HB.out)|(with_reducible refine Kd.Lb ?_ _)|(with_reducible refine Kd.Kb ?_ _)|(with_reducible refine Kd.Xb ?_)));(case qd=>exact FG.out);rintro e w6 ⟨Sm,rfl,Hi,hb⟩;refine ⟨_,rfl,?_⟩;have Cb:=ga.mk (Kd.Wd Hi (La BaH));have Eb:=ga.mk (Va (g:=ya) (o:=.cells #[.slice Wa Qa.length Xa,.int .i64 Ja,.int .i64 Ga,.int .i64 Ia,.int .i64 Db] 59 (0,0)) DaH hb);have Rb:=ga.mk (Na BaH hb);clear oa HB;have Cg:=Cb;have oa:=Eb;have HB:=Rb;clear Cb Eb Rb;(try clear hb);(try clear jj);(try clear hk);(try clear hi);(try clear Hi);have Dk:w6.cell? ⟨ya,0,none⟩=some (.slice Wa Qa.length Xa):=(ia oa.out 0).trans rfl;have Ck:w6.cell? ⟨ya,1,none⟩=some (.int .i64 Ja):=(ia oa.out 1).trans rfl;have Bk:w6.cell? ⟨ya,2,none⟩=some (.int .i64 Ga):=(ia oa.out 2).trans rfl;have Ak:w6.cell? ⟨ya,3,none⟩=some (.int .i64 Ia):=(ia oa.out 3).trans rfl;have zk:w6.cell? ⟨ya,4,none⟩=some (.int .i64 Db):=(ia oa.out 4).trans rfl;have xk:=aa oa.out 0;have vk:=aa oa.out 1;have uk:=aa oa.out 2;have sk:=aa oa.out 3;have qk:=aa oa.out 4))
 go_loopg [6] k (fun kq v6 w'=>∃ (Ka:List Bool) (Wl:Int),v6 = .int .i64 Wl∧ga (Zf.l0 kq Ka Wl Qa Ja Ga Ia Db=some r)∧ga (kq ≤ k)∧ga (Kd.R Kd.bool 4 w' w.heap.size (fun _=>True) Sm Ka)∧ga (w'.heap[ya]? = some (.cells #[(.slice Wa Qa.length Xa),.int .i64 Ja,.int .i64 Ga,.int .i64 Ia,.int .i64 Db] 59 (0,0)))∧ga (Below w.heap.size w w'))
 case atStart=>exact ⟨(t102),(wrap64 ((Qa.length:Int) - 1)),IaH,H',⟨Nat.le_refl _⟩,⟨XaH⟩,⟨HaH⟩,⟨EaH⟩⟩
 case round =>
  clear H'
  try clear c1
  try clear p2
  try clear c4
  try clear c5
  try clear p6
  try clear gC
  try clear fC
  try clear eC
  try clear cC
  try clear bC
  try clear Dk
  try clear Ck
  try clear Bk
  try clear Ak
  try clear zk
  try clear UB
  try clear SB
  try clear RB
  try clear QB
  try clear OB
  try clear xk
  try clear vk
  try clear uk
  try clear sk
  try clear qk
  (try clear HA);(try clear pg);(try clear Zh);(try clear oa);(try clear HB);obtain ⟨Ka,Wl,rfl,HA,pg,Zh,oa,HB⟩:=hrel;cases gk with
  | zero=>exact absurd HA.out (by simp [Zf.l0])
  | succ k1 =>
   have H:=HA.out;clear HA;simp only [Zf.l0] at H
   by_cases c8:Wl ≥ 0
   ·rw [if_pos c8] at H;have Qt:decide (0 ≤ Wl)=true:=decide_eq_true c8;clear c8
    by_cases c9:0 ≤ Wl
    ·rw [if_pos c9] at H;have gy:decide (0 ≤ Wl)=true:=decide_eq_true c9;clear c9
     by_cases Gt:Wl < (Qa.length:Int)
     ·rw [if_pos Gt] at H;have iu:decide (Wl < (Qa.length:Int))=true:=decide_eq_true Gt;clear Gt;replace H:=Option.bind_eq_some_iff.mp H;obtain ⟨t106,lN,H⟩:=H;replace H:(Zf.l0 k1 t106 (wrap64 (Wl - 1)) Qa Ja Ga Ia Db)=some r:=H;have FV:=ga.mk lN;clear lN;have H':=ga.mk H;clear H;have Ft:wr.cell? ⟨ya,0,none⟩=some (.slice Wa Qa.length Xa):=(ia oa.out 0).trans rfl;have Et:wr.cell? ⟨ya,1,none⟩=some (.int .i64 Ja):=(ia oa.out 1).trans rfl;have Dt:wr.cell? ⟨ya,2,none⟩=some (.int .i64 Ga):=(ia oa.out 2).trans rfl;have Ct:wr.cell? ⟨ya,3,none⟩=some (.int .i64 Ia):=(ia oa.out 3).trans rfl;have Bt:wr.cell? ⟨ya,4,none⟩=some (.int .i64 Db):=(ia oa.out 4).trans rfl;have Xs:=aa oa.out 0;have Ws:=aa oa.out 1;have Vs:=aa oa.out 2;have Us:=aa oa.out 3;have Ts:=aa oa.out 4;have Vm:0 ≤ (Wl:Int):=Ua;have Um:Wl < (Qa.length:Int):=Ua;obtain ⟨Ii,sC,qh,xj,wj,uj,tj,oQ,nQ⟩:=Jm fe.out Wl Vm Um;cases sC;replace qh:=Sa HB.out qh;replace xj:=Sa HB.out xj;replace wj:=Sa HB.out wj;replace uj:=Sa HB.out uj;replace tj:=Sa HB.out tj;replace oQ:=Sa HB.out oQ;replace nQ:=Sa HB.out nQ;replace Vm:=eq_true Vm;replace Um:=eq_true Um;obtain ⟨bL,Er,zO⟩:=Kd.Bd Zh.out;subst zO;go_wp2_with (first|((with_reducible refine Bb (f:=44) rfl ?_);refine Tc (some 24) rfl rfl Try.func44 (by kernel_rfl) rfl #[.agg #[.int .i64 ((Ea Qa Wl).f0),.int .i64 ((Ea Qa Wl).f1),.int .i64 ((Ea Qa Wl).f2),.int .i64 ((Ea Qa Wl).f3),.int .i64 ((Ea Qa Wl).f4),.int .i64 ((Ea Qa Wl).f5),.string ((Ea Qa Wl).f6)],.slice bL Ka.length Er] rfl FaH ?_;(with_reducible refine (Nc.calls k1 ((Ea Qa Wl).f0) ((Ea Qa Wl).f1) ((Ea Qa Wl).f2) ((Ea Qa Wl).f3) ((Ea Qa Wl).f4) ((Ea Qa Wl).f5) ((Ea Qa Wl).f6) (fun k_=>some k_=(.slice bL Ka.length Er:Value).ownBlock) (.slice bL Ka.length Er) Ka t106 w _ ?yc ?uc FV.out).mono ?_);(case yc=>repeat (first|(with_reducible first|exact HB.out|apply qa|apply ja|apply ta|refine ua ?_ Ta.out)|exact HB.out));(case uc=>exact Kd.Vx rfl Zh.out);rintro e Ky ⟨rfl,hy0,hb,hkp⟩;refine ⟨_,rfl,?_⟩;have Cb:=ga.mk (Kd.wY rfl hy0 (fun k_ e_=>Zh.out.1 k_ e_));have Eb:=ga.mk (Ve DaH hkp (fun hs_=>(fun e_=>(Kd.Fk Zh.out oa.out (by decide)) e_) hs_));have Rb:=ga.mk (hb);clear Zh oa HB;have Zh:=Cb;have oa:=Eb;have HB:=Rb;clear Cb Eb Rb;(try clear hb);(try clear hkp);(try clear hy0)))
      go_roundg k1
      case measure=>have:=pg.out;omega
      case rel=>exact ⟨(t106),(wrap64 (Wl - 1)),IaH,H',⟨by have:=pg.out;omega⟩,⟨daI⟩,⟨HaH⟩,⟨EaH⟩⟩
     ·rw [if_neg Gt] at H;exact absurd H (by simp)
    ·rw [if_neg c9] at H;exact absurd H (by simp)
   ·rw [if_neg c8] at H;have Qt:decide (0 ≤ Wl)=false:=decide_eq_false c8;clear c8;obtain rfl:=Option.some.inj H;go_wp2;go_ret;exact ⟨_,by first|rfl|(simp [Pa,Oa] <;> rfl)|(simp [*,Pa,Oa] <;> rfl),daI,EaH⟩
def Yl.f (Qa:List (Le)) (Ja:Int) (Ga:Int) (Ia:Int) (Db:Int):Option (List Int):=if Ja=0 then (some (([Ia]:List Int))) else (if Ja=1 then (some (([Ia,Db]:List Int))) else (some (([]:List Int))))
theorem Yl.calls (Wa:Option Addr) (Xa:Nat) (Qa:List (Le)) (Ja:Int) (Ga:Int) (Ia:Int) (Db:Int) (r:List Int) (w:World) (Od:Kd.C Wk w Wa Qa.length Qa) (Md:Qa.length ≤ Xa) (h:Yl.f Qa Ja Ga Ia Db=some r) :
  Calls Try.prog 72 #[.agg #[.slice Wa Qa.length Xa,.int .i64 Ja,.int .i64 Ga,.int .i64 Ia,.int .i64 Db]] w fun e w'=>∃ wm:Value,e = .returned (wm)∧Kd.R (Kd.int .i64) 3 w' w.heap.size (fun _=>True) wm r∧Below w.heap.size w w':=by
 have JB:=Try.underlying59;have fe:=ga.mk Od;have ye:=ga.mk Md;clear Od Md;have HB:=ga.mk (Below.refl w.heap.size w);have H:(if Ja=0 then (some (([Ia]:List Int))) else (if Ja=1 then (some (([Ia,Db]:List Int))) else (some (([]:List Int)))))=some r:=h;clear h
 by_cases c2:Ja=0
 ·rw [if_pos c2] at H;have fu:(Ja == 0)=true:=beq_iff_eq.mpr c2;have yw:(Ja != 0)=false:=bne_eq_false_iff_eq.mpr c2;clear c2;obtain ⟨Dd,kf⟩:∃ y_:List Int,y_=(([Ia]:List Int)):=⟨_,rfl⟩;replace H:(some Dd)=some r:=by first|(rw [kf];with_reducible exact H)|(have Td:=(Option.bind_some _ _).symm.trans H;rw [kf];with_reducible exact Td)|(have Td:=(Option.bind_some _ _).symm.trans H;with_reducible exact Td)|with_reducible exact H|(rw [kf];exact H)|exact H
  have Ci:=ga.mk kf;clear kf;obtain rfl:=Option.some.inj H;go_enter Try.func72,Try.ntmps72;go_wp2_with (first|((with_reducible refine qb (N:=1) rfl ?_);refine Ib ?hg (N:=1) ?hd (cs:=#[.slice Wa Qa.length Xa,.int .i64 Ja,.int .i64 Ga,.int .i64 Ia,.int .i64 Db]) (t:=59) ?hr ?_;(case hd=>rfl);(case hg=>rfl);(case hr=>first|(go_simp;done)|(go_simp;rfl));intro ya hg w3 Sb hb;have Cb:=ga.mk (Na CaH hb);have Eb:=ga.mk (Sb);have Rb:=ga.mk ((by rw [hg];exact (La CaH):w.heap.size ≤ ya));have Gc:=ga.mk ((by rw [hg];exact (La CaH):w.heap.size ≤ ya));clear HB;have HB:=Cb;have oa:=Eb;have Nd:=Rb;have Ta:=Gc;clear Cb Eb Rb Gc hb Sb hg;have mC:w3.cell? ⟨ya,0,none⟩=some (.slice Wa Qa.length Xa):=(ia oa.out 0).trans rfl;have lC:w3.cell? ⟨ya,1,none⟩=some (.int .i64 Ja):=(ia oa.out 1).trans rfl;have kC:w3.cell? ⟨ya,2,none⟩=some (.int .i64 Ga):=(ia oa.out 2).trans rfl;have jC:w3.cell? ⟨ya,3,none⟩=some (.int .i64 Ia):=(ia oa.out 3).trans rfl;have iC:w3.cell? ⟨ya,4,none⟩=some (.int .i64 Db):=(ia oa.out 4).trans rfl;have ZB:=aa oa.out 0;have YB:=aa oa.out 1;have XB:=aa oa.out 2;have WB:=aa oa.out 3;have VB:=aa oa.out 4)|((with_reducible refine qb (N:=9) rfl ?_);refine Kd.Vj (Kd.int .i64) _ 3 ?hg (N:=9) ?hd (xs:=([Ia]:List Int)) (inner:=[.int .i64 Ia]) (ok:=fun _=>True) (Di:=fun _=>True) ?hr ?hp (fun _ hk=>hk) trivial (Below.refl _ _) (Nat.le_refl _) (by simp) ?_;(case hd=>rfl);(case hg=>rfl);(case hr=>first|(go_simp;done)|(go_simp;rfl));(case hp=>exact (Sd.one (show Kd.M (Kd.int .i64) _ _ _ Ia [.int .i64 Ia] from rfl) (Sd.none _ _)));intro Sm w5 OL hb Wm Ye;clear Wm Ye;(first|rw [← Ci.out] at OL|(simp only [Int.reduceToNat] at OL;rw [← Ci.out] at OL));have Cb:=ga.mk (Kd.Wd OL (La BaH));have Eb:=ga.mk (Va (g:=ya) (o:=.cells #[.slice Wa Qa.length Xa,.int .i64 Ja,.int .i64 Ga,.int .i64 Ia,.int .i64 Db] 59 (0,0)) DaH hb);have Rb:=ga.mk (Na BaH hb);clear oa HB;have Cg:=Cb;have oa:=Eb;have HB:=Rb;clear Cb Eb Rb hb OL));go_ret;exact ⟨_,by first|rfl|(simp [Pa,Oa] <;> rfl)|(simp [*,Pa,Oa] <;> rfl),XaH,EaH⟩
 ·rw [if_neg c2] at H;have fu:(Ja == 0)=false:=beq_eq_false_iff_ne.mpr c2;have yw:(Ja != 0)=true:=bne_iff_ne.mpr c2
  by_cases c7:Ja=1
  ·rw [if_pos c7] at H;have qm:(Ja == 1)=true:=beq_iff_eq.mpr c7;have eu:(Ja != 1)=false:=bne_eq_false_iff_eq.mpr c7;clear c7;obtain ⟨ie,Ff⟩:∃ y_:List Int,y_=(([Ia,Db]:List Int)):=⟨_,rfl⟩;replace H:(some ie)=some r:=by first|(rw [Ff];with_reducible exact H)|(have Td:=(Option.bind_some _ _).symm.trans H;rw [Ff];with_reducible exact Td)|(have Td:=(Option.bind_some _ _).symm.trans H;with_reducible exact Td)|with_reducible exact H|(rw [Ff];exact H)|exact H
   have om:=ga.mk Ff;clear Ff;obtain rfl:=Option.some.inj H;go_enter Try.func72,Try.ntmps72;go_wp2_with (first|((with_reducible refine qb (N:=1) rfl ?_);refine Ib ?hg (N:=1) ?hd (cs:=#[.slice Wa Qa.length Xa,.int .i64 Ja,.int .i64 Ga,.int .i64 Ia,.int .i64 Db]) (t:=59) ?hr ?_;(case hd=>rfl);(case hg=>rfl);(case hr=>first|(go_simp;done)|(go_simp;rfl));intro ya hg w8 Sb hb;have Cb:=ga.mk (Na CaH hb);have Eb:=ga.mk (Sb);have Rb:=ga.mk ((by rw [hg];exact (La CaH):w.heap.size ≤ ya));have Gc:=ga.mk ((by rw [hg];exact (La CaH):w.heap.size ≤ ya));clear HB;have HB:=Cb;have oa:=Eb;have Nd:=Rb;have Ta:=Gc;clear Cb Eb Rb Gc hb Sb hg;have Qh:w8.cell? ⟨ya,0,none⟩=some (.slice Wa Qa.length Xa):=(ia oa.out 0).trans rfl;have Ph:w8.cell? ⟨ya,1,none⟩=some (.int .i64 Ja):=(ia oa.out 1).trans rfl;have Oh:w8.cell? ⟨ya,2,none⟩=some (.int .i64 Ga):=(ia oa.out 2).trans rfl;have Nh:w8.cell? ⟨ya,3,none⟩=some (.int .i64 Ia):=(ia oa.out 3).trans rfl;have Mh:w8.cell? ⟨ya,4,none⟩=some (.int .i64 Db):=(ia oa.out 4).trans rfl;have Lh:=aa oa.out 0;have Kh:=aa oa.out 1;have Jh:=aa oa.out 2;have Ih:=aa oa.out 3;have Hh:=aa oa.out 4)|((with_reducible refine qb (N:=16) rfl ?_);refine Kd.Vj (Kd.int .i64) _ 3 ?hg (N:=16) ?hd (xs:=([Ia,Db]:List Int)) (inner:=[.int .i64 Ia,.int .i64 Db]) (ok:=fun _=>True) (Di:=fun _=>True) ?hr ?hp (fun _ hk=>hk) trivial (Below.refl _ _) (Nat.le_refl _) (by simp) ?_;(case hd=>rfl);(case hg=>rfl);(case hr=>first|(go_simp;done)|(go_simp;rfl));(case hp=>exact (Sd.one (show Kd.M (Kd.int .i64) _ _ _ Ia [.int .i64 Ia] from rfl) (Sd.one (show Kd.M (Kd.int .i64) _ _ _ Db [.int .i64 Db] from rfl) (Sd.none _ _))));intro yB Yp Bq hb Wm Ye;clear Wm Ye;(first|rw [← om.out] at Bq|(simp only [Int.reduceToNat] at Bq;rw [← om.out] at Bq));have Cb:=ga.mk (Kd.Wd Bq (La BaH));have Eb:=ga.mk (Va (g:=ya) (o:=.cells #[.slice Wa Qa.length Xa,.int .i64 Ja,.int .i64 Ga,.int .i64 Ia,.int .i64 Db] 59 (0,0)) DaH hb);have Rb:=ga.mk (Na BaH hb);clear oa HB;have Dj:=Cb;have oa:=Eb;have HB:=Rb;clear Cb Eb Rb hb Bq));go_ret;exact ⟨_,by first|rfl|(simp [Pa,Oa] <;> rfl)|(simp [*,Pa,Oa] <;> rfl),jaI,EaH⟩
  ·rw [if_neg c7] at H;have qm:(Ja == 1)=false:=beq_eq_false_iff_ne.mpr c7;have eu:(Ja != 1)=true:=bne_iff_ne.mpr c7;obtain ⟨gh,Ef⟩:∃ y_:List Int,y_=(([]:List Int)):=⟨_,rfl⟩;replace H:(some gh)=some r:=by first|(rw [Ef];with_reducible exact H)|(have Td:=(Option.bind_some _ _).symm.trans H;rw [Ef];with_reducible exact Td)|(have Td:=(Option.bind_some _ _).symm.trans H;with_reducible exact Td)|with_reducible exact H|(rw [Ef];exact H)|exact H
   have Wj:=ga.mk Ef;clear Ef;obtain rfl:=Option.some.inj H;go_enter Try.func72,Try.ntmps72;go_wp2_with (first|((with_reducible refine qb (N:=1) rfl ?_);refine Ib ?hg (N:=1) ?hd (cs:=#[.slice Wa Qa.length Xa,.int .i64 Ja,.int .i64 Ga,.int .i64 Ia,.int .i64 Db]) (t:=59) ?hr ?_;(case hd=>rfl);(case hg=>rfl);(case hr=>first|(go_simp;done)|(go_simp;rfl));intro ya hg Xr Sb hb;have Cb:=ga.mk (Na CaH hb);have Eb:=ga.mk (Sb);have Rb:=ga.mk ((by rw [hg];exact (La CaH):w.heap.size ≤ ya));have Gc:=ga.mk ((by rw [hg];exact (La CaH):w.heap.size ≤ ya));clear HB;have HB:=Cb;have oa:=Eb;have Nd:=Rb;have Ta:=Gc;clear Cb Eb Rb Gc hb Sb hg;have yt:Xr.cell? ⟨ya,0,none⟩=some (.slice Wa Qa.length Xa):=(ia oa.out 0).trans rfl;have vt:Xr.cell? ⟨ya,1,none⟩=some (.int .i64 Ja):=(ia oa.out 1).trans rfl;have qt:Xr.cell? ⟨ya,2,none⟩=some (.int .i64 Ga):=(ia oa.out 2).trans rfl;have ot:Xr.cell? ⟨ya,3,none⟩=some (.int .i64 Ia):=(ia oa.out 3).trans rfl;have nt:Xr.cell? ⟨ya,4,none⟩=some (.int .i64 Db):=(ia oa.out 4).trans rfl;have Ss:=aa oa.out 0;have Rs:=aa oa.out 1;have Qs:=aa oa.out 2;have Ns:=aa oa.out 3;have Ms:=aa oa.out 4)|((with_reducible refine qb (N:=17) rfl ?_);refine Kd.Vj (Kd.int .i64) _ 3 ?hg (N:=17) ?hd (xs:=([]:List Int)) (inner:=[]) (ok:=fun _=>True) (Di:=fun _=>True) ?hr ?hp (fun _ hk=>hk) trivial (Below.refl _ _) (Nat.le_refl _) (by simp) ?_;(case hd=>rfl);(case hg=>rfl);(case hr=>first|(go_simp;done)|(go_simp;rfl));(case hp=>exact (Sd.none _ _));intro nG Ky jF hb Wm Ye;clear Wm Ye;(first|rw [← Wj.out] at jF|(simp only [Int.reduceToNat] at jF;rw [← Wj.out] at jF));have Cb:=ga.mk (Kd.Wd jF (La BaH));have Eb:=ga.mk (Va (g:=ya) (o:=.cells #[.slice Wa Qa.length Xa,.int .i64 Ja,.int .i64 Ga,.int .i64 Ia,.int .i64 Db] 59 (0,0)) DaH hb);have Rb:=ga.mk (Na BaH hb);clear oa HB;have Ij:=Cb;have oa:=Eb;have HB:=Rb;clear Cb Eb Rb hb jF));go_ret;exact ⟨_,by first|rfl|(simp [Pa,Oa] <;> rfl)|(simp [*,Pa,Oa] <;> rfl),by (with_reducible repeat (first|apply Kd.mb|apply Kd.jb|apply Kd.Gb));exact Ij.out,EaH⟩
end Go.Proofs.Ytkigbdceceeenaa.P
end
