import Derived.Shelf.Abstract
import Derived.Outline
import Derived.RegionTactic
import Derived.Deep.QuietTactic
import Derived.BigQuiet
import Derived.Test.YtoomcmaifgkkfaaQEdge1
import Derived.Test.YtoomcmaifgkkfaaQEdge8
import Derived.Test.YtoomcmaifgkkfaaQEdge9
import Derived.Test.YtoomcmaifgkkfaaQEdge11
import Derived.Test.YtoomcmaifgkkfaaQEdge5
import Derived.Test.YtoomcmaifgkkfaaQEdge10
import Derived.Test.YtoomcmaifgkkfaaQEdge4
set_option maxHeartbeats 4000000
set_option maxRecDepth 100000
section
namespace Go.Proofs.Ytoomcmaifgkkfaa.P
open Go.RowKit Go.Proofs.Ia.Zb Go.Proofs.Ia.Qd Go.Proofs.Ia.Me
set_option linter.unusedVariables false
set_option linter.unusedSimpArgs false
noncomputable def gh.f (k:Nat) (Ma:List Int) (La:Int) (Na:Int) (Ka:Int) (Ea:List dm):Option Bool :=
 (Yi.f k Ma La Na Ka Ea 1048576).bind fun s=>if s < 0 then some true else
 (nh.f k Ma La Na Ka Ea).bind fun G =>
 (Cc.f k G.1 G.2.1 G.2.2.1 G.2.2.2.1 G.2.2.2.2).bind fun x =>
 (yc.f k G.1 G.2.1 G.2.2.1 G.2.2.2.1 G.2.2.2.2).bind fun y =>
 (we.f k y x).bind fun e1=>if e1=true then
 (Cj.f k G.1 G.2.1 G.2.2.1 G.2.2.2.1 G.2.2.2.2 G.1 G.2.1 G.2.2.1 G.2.2.2.1 G.2.2.2.2).bind fun e2=>if e2=true then
 (xh.f k G.1 G.2.1 G.2.2.1 G.2.2.2.1 G.2.2.2.2 1).bind fun M=>if M.1 < 0 then none else
 (Vf.f k y 1).bind fun m=>(je.f k m.2 1).bind fun q=>if q < 0 then none else if q=m.1 then some true else none
 else none else none
theorem gh.calls (k:Nat) (xb:Option Addr) (qb:Nat) (Ma:List Int) (La:Int) (Na:Int) (Ka:Int) (Qb:Option Addr) (Kb:Nat) (Ea:List dm) (r:Bool) (w:World) (Re:Kd.C (Kd.int .i64) w xb Ma.length Ma) (Pe:Ma.length ≤ qb) (Cg:Kd.C MC w Qb Ea.length Ea) (zg:Ea.length ≤ Kb) (h:gh.f k Ma La Na Ka Ea=some r) :
  Calls Try.prog 9 #[.agg #[.slice xb Ma.length qb,.int .i64 La,.int .i64 Na,.int .i64 Ka,.slice Qb Ea.length Kb]] w fun e w'=>e = .returned (.bool r)∧Below w.heap.size w w':=by
 unfold gh.f at h;obtain ⟨s,hs,h⟩:=Option.bind_eq_some_iff.mp h;have HSZ:=aa.mk hs;have en:=aa.mk Re;have zZ:=aa.mk Cg;have S4:=aa.mk Pe;have R4:=aa.mk zg;obtain ⟨W1,Mg⟩:∃ W1,W1=w.alloc (.cells #[.slice xb Ma.length qb,.int .i64 La,.int .i64 Na,.int .i64 Ka,.slice Qb Ea.length Kb] 40 (0,0)):=⟨_,rfl⟩;have HW:=aa.mk Mg;have wu:=aa.mk (show Below w.heap.size w W1 by rw [Mg];exact oa (Below.refl _ _) _);have SM:=aa.mk (show W1.heap[w.heap.size]? = some (.cells #[.slice xb Ma.length qb,.int .i64 La,.int .i64 Na,.int .i64 Ka,.slice Qb Ea.length Kb] 40 (0,0)) by rw [Mg];exact sr _ _);clear hs Re Cg Pe zg Mg
 by_cases hneg:s < 0
 ·rw [if_pos hneg] at h;obtain rfl:=Option.some.inj h;have hnb:decide (s < 0)=true:=decide_eq_true hneg;clear h hneg;have WQ:=(ja SM.out 0).trans rfl;have KD:=(ja SM.out 1).trans rfl;have hg2:=(ja SM.out 2).trans rfl;have dL:=(ja SM.out 3).trans rfl;have cL:=(ja SM.out 4).trans rfl;go_enter Try.func9,Try.ntmps9
  go_upto_region 1 with (fail)
  rw [← HW.out];clear HW;go_wp2_with (first|(go_at_call 25;(with_reducible refine (Yi.calls k xb qb Ma La Na Ka Qb Kb Ea 1048576 s W1 (Kd.Ib en.out wu.out) S4.out (Kd.Ib zZ.out wu.out) R4.out HSZ.out).mono ?_);rintro e w2 ⟨rfl,hb⟩;have zu:=aa.mk (Oa wu.out hb);have W4:=aa.mk (Xa SM.out hb);clear hb));go_ret;exact ⟨rfl,zu.out⟩
 ·rw [if_neg hneg] at h;have hnb:decide (s < 0)=false:=decide_eq_false hneg;obtain ⟨⟨g1,g2,g3,g4,g5⟩,tG,h⟩:=Option.bind_eq_some_iff.mp h;obtain ⟨x,tX,h⟩:=Option.bind_eq_some_iff.mp h;obtain ⟨y,tY,h⟩:=Option.bind_eq_some_iff.mp h;obtain ⟨e1,tE,h⟩:=Option.bind_eq_some_iff.mp h;obtain rfl:e1=true:=by cases e1 with|false=>simp at h|true=>rfl
  rw [if_pos rfl] at h;obtain ⟨e2,tF,h⟩:=Option.bind_eq_some_iff.mp h;obtain rfl:e2=true:=by cases e2 with|false=>simp at h|true=>rfl
  rw [if_pos rfl] at h;obtain ⟨⟨M1,M2,M3⟩,tM,h⟩:=Option.bind_eq_some_iff.mp h;have hM:¬ M1 < 0:=fun hm=>by rw [if_pos hm] at h;cases h
  rw [if_neg hM] at h;obtain ⟨⟨m1,m2⟩,tm,h⟩:=Option.bind_eq_some_iff.mp h;obtain ⟨q,tq,h⟩:=Option.bind_eq_some_iff.mp h;have hq:¬ q < 0:=fun hm=>by rw [if_pos hm] at h;cases h
  rw [if_neg hq] at h;have hqm:q=m1:=Decidable.byContradiction fun hm=>by rw [if_neg hm] at h;cases h
  rw [if_pos hqm] at h;obtain rfl:=Option.some.inj h;subst hqm;have hMb:decide (M1 < 0)=false:=decide_eq_false hM;have hqb:decide (q < 0)=false:=decide_eq_false hq;have TG:=aa.mk tG;have TX:=aa.mk tX;have TY:=aa.mk tY;have TE:=aa.mk tE;have TF:=aa.mk tF;have TM:=aa.mk tM;have Tm:=aa.mk tm;have Tq:=aa.mk tq;clear tG tX tY tE tF tM tm tq hM hq hneg h;have WQ:=(ja SM.out 0).trans rfl;have KD:=(ja SM.out 1).trans rfl;have hg2:=(ja SM.out 2).trans rfl;have dL:=(ja SM.out 3).trans rfl;have cL:=(ja SM.out 4).trans rfl;go_enter Try.func9,Try.ntmps9
  go_upto_region 1 with (fail)
  rw [← HW.out];clear HW
  go_upto_region 5 with (first|(go_at_call 25;(with_reducible refine (Yi.calls k xb qb Ma La Na Ka Qb Kb Ea 1048576 s W1 (Kd.Ib en.out wu.out) S4.out (Kd.Ib zZ.out wu.out) R4.out HSZ.out).mono ?_);rintro e w2 ⟨rfl,hb⟩;have zu:=aa.mk (Oa wu.out hb);have W4:=aa.mk (Xa SM.out hb);clear hb wu SM WQ KD hg2 dL cL))
  have WQ:=(ja W4.out 0).trans rfl;have KD:=(ja W4.out 1).trans rfl;have hg2:=(ja W4.out 2).trans rfl;have dL:=(ja W4.out 3).trans rfl;have cL:=(ja W4.out 4).trans rfl
  go_upto_region 6 with (first|(go_at_call 27;(with_reducible refine (nh.calls k xb qb Ma La Na Ka Qb Kb Ea g1 g2 g3 g4 g5 w2 (Kd.Ib en.out zu.out) S4.out (Kd.Ib zZ.out zu.out) R4.out TG.out).mono ?_);rintro e w3 ⟨v0,v4,rfl,Bg,XD,hb⟩;obtain ⟨B0,d0,rfl⟩:=Kd.xd Bg;obtain ⟨B4,d4,rfl⟩:=Kd.Kj XD;have XU:=aa.mk Bg;have WU:=aa.mk XD;have UE:=aa.mk (Oa zu.out hb);have HG3:=aa.mk (Xa W4.out hb);have z23:=hb.size;clear Bg XD hb zu W4 WQ KD hg2 dL cL)|(go_at_call 40;(with_reducible refine (Cc.calls k B0 d0 g1 g2 g3 g4 B4 d4 g5 x w3 (Kd.Rb XU.out).2.2 (Kd.Rb XU.out).2.1 (Kd.Xc WU.out).2.2 (Kd.Xc WU.out).2.1 TX.out).mono ?_);rintro e w4 ⟨vx,rfl,ho,hb⟩;have HOW:=aa.mk (tL ho UE.out.size);have iL:=aa.mk (Oa UE.out hb);have bV:=aa.mk (Xa HG3.out hb);have z34:=hb.size;obtain ⟨D0,f0,rfl⟩:=Kd.Kj ho;clear ho hb XU WU UE HG3))
  have hzw:=qd bV.out;have WQ:=(ja bV.out 0).trans rfl;have KD:=(ja bV.out 1).trans rfl;have hg2:=(ja bV.out 2).trans rfl;have dL:=(ja bV.out 3).trans rfl;have cL:=(ja bV.out 4).trans rfl
  go_upto_region 7 with (first|(go_at_call 27;(with_reducible refine (nh.calls k xb qb Ma La Na Ka Qb Kb Ea g1 g2 g3 g4 g5 w4 (Kd.Ib en.out iL.out) S4.out (Kd.Ib zZ.out iL.out) R4.out TG.out).mono ?_);rintro e w5 ⟨v0,v4,rfl,Bg,XD,hb⟩;obtain ⟨B0,d0,rfl⟩:=Kd.xd Bg;obtain ⟨B4,d4,rfl⟩:=Kd.Kj XD;have HX0:=aa.mk (M5 Bg iL.out.size);have HX4:=aa.mk (tL XD iL.out.size);have Z4:=aa.mk (Oa iL.out hb);have V4:=aa.mk (Xa bV.out hb);have iag:=aa.mk (Kd.Wd HOW.out hb);have z45:=hb.size;clear Bg XD hb iL bV HOW WQ KD hg2 dL cL))
  have hz6:(w5.alloc (.cells #[.slice B0 g1.length d0,.int .i64 g2,.int .i64 g3,.int .i64 g4,.slice B4 g5.length d4] 45 (0,0))).heap.size=w5.heap.size + 1:=by simp
  have U7:=oa (Below.refl w5.heap.size w5) (.cells #[.slice B0 g1.length d0,.int .i64 g2,.int .i64 g3,.int .i64 g4,.slice B4 g5.length d4] 45 (0,0));have pF:=sr w5 (.cells #[.slice B0 g1.length d0,.int .i64 g2,.int .i64 g3,.int .i64 g4,.slice B4 g5.length d4] 45 (0,0));generalize w5.alloc (.cells #[.slice B0 g1.length d0,.int .i64 g2,.int .i64 g3,.int .i64 g4,.slice B4 g5.length d4] 45 (0,0))=w6 at hz6 U7 pF ⊢;have HB6:=aa.mk (Oa Z4.out U7);have HG6:=aa.mk (Xa V4.out U7);have hag:=aa.mk (Kd.Wd iag.out U7);have xZ:=aa.mk (Kd.lg HX0.out U7);have vZ:=aa.mk (Kd.Wd HX4.out U7);have S9:=aa.mk pF;have Z56:=aa.mk hz6;clear hz6 U7 pF Z4 V4 iag HX0 HX4;have hx0:=(ja S9.out 0).trans rfl;have hx1:=(ja S9.out 1).trans rfl;have hx2:=(ja S9.out 2).trans rfl;have fB:=(ja S9.out 3).trans rfl;have Pz:=(ja S9.out 4).trans rfl
  go_upto_region 8 with (first|(go_at_call 41;(with_reducible refine (yc.calls k B0 d0 g1 g2 g3 g4 B4 d4 g5 y w6 (Kd.Rb xZ.out).2.2 (Kd.Rb xZ.out).2.1 (Kd.Xc vZ.out).2.2 (Kd.Xc vZ.out).2.1 TY.out).mono ?_);rintro e w7 ⟨vy,rfl,ho,hb⟩;have HOG:=aa.mk (tL ho HB6.out.size);have HB7:=aa.mk (Oa HB6.out hb);have HG7:=aa.mk (Xa HG6.out hb);have HX7:=aa.mk (Xa S9.out hb);have DZ:=aa.mk (Kd.Wd hag.out hb);have Zaf:=aa.mk (Kd.lg xZ.out hb);have Qaf:=aa.mk (Kd.Wd vZ.out hb);have z67:=hb.size;obtain ⟨E0,q0,rfl⟩:=Kd.Kj ho;clear ho hb HB6 HG6 S9 hag xZ vZ hx0 hx1 hx2 fB Pz))
  have EZ:=HOG;clear HOG
  go_upto_region 10 with (first|(go_at_call 37;(with_reducible refine (we.calls k E0 q0 y D0 f0 x true w7 (Kd.Xc EZ.out).2.2 (Kd.Xc EZ.out).2.1 (Kd.Xc DZ.out).2.2 (Kd.Xc DZ.out).2.1 TE.out).mono ?_);rintro e w8 ⟨rfl,hb0⟩;have hb:Below _ _ _:=hb0.below;have HB8:=aa.mk (Oa HB7.out hb);have xV:=aa.mk (Xa HG7.out hb);have R9:=aa.mk (Xa HX7.out hb);have gag:=aa.mk (Kd.Wd DZ.out hb);have Yaf:=aa.mk (Kd.lg Zaf.out hb);have Paf:=aa.mk (Kd.Wd Qaf.out hb);have jag:=aa.mk (Kd.Wd EZ.out hb);have z78:=hb.size;clear hb hb0 HB7 HG7 HX7 DZ Zaf Qaf EZ))
  have HB9:=aa.mk (qa HB8.out);have U4:=aa.mk (Fa xV.out);have HX9:=aa.mk (Fa R9.out);have w_:=aa.mk (Kd.Dc gag.out);have U9:=aa.mk (Kd.jb Yaf.out);have T9:=aa.mk (Kd.Dc Paf.out);have z_:=aa.mk (Kd.Dc jag.out);have z89:w8.heap.size ≤ w8.drew.heap.size:=Nat.le_refl _;refine fl (n:=5) (S:=fun w'=>w'.cell? ⟨w5.heap.size,0,none⟩=some (.slice B0 g1.length d0)∧w'.cell? ⟨w5.heap.size,1,none⟩=some (.int .i64 g2)∧w'.cell? ⟨w5.heap.size,2,none⟩=some (.int .i64 g3)∧w'.cell? ⟨w5.heap.size,3,none⟩=some (.int .i64 g4)∧w'.cell? ⟨w5.heap.size,4,none⟩=some (.slice B4 g5.length d4)∧w'.cell? ⟨w.heap.size,0,none⟩=some (.slice xb Ma.length qb)∧w'.cell? ⟨w.heap.size,1,none⟩=some (.int .i64 La)∧w'.cell? ⟨w.heap.size,2,none⟩=some (.int .i64 Na)∧w'.cell? ⟨w.heap.size,3,none⟩=some (.int .i64 Ka)∧w'.cell? ⟨w.heap.size,4,none⟩=some (.slice Qb Ea.length Kb)) (ds:=[]) #[false,false,false,false,false] (by kernel_rfl) rfl rfl ⟨(ja R9.out 0).trans rfl,(ja R9.out 1).trans rfl,(ja R9.out 2).trans rfl,(ja R9.out 3).trans rfl,(ja R9.out 4).trans rfl,(ja xV.out 0).trans rfl,(ja xV.out 1).trans rfl,(ja xV.out 2).trans rfl,(ja xV.out 3).trans rfl,(ja xV.out 4).trans rfl⟩ (fun hHeld=>?_);generalize w8.drew=w9 at HB9 U4 HX9 w_ U9 T9 z_ z89 hHeld ⊢;refine Ih (i:=0) (N:=some 27) (v:=?_) (a':=?_) #[true,false,false,false,false] rfl rfl (by kernel_rfl) (fun _ _ _ h=>h) (Or.inl ⟨by rfl,?_⟩) hHeld ?_ ?_;rotate_left
  ·rintro w' ⟨s0,s1,s2,s3,s4,s5,s6,s7,s8,s9⟩;go_simp;with_reducible rfl
  rotate_left
  ·simp only [Act.put,List.setIfInBounds_toArray,List.set_cons_zero,List.set_cons_succ,Vb,Wb]
   rfl
  refine Ih (i:=1) (N:=some 28) (v:=?_) (a':=?_) #[true,true,false,false,false] rfl rfl (by kernel_rfl) (fun _ _ _ h=>h) (Or.inl ⟨by rfl,?_⟩) hHeld ?_ ?_;rotate_left
  ·rintro w' ⟨s0,s1,s2,s3,s4,s5,s6,s7,s8,s9⟩;go_simp;with_reducible rfl
  rotate_left
  ·simp only [Act.put,List.setIfInBounds_toArray,List.set_cons_zero,List.set_cons_succ,Vb,Wb]
   rfl
  refine Ko (i:=2) (N:=some 29) #[true,true,true,false,false] rfl rfl (by kernel_rfl) (by decide) (fun K hK=>?_);refine ju Try.func27 (by kernel_rfl) rfl #[.agg #[.slice xb Ma.length qb,.int .i64 La,.int .i64 Na,.int .i64 Ka,.slice Qb Ea.length Kb]] (by rfl) rfl rfl (by simp only [List.map_toArray,List.map_cons,List.map_nil];rfl) ?_;with_reducible refine (nh.calls k xb qb Ma La Na Ka Qb Kb Ea g1 g2 g3 g4 g5 w9 (Kd.Ib en.out HB9.out) S4.out (Kd.Ib zZ.out HB9.out) R4.out TG.out).mono ?_
  rintro e Nq ⟨v0,v4,rfl,Bg,XD,hb⟩;refine ⟨_,rfl,?_⟩;have Qag:=aa.mk (Oa HB9.out hb);have xA:=aa.mk (Xa U4.out hb);have MM:=aa.mk (Xa HX9.out hb);have G4:=aa.mk (Kd.Wd w_.out hb);have YP:=aa.mk (Kd.lg U9.out hb);have XP:=aa.mk (Kd.Wd T9.out hb);have O4:=aa.mk (Kd.Wd z_.out hb);have fay:=hb.size;obtain ⟨F0,i0,rfl⟩:=Kd.xd Bg;obtain ⟨F4,i4,rfl⟩:=Kd.Kj XD;have XU:=aa.mk Bg;have WU:=aa.mk XD;clear Bg XD hb HB9 U4 HX9 w_ U9 T9 z_;refine hK.out _ _ ⟨(ja MM.out 0).trans rfl,(ja MM.out 1).trans rfl,(ja MM.out 2).trans rfl,(ja MM.out 3).trans rfl,(ja MM.out 4).trans rfl,(ja xA.out 0).trans rfl,(ja xA.out 1).trans rfl,(ja xA.out 2).trans rfl,(ja xA.out 3).trans rfl,(ja xA.out 4).trans rfl⟩ (fun hHeld=>?_);clear hK K;refine Rg (a':=?_) ?_ ?_;rotate_left
  ·show Act.put _ (some 29) _=_
   simp only [Act.put,List.setIfInBounds_toArray,List.set_cons_zero,List.set_cons_succ,Vb,Wb]
   rfl
  refine Ko (i:=3) (N:=some 30) #[true,true,true,true,false] rfl rfl (by kernel_rfl) (by decide) (fun K hK=>?_);refine ju Try.func29 (by kernel_rfl) rfl #[.agg #[.slice B0 g1.length d0,.int .i64 g2,.int .i64 g3,.int .i64 g4,.slice B4 g5.length d4],.agg #[.slice F0 g1.length i0,.int .i64 g2,.int .i64 g3,.int .i64 g4,.slice F4 g5.length i4]] (by rfl) rfl rfl (by simp only [List.map_toArray,List.map_cons,List.map_nil];rfl) ?_;with_reducible refine (Cj.calls k B0 d0 g1 g2 g3 g4 B4 d4 g5 F0 i0 g1 g2 g3 g4 F4 i4 g5 true Nq (Kd.Rb YP.out).2.2 (Kd.Rb YP.out).2.1 (Kd.Xc XP.out).2.2 (Kd.Xc XP.out).2.1 (Kd.Rb XU.out).2.2 (Kd.Rb XU.out).2.1 (Kd.Xc WU.out).2.2 (Kd.Xc WU.out).2.1 TF.out).mono ?_
  rintro e Vj ⟨rfl,hb⟩;refine ⟨_,rfl,?_⟩;have Pag:=aa.mk (Oa Qag.out hb);have RM:=aa.mk (Xa xA.out hb);have DD:=aa.mk (Xa MM.out hb);have E4:=aa.mk (Kd.Wd G4.out hb);have X3:=aa.mk (Kd.lg YP.out hb);have V3:=aa.mk (Kd.Wd XP.out hb);have N4:=aa.mk (Kd.Wd O4.out hb);have yat:=hb.size;clear hb XU WU Qag xA MM G4 YP XP O4;refine hK.out _ _ ⟨(ja DD.out 0).trans rfl,(ja DD.out 1).trans rfl,(ja DD.out 2).trans rfl,(ja DD.out 3).trans rfl,(ja DD.out 4).trans rfl,(ja RM.out 0).trans rfl,(ja RM.out 1).trans rfl,(ja RM.out 2).trans rfl,(ja RM.out 3).trans rfl,(ja RM.out 4).trans rfl⟩ (fun hHeld=>?_);clear hK K;refine Rg (a':=?_) ?_ ?_;rotate_left
  ·show Act.put _ (some 30) _=_
   simp only [Act.put,List.setIfInBounds_toArray,List.set_cons_zero,List.set_cons_succ,Vb,Wb]
   rfl
  refine od (i:=4) (N:=some 31) (v:=?_) (a':=?_) #[true,true,true,true,true] rfl rfl (by kernel_rfl) (fun _ _ _ h=>h) (Or.inl ⟨by rfl,?_⟩) ?_ ?_;rotate_left
  ·intro w';go_simp;with_reducible rfl
  rotate_left
  ·simp only [Act.put,List.setIfInBounds_toArray,List.set_cons_zero,List.set_cons_succ,Vb,Wb]
   rfl
  refine Mp (by kernel_rfl) ?_;clear HB8 xV R9 gag Yaf Paf jag;have hx0:=(ja DD.out 0).trans rfl;have hx1:=(ja DD.out 1).trans rfl;have hx2:=(ja DD.out 2).trans rfl;have fB:=(ja DD.out 3).trans rfl;have Pz:=(ja DD.out 4).trans rfl
  go_upto_region 14 with (first|(go_at_call 32;(with_reducible refine (xh.calls k _ _ g1 g2 g3 g4 _ _ g5 1 M1 M2 M3 w Vj Pag.out X3.out V3.out TM.out).mono ?_);rintro e DA ⟨rfl,_,_,hb,hk⟩;have eV:=aa.mk hb;have GZ:=aa.mk (Kept.mono hk (fun k_ wg=>(Or.elim wg id id:w4.heap.size ≤ k_∧k_ < w5.heap.size)));have xat:=hk.1;clear hb hk hx0 hx1 hx2 fB Pz))
  have Iag:=aa.mk (Og RM.out GZ.out (by omega));have cQ:=aa.mk (Kd.rA E4.out GZ.out (by intro k_ h1 h2;omega));have dQ:=aa.mk (Kd.rA N4.out GZ.out (by have:=Z56.out;intro k_ h1 h2;omega));clear RM E4 N4 DD X3 V3 Pag GZ
  go_upto_region 17 with (first|(go_at_call 37;(with_reducible refine (we.calls k E0 q0 y D0 f0 x true DA (Kd.Xc dQ.out).2.2 (Kd.Xc dQ.out).2.1 (Kd.Xc cQ.out).2.2 (Kd.Xc cQ.out).2.1 TE.out).mono ?_);rintro e KI ⟨rfl,hb0⟩;have hb:Below _ _ _:=hb0.below;have Oag:=aa.mk (Oa eV.out hb);have Hag:=aa.mk (Xa Iag.out hb);have D4:=aa.mk (Kd.Wd cQ.out hb);have M4:=aa.mk (Kd.Wd dQ.out hb);have wat:=hb.size;clear hb hb0 eV Iag cQ dQ))
  go_upto_region 19 with (first|(go_at_call 38;(with_reducible refine (Vf.calls k _ _ y 1 q m2 w KI Oag.out M4.out Tm.out).mono ?_);rintro e cB ⟨rfl,ho,hb,hk⟩;have Nag:=aa.mk hb;have B_:=aa.mk hk;have PK:=aa.mk ho;have vat:=hk.1;clear hb hk ho))
  have Gag:=aa.mk (Og Hag.out B_.out (by have:=Z56.out;omega));have C4:=aa.mk (Kd.rA D4.out B_.out (by have:=Z56.out;intro k_ h1 h2;omega));have hlm:m2.length=y.length:=(Kd.Xc PK.out).1.symm;have HLM:=aa.mk hlm;clear Hag D4 M4 Oag B_ hlm
  go_upto_region 24 with (first|(go_at_call 39;(with_reducible refine (Bw k E0 q0 y.length m2 1 q cB HLM.out (Kd.Xc PK.out).2.2 (Kd.Xc PK.out).2.1 Tq.out).mono ?_);rintro e Fs ⟨rfl,hb0⟩;have hb:Below _ _ _:=hb0.below;have VK:=aa.mk (Oa Nag.out hb);have jE:=aa.mk (Xa Gag.out hb);have o4:=aa.mk (Kd.Wd C4.out hb);have L4:=aa.mk (Kd.Wd PK.out hb);have uat:=hb.size;clear hb hb0 Nag Gag C4 PK))
  have WQ:=(ja jE.out 0).trans rfl;have KD:=(ja jE.out 1).trans rfl;have hg2:=(ja jE.out 2).trans rfl;have dL:=(ja jE.out 3).trans rfl;have cL:=(ja jE.out 4).trans rfl
  go_upto_region 25 with (first|(go_at_call 27;(with_reducible refine (nh.calls k xb qb Ma La Na Ka Qb Kb Ea g1 g2 g3 g4 g5 Fs (Kd.Ib en.out VK.out) S4.out (Kd.Ib zZ.out VK.out) R4.out TG.out).mono ?_);rintro e qE ⟨v0,v4,rfl,Bg,XD,hb⟩;obtain ⟨F0,i0,rfl⟩:=Kd.xd Bg;obtain ⟨F4,i4,rfl⟩:=Kd.Kj XD;have XU:=aa.mk Bg;have WU:=aa.mk XD;have Mag:=aa.mk (Oa VK.out hb);have Fag:=aa.mk (Xa jE.out hb);have j4:=aa.mk (Kd.Wd o4.out hb);have K4:=aa.mk (Kd.Wd L4.out hb);have tat:=hb.size;clear Bg XD hb VK jE o4 L4 WQ KD hg2 dL cL)|(go_at_call 41;(with_reducible refine (yc.calls k F0 i0 g1 g2 g3 g4 F4 i4 g5 y qE (Kd.Rb XU.out).2.2 (Kd.Rb XU.out).2.1 (Kd.Xc WU.out).2.2 (Kd.Xc WU.out).2.1 TY.out).mono ?_);rintro e kn ⟨vz,rfl,ho,hb⟩;have YU:=aa.mk ho;have Lag:=aa.mk (Oa Mag.out hb);have Eag:=aa.mk (Xa Fag.out hb);have bQ:=aa.mk (Kd.Wd j4.out hb);have J4:=aa.mk (Kd.Wd K4.out hb);have qat:=hb.size;obtain ⟨J0,j0,rfl⟩:=Kd.Kj ho;clear ho hb XU WU Mag Fag j4 K4))
  go_upto_region 28 with (first|(go_at_call 37;(with_reducible refine (we.calls k J0 j0 y D0 f0 x true kn (Kd.Xc YU.out).2.2 (Kd.Xc YU.out).2.1 (Kd.Xc bQ.out).2.2 (Kd.Xc bQ.out).2.1 TE.out).mono ?_);rintro e ZK ⟨rfl,hb0⟩;have hb:Below _ _ _:=hb0.below;have UK:=aa.mk (Oa Lag.out hb);have kaA:=aa.mk (Xa Eag.out hb);have Bax:=aa.mk (Kd.Wd bQ.out hb);have I4:=aa.mk (Kd.Wd J4.out hb);have oat:=hb.size;clear hb hb0 Lag Eag bQ J4 YU))
  go_wp2_with (first|(go_at_call 39;(with_reducible refine (Bw k E0 q0 y.length m2 1 q ZK HLM.out (Kd.Xc I4.out).2.2 (Kd.Xc I4.out).2.1 Tq.out).mono ?_);rintro e Rz ⟨rfl,hb0⟩;have hb:Below _ _ _:=hb0.below;have Xas:=aa.mk (Oa UK.out hb);clear hb hb0));go_ret;exact ⟨rfl,Xas.out⟩
def zj (l:List (List Int)):Nat:=(l.map fun x=>x.length).sum
theorem bt (x:List Int) (l:List (List Int)):zj (x :: l)=x.length + zj l:=by simp [zj]
theorem jM (l:List (List Int)) (hl:l.length ≤ 9223372036854775807) (hx:∀ x ∈ l,x.length ≤ 9223372036854775807):Ev (fun k=>we.f k l l) true:=by
 refine Ev.congr (f:=fun k=>we.l0 k l l 0) (fun k=>?_) ?_
 ·unfold we.f;rw [if_pos rfl]
 ·refine dh (r:=true) (n:=l.length) (fun i=>Ev (fun k=>we.l0 k l l (i:Int)) true) ?_ ?_ 0 (by omega)
  ·refine Ev.step (fun k=>by rw [we.l0]) ?_;exact Ev.neg (by omega) (Ev.now _)
  ·intro i hi h;have hr:Je l (i:Int)=l[i]:=by simp [Je,List.getD_eq_getElem?_getD,hi]
   refine Ev.step (fun k=>by rw [we.l0]) ?_;refine Ev.pos (by omega) (Ev.pos (by omega) (Ev.pos (by omega) ?_));rw [hr,Be hi hl];exact Ev.bind (IE l[i] (hx _ (List.getElem_mem hi))) (Ev.pos rfl h)
theorem TH (l:List (List Int)):∀ (m:Int),0 ≤ m→m + zj l ≤ 4611686018427387904→∃ ms:List (List Int),Ev (fun k=>Vf.f k l m) (m + zj l,ms)∧ms.length=l.length∧∀ (pre:List (List Int)),pre.length + l.length ≤ 1048576→Ev (fun k=>je.l0 k (pre ++ ms) m (pre.length:Int)) (m + zj l):=by
 induction l with
 | nil =>
  intro m hm hl;refine ⟨[],?_,rfl,fun pre _=>?_⟩
  ·unfold Vf.f;simp only [zj,List.map_nil,List.sum_nil,Int.natCast_zero,Int.add_zero];exact Ev.now _
  ·refine Ev.step (fun k=>by rw [je.l0]) ?_;simp only [zj,List.map_nil,List.sum_nil,Int.natCast_zero,Int.add_zero];exact Ev.neg (by simp) (Ev.now _)
 | cons x l ih =>
  intro m hm hl;rw [bt] at hl;obtain ⟨ms,m1,m2,m3⟩:=ih (m + (x.length:Int)) (by omega) (by omega);have hv:m + ((x.length + zj l:Nat):Int)=m + (x.length:Int) + zj l:=by omega
  rw [bt,hv];refine ⟨iota m x.length :: ms,?_,by simp [m2],fun pre hp=>?_⟩
  ·unfold Vf.f;exact Ev.bind (JA x m hm (by omega)) (Ev.bind m1 (Ev.now _))
  ·have hr:Je (pre ++ iota m x.length :: ms) (pre.length:Int)=iota m x.length:=by
    simp [Je,List.getD_eq_getElem?_getD]
   rw [List.length_cons] at hp;have hn:=m3 (pre ++ [iota m x.length]) (by rw [List.length_append,List.length_singleton];omega);have hl2:pre.length < (pre ++ iota m x.length :: ms).length:=by simp
   rw [List.append_assoc,List.singleton_append,List.length_append] at hn;generalize (pre ++ iota m x.length :: ms)=ys at hn hr hl2 ⊢;refine Ev.step (fun k=>by rw [je.l0]) ?_;refine Ev.pos (by omega) (Ev.pos (by omega) ?_);rw [hr];refine Ev.bind (cK m x.length hm (by omega)) (Ev.neg (by omega) ?_);rw [Pg (x:=(pre.length:Int) + 1) (by omega) (by omega)];exact hn
theorem YJ (l:List (List Int)) (hl:l.length ≤ 1048576) (hs:zj l ≤ 4398046511104):∃ ms:List (List Int),Ev (fun k=>Vf.f k l 1) (1 + zj l,ms)∧Ev (fun k=>je.f k ms 1) (1 + zj l):=by
 obtain ⟨ms,m1,_,m3⟩:=TH l 1 (by omega) (by omega);refine ⟨ms,m1,?_⟩;unfold je.f;have h:=m3 [] (by simpa using hl)
 simpa using h
theorem yC {n:Nat}:∀ (l:List (List Int)),(∀ x ∈ l,x.length ≤ n)→zj l ≤ 1 * n * l.length
 | [],_=>by simp [zj]
 | x :: l,h=>by
  have h1:=h x (by simp);have h2:=yC l (fun y hy=>h y (by simp [hy]));rw [bt,List.length_cons,Nat.mul_succ];have h3:1 * x.length ≤ 1 * n:=Nat.mul_le_mul_left _ h1;omega
theorem zA (x:X_) (hf:aU x):∃ k,gh.f k x.f0 x.f1 x.f2 x.f3 x.f4=some true:=by
 obtain ⟨t,e1,e2⟩:=cM x hf;refine Ev.rounds (g:=fun k=>gh.f k x.f0 x.f1 x.f2 x.f3 x.f4) ?_;unfold gh.f;refine Ev.bind e1 ?_
 by_cases ht:t < 0
 ·exact Ev.pos ht (Ev.now _)
 refine Ev.neg ht ?_;obtain ⟨h0,hl,hst,hT,hq,⟨M1,M2,M3⟩,hM,hM0,_⟩:=e2 ht;obtain ⟨r,r1,r2,r3,r4⟩:=WY x.f0 x.f1 x.f2 x.f3 (x.f4.map Qg) h0 hl hst;have hE:=jM r (by omega) (fun y hy=>by have:=r4 y hy;omega);have hs:=yC r r4;obtain ⟨ms,hm,hh⟩:=YJ r (by omega) (by omega);refine Ev.bind hT (Ev.bind r1 (Ev.bind r2 (Ev.bind hE (Ev.pos rfl (Ev.bind hq (Ev.pos rfl (Ev.bind hM (Ev.neg (by simp only at hM0 ⊢;omega) (Ev.bind hm (Ev.bind hh (Ev.neg (by omega) (Ev.pos rfl (Ev.now _)))))))))))))
end Go.Proofs.Ytoomcmaifgkkfaa.P
end
