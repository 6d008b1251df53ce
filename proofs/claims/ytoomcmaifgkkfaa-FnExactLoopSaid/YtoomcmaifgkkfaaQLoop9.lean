import Derived.Shelf.Abstract
import Derived.Outline
import Derived.RegionTactic
import Derived.Deep.QuietTactic
import Derived.BigQuiet
import Derived.Test.YtoomcmaifgkkfaaQLoop1
import Derived.Test.YtoomcmaifgkkfaaQLoop3
import Derived.Test.YtoomcmaifgkkfaaQLoop8
import Derived.Test.YtoomcmaifgkkfaaQLoop2
import Derived.Test.YtoomcmaifgkkfaaQLoop7
set_option maxHeartbeats 4000000
set_option maxRecDepth 100000
section
namespace Go.Proofs.Ytoomcmaifgkkfaa.P
open Go.RowKit Go.Proofs.Aa.Db Go.Proofs.Aa.Tc Go.Proofs.Aa.ke
set_option linter.unusedVariables false
set_option linter.unusedSimpArgs false
noncomputable def Yf.f (k:Nat) (Ma:List Int) (Oa:Int) (Pa:Int) (Na:Int) (oa:List nj) (a1:Int) (a2:Int):Option Bool :=
 (jh.f k Ma Oa Pa Na oa 1048576).bind fun s=>if s < 0 then some true else
 (cg.f k Ma Oa Pa Na oa).bind fun G =>
 (Ei.f k G.1 G.2.1 G.2.2.1 G.2.2.2.1 G.2.2.2.2 a1 a2).bind fun x =>
 (Wh.f k G.1 G.2.1 G.2.2.1 G.2.2.2.1 G.2.2.2.2 a1 a2).bind fun y =>
 (Ud.f k y x).bind fun e1=>if e1=true then
 (mh.f k G.1 G.2.1 G.2.2.1 G.2.2.2.1 G.2.2.2.2 G.1 G.2.1 G.2.2.1 G.2.2.2.1 G.2.2.2.2).bind fun e2=>if e2=true then
 (dg.f k G.1 G.2.1 G.2.2.1 G.2.2.2.1 G.2.2.2.2 1).bind fun M=>if M.1 < 0 then none else
 (jd.f k y 1).bind fun m=>(Jd.f k m.2 1).bind fun q=>if q < 0 then none else if q=m.1 then some true else none
 else none else none
theorem Yf.calls (k:Nat) (zb:Option Addr) (yb:Nat) (Ma:List Int) (Oa:Int) (Pa:Int) (Na:Int) (Ob:Option Addr) (Fb:Nat) (oa:List nj) (a1:Int) (a2:Int) (r:Bool) (w:World) (qd:Kd.C (Kd.int .i64) w zb Ma.length Ma) (Ad:Ma.length ≤ yb) (fe:Kd.C qw w Ob oa.length oa) (Fe:oa.length ≤ Fb) (h:Yf.f k Ma Oa Pa Na oa a1 a2=some r) :
  Calls Try.prog 11 #[.agg #[.slice zb Ma.length yb,.int .i64 Oa,.int .i64 Pa,.int .i64 Na,.slice Ob oa.length Fb],.int .i64 a1,.int .i64 a2] w fun e w'=>e = .returned (.bool r)∧Below w.heap.size w w':=by
 unfold Yf.f at h;obtain ⟨s,hs,h⟩:=Option.bind_eq_some_iff.mp h;have N4:=aa.mk hs;have ak:=aa.mk qd;have vv:=aa.mk fe;have Hx:=aa.mk Ad;have Gx:=aa.mk Fe;obtain ⟨W1,tf⟩:∃ W1,W1=w.alloc (.cells #[.slice zb Ma.length yb,.int .i64 Oa,.int .i64 Pa,.int .i64 Na,.slice Ob oa.length Fb] 40 (0,0)):=⟨_,rfl⟩;have HW:=aa.mk tf;have Vo:=aa.mk (show Below w.heap.size w W1 by rw [tf];exact ia (Below.refl _ _) _);have fE:=aa.mk (show W1.heap[w.heap.size]? = some (.cells #[.slice zb Ma.length yb,.int .i64 Oa,.int .i64 Pa,.int .i64 Na,.slice Ob oa.length Fb] 40 (0,0)) by rw [tf];exact ij _ _);clear hs qd fe Ad Fe tf
 by_cases hneg:s < 0
 ·rw [if_pos hneg] at h;obtain rfl:=Option.some.inj h;have hnb:decide (s < 0)=true:=decide_eq_true hneg;clear h hneg;have eH:=(ya fE.out 0).trans rfl;have Xw:=(ya fE.out 1).trans rfl;have hg2:=(ya fE.out 2).trans rfl;have CC:=(ya fE.out 3).trans rfl;have BC:=(ya fE.out 4).trans rfl;go_enter Try.func11,Try.ntmps11
  go_upto_region 1 with (fail)
  rw [← HW.out];clear HW;go_wp2_with (first|(go_at_call 25;(with_reducible refine (jh.calls k zb yb Ma Oa Pa Na Ob Fb oa 1048576 s W1 (Kd.Za ak.out Vo.out) Hx.out (Kd.Za vv.out Vo.out) Gx.out N4.out).mono ?_);rintro e w2 ⟨rfl,hb⟩;have Li:=aa.mk (Ga Vo.out hb);have oQ:=aa.mk (Ta fE.out hb);clear hb));go_ret;exact ⟨rfl,Li.out⟩
 ·rw [if_neg hneg] at h;have hnb:decide (s < 0)=false:=decide_eq_false hneg;obtain ⟨⟨g1,g2,g3,g4,g5⟩,tG,h⟩:=Option.bind_eq_some_iff.mp h;obtain ⟨x,tX,h⟩:=Option.bind_eq_some_iff.mp h;obtain ⟨y,tY,h⟩:=Option.bind_eq_some_iff.mp h;obtain ⟨e1,tE,h⟩:=Option.bind_eq_some_iff.mp h;obtain rfl:e1=true:=by cases e1 with|false=>simp at h|true=>rfl
  rw [if_pos rfl] at h;obtain ⟨e2,tF,h⟩:=Option.bind_eq_some_iff.mp h;obtain rfl:e2=true:=by cases e2 with|false=>simp at h|true=>rfl
  rw [if_pos rfl] at h;obtain ⟨⟨M1,M2,M3⟩,tM,h⟩:=Option.bind_eq_some_iff.mp h;have hM:¬ M1 < 0:=fun hm=>by rw [if_pos hm] at h;cases h
  rw [if_neg hM] at h;obtain ⟨⟨m1,m2⟩,tm,h⟩:=Option.bind_eq_some_iff.mp h;obtain ⟨q,tq,h⟩:=Option.bind_eq_some_iff.mp h;have hq:¬ q < 0:=fun hm=>by rw [if_pos hm] at h;cases h
  rw [if_neg hq] at h;have hqm:q=m1:=Decidable.byContradiction fun hm=>by rw [if_neg hm] at h;cases h
  rw [if_pos hqm] at h;obtain rfl:=Option.some.inj h;subst hqm;have hMb:decide (M1 < 0)=false:=decide_eq_false hM;have hqb:decide (q < 0)=false:=decide_eq_false hq;have TG:=aa.mk tG;have TX:=aa.mk tX;have TY:=aa.mk tY;have TE:=aa.mk tE;have TF:=aa.mk tF;have TM:=aa.mk tM;have Tm:=aa.mk tm;have Tq:=aa.mk tq;clear tG tX tY tE tF tM tm tq hM hq hneg h;have eH:=(ya fE.out 0).trans rfl;have Xw:=(ya fE.out 1).trans rfl;have hg2:=(ya fE.out 2).trans rfl;have CC:=(ya fE.out 3).trans rfl;have BC:=(ya fE.out 4).trans rfl;go_enter Try.func11,Try.ntmps11
  go_upto_region 1 with (fail)
  rw [← HW.out];clear HW
  go_upto_region 5 with (first|(go_at_call 25;(with_reducible refine (jh.calls k zb yb Ma Oa Pa Na Ob Fb oa 1048576 s W1 (Kd.Za ak.out Vo.out) Hx.out (Kd.Za vv.out Vo.out) Gx.out N4.out).mono ?_);rintro e w2 ⟨rfl,hb⟩;have Li:=aa.mk (Ga Vo.out hb);have oQ:=aa.mk (Ta fE.out hb);clear hb Vo fE eH Xw hg2 CC BC))
  have eH:=(ya oQ.out 0).trans rfl;have Xw:=(ya oQ.out 1).trans rfl;have hg2:=(ya oQ.out 2).trans rfl;have CC:=(ya oQ.out 3).trans rfl;have BC:=(ya oQ.out 4).trans rfl
  go_upto_region 6 with (first|(go_at_call 27;(with_reducible refine (cg.calls k zb yb Ma Oa Pa Na Ob Fb oa g1 g2 g3 g4 g5 w2 (Kd.Za ak.out Li.out) Hx.out (Kd.Za vv.out Li.out) Gx.out TG.out).mono ?_);rintro e w3 ⟨v0,v4,rfl,Rg,sx,hb⟩;obtain ⟨B0,d0,rfl⟩:=Kd.Vb Rg;obtain ⟨B4,d4,rfl⟩:=Kd.Jq sx;have QK:=aa.mk Rg;have PK:=aa.mk sx;have vo:=aa.mk (Ga Li.out hb);have HG3:=aa.mk (Ta oQ.out hb);have z23:=hb.size;clear Rg sx hb Li oQ eH Xw hg2 CC BC)|(go_at_call 47;(with_reducible refine (Ei.calls k B0 d0 g1 g2 g3 g4 B4 d4 g5 a1 a2 x w3 (Kd.Ua QK.out).2.2 (Kd.Ua QK.out).2.1 (Kd.Uh PK.out).2.2 (Kd.Uh PK.out).2.1 TX.out).mono ?_);rintro e w4 ⟨vx,rfl,ho,hb⟩;have HOW:=aa.mk (KC ho vo.out.size);have Mq:=aa.mk (Ga vo.out hb);have WK:=aa.mk (Ta HG3.out hb);have z34:=hb.size;obtain ⟨D0,f0,rfl⟩:=Kd.Vb ho;clear ho hb QK PK vo HG3))
  have hzw:=Te WK.out;have eH:=(ya WK.out 0).trans rfl;have Xw:=(ya WK.out 1).trans rfl;have hg2:=(ya WK.out 2).trans rfl;have CC:=(ya WK.out 3).trans rfl;have BC:=(ya WK.out 4).trans rfl
  go_upto_region 7 with (first|(go_at_call 27;(with_reducible refine (cg.calls k zb yb Ma Oa Pa Na Ob Fb oa g1 g2 g3 g4 g5 w4 (Kd.Za ak.out Mq.out) Hx.out (Kd.Za vv.out Mq.out) Gx.out TG.out).mono ?_);rintro e w5 ⟨v0,v4,rfl,Rg,sx,hb⟩;obtain ⟨B0,d0,rfl⟩:=Kd.Vb Rg;obtain ⟨B4,d4,rfl⟩:=Kd.Jq sx;have HX0:=aa.mk (KC Rg Mq.out.size);have HX4:=aa.mk (CQ sx Mq.out.size);have iE:=aa.mk (Ga Mq.out hb);have nQ:=aa.mk (Ta WK.out hb);have iY:=aa.mk (Kd.ec HOW.out hb);have z45:=hb.size;clear Rg sx hb Mq WK HOW eH Xw hg2 CC BC))
  have Q6:(w5.alloc (.cells #[.slice B0 g1.length d0,.int .i64 g2,.int .i64 g3,.int .i64 g4,.slice B4 g5.length d4] 45 (0,0))).heap.size=w5.heap.size + 1:=by simp
  have ES:=ia (Below.refl w5.heap.size w5) (.cells #[.slice B0 g1.length d0,.int .i64 g2,.int .i64 g3,.int .i64 g4,.slice B4 g5.length d4] 45 (0,0));have Ky:=ij w5 (.cells #[.slice B0 g1.length d0,.int .i64 g2,.int .i64 g3,.int .i64 g4,.slice B4 g5.length d4] 45 (0,0));generalize w5.alloc (.cells #[.slice B0 g1.length d0,.int .i64 g2,.int .i64 g3,.int .i64 g4,.slice B4 g5.length d4] 45 (0,0))=w6 at Q6 ES Ky ⊢;have UY:=aa.mk (Ga iE.out ES);have JY:=aa.mk (Ta nQ.out ES);have gY:=aa.mk (Kd.ec iY.out ES);have MN:=aa.mk (Kd.ec HX0.out ES);have KN:=aa.mk (Kd.ki HX4.out ES);have MP:=aa.mk Ky;have J_:=aa.mk Q6;clear Q6 ES Ky iE nQ iY HX0 HX4;have hx0:=(ya MP.out 0).trans rfl;have hx1:=(ya MP.out 1).trans rfl;have hx2:=(ya MP.out 2).trans rfl;have ov:=(ya MP.out 3).trans rfl;have Tt:=(ya MP.out 4).trans rfl
  go_upto_region 8 with (first|(go_at_call 48;(with_reducible refine (Wh.calls k B0 d0 g1 g2 g3 g4 B4 d4 g5 a1 a2 y w6 (Kd.Ua MN.out).2.2 (Kd.Ua MN.out).2.1 (Kd.Uh KN.out).2.2 (Kd.Uh KN.out).2.1 TY.out).mono ?_);rintro e w7 ⟨vy,rfl,ho,hb⟩;have HOG:=aa.mk (KC ho UY.out.size);have mO:=aa.mk (Ga UY.out hb);have GY:=aa.mk (Ta JY.out hb);have HX7:=aa.mk (Ta MP.out hb);have TN:=aa.mk (Kd.ec gY.out hb);have SX:=aa.mk (Kd.ec MN.out hb);have JX:=aa.mk (Kd.ki KN.out hb);have z67:=hb.size;obtain ⟨E0,q0,rfl⟩:=Kd.Vb ho;clear ho hb UY JY MP gY MN KN hx0 hx1 hx2 ov Tt))
  have UN:=HOG;clear HOG
  go_upto_region 10 with (first|(go_at_call 17;(with_reducible refine (Ud.calls k E0 q0 y D0 f0 x true w7 (Kd.Ua UN.out).2.2 (Kd.Ua UN.out).2.1 (Kd.Ua TN.out).2.2 (Kd.Ua TN.out).2.1 TE.out).mono ?_);rintro e w8 ⟨rfl,hb0⟩;have hb:Below _ _ _:=hb0.below;have kO:=aa.mk (Ga mO.out hb);have uL:=aa.mk (Ta GY.out hb);have KT:=aa.mk (Ta HX7.out hb);have fY:=aa.mk (Kd.ec TN.out hb);have RX:=aa.mk (Kd.ec SX.out hb);have IX:=aa.mk (Kd.ki JX.out hb);have kY:=aa.mk (Kd.ec UN.out hb);have z78:=hb.size;clear hb hb0 mO GY HX7 TN SX JX UN))
  have qU:=aa.mk (ja kO.out);have mQ:=aa.mk (Fa uL.out);have R_:=aa.mk (Fa KT.out);have kU:=aa.mk (Kd.Ra fY.out);have NT:=aa.mk (Kd.Ra RX.out);have MT:=aa.mk (Kd.Cg IX.out);have lU:=aa.mk (Kd.Ra kY.out);have z89:w8.heap.size ≤ w8.drew.heap.size:=Nat.le_refl _;refine Yk (n:=5) (S:=fun w'=>w'.cell? ⟨w5.heap.size,0,none⟩=some (.slice B0 g1.length d0)∧w'.cell? ⟨w5.heap.size,1,none⟩=some (.int .i64 g2)∧w'.cell? ⟨w5.heap.size,2,none⟩=some (.int .i64 g3)∧w'.cell? ⟨w5.heap.size,3,none⟩=some (.int .i64 g4)∧w'.cell? ⟨w5.heap.size,4,none⟩=some (.slice B4 g5.length d4)∧w'.cell? ⟨w.heap.size,0,none⟩=some (.slice zb Ma.length yb)∧w'.cell? ⟨w.heap.size,1,none⟩=some (.int .i64 Oa)∧w'.cell? ⟨w.heap.size,2,none⟩=some (.int .i64 Pa)∧w'.cell? ⟨w.heap.size,3,none⟩=some (.int .i64 Na)∧w'.cell? ⟨w.heap.size,4,none⟩=some (.slice Ob oa.length Fb)) (ds:=[]) #[false,false,false,false,false] (by kernel_rfl) rfl rfl ⟨(ya KT.out 0).trans rfl,(ya KT.out 1).trans rfl,(ya KT.out 2).trans rfl,(ya KT.out 3).trans rfl,(ya KT.out 4).trans rfl,(ya uL.out 0).trans rfl,(ya uL.out 1).trans rfl,(ya uL.out 2).trans rfl,(ya uL.out 3).trans rfl,(ya uL.out 4).trans rfl⟩ (fun hHeld=>?_);generalize w8.drew=w9 at qU mQ R_ kU NT MT lU z89 hHeld ⊢;refine Ph (i:=0) (N:=some 35) (v:=?_) (a':=?_) #[true,false,false,false,false] rfl rfl (by kernel_rfl) (fun _ _ _ h=>h) (Or.inl ⟨by rfl,?_⟩) hHeld ?_ ?_;rotate_left
  ·exact iaj
  rotate_left
  ·exact daj
  refine Ph (i:=1) (N:=some 36) (v:=?_) (a':=?_) #[true,true,false,false,false] rfl rfl (by kernel_rfl) (fun _ _ _ h=>h) (Or.inl ⟨by rfl,?_⟩) hHeld ?_ ?_;rotate_left
  ·exact iaj
  rotate_left
  ·exact daj
  refine qp (i:=2) (N:=some 37) #[true,true,true,false,false] rfl rfl (by kernel_rfl) (by decide) (fun K hK=>?_);refine qt Try.func27 (by kernel_rfl) rfl #[.agg #[.slice zb Ma.length yb,.int .i64 Oa,.int .i64 Pa,.int .i64 Na,.slice Ob oa.length Fb]] (by rfl) rfl rfl aak ?_;with_reducible refine (cg.calls k zb yb Ma Oa Pa Na Ob Fb oa g1 g2 g3 g4 g5 w9 (Kd.Za ak.out qU.out) Hx.out (Kd.Za vv.out qU.out) Gx.out TG.out).mono ?_
  rintro e wv ⟨v0,v4,rfl,Rg,sx,hb⟩;refine ⟨_,rfl,?_⟩;have aZ:=aa.mk (Ga qU.out hb);have Gu:=aa.mk (Ta mQ.out hb);have YD:=aa.mk (Ta R_.out hb);have ZP:=aa.mk (Kd.ec kU.out hb);have iG:=aa.mk (Kd.ec NT.out hb);have gG:=aa.mk (Kd.ki MT.out hb);have iQ:=aa.mk (Kd.ec lU.out hb);have Qae:=hb.size;obtain ⟨F0,i0,rfl⟩:=Kd.Vb Rg;obtain ⟨F4,i4,rfl⟩:=Kd.Jq sx;have QK:=aa.mk Rg;have PK:=aa.mk sx;clear Rg sx hb qU mQ R_ kU NT MT lU;refine hK.out _ _ ⟨(ya YD.out 0).trans rfl,(ya YD.out 1).trans rfl,(ya YD.out 2).trans rfl,(ya YD.out 3).trans rfl,(ya YD.out 4).trans rfl,(ya Gu.out 0).trans rfl,(ya Gu.out 1).trans rfl,(ya Gu.out 2).trans rfl,(ya Gu.out 3).trans rfl,(ya Gu.out 4).trans rfl⟩ (fun hHeld=>?_);clear hK K;refine Nf (a':=?_) ?_ ?_;rotate_left
  ·show Act.put _ (some 37) _=_
   exact daj
  refine qp (i:=3) (N:=some 38) #[true,true,true,true,false] rfl rfl (by kernel_rfl) (by decide) (fun K hK=>?_);refine qt Try.func29 (by kernel_rfl) rfl #[.agg #[.slice B0 g1.length d0,.int .i64 g2,.int .i64 g3,.int .i64 g4,.slice B4 g5.length d4],.agg #[.slice F0 g1.length i0,.int .i64 g2,.int .i64 g3,.int .i64 g4,.slice F4 g5.length i4]] (by rfl) rfl rfl aak ?_;with_reducible refine (mh.calls k B0 d0 g1 g2 g3 g4 B4 d4 g5 F0 i0 g1 g2 g3 g4 F4 i4 g5 true wv (Kd.Ua iG.out).2.2 (Kd.Ua iG.out).2.1 (Kd.Uh gG.out).2.2 (Kd.Uh gG.out).2.1 (Kd.Ua QK.out).2.2 (Kd.Ua QK.out).2.1 (Kd.Uh PK.out).2.2 (Kd.Uh PK.out).2.1 TF.out).mono ?_
  rintro e Dl ⟨rfl,hb⟩;refine ⟨_,rfl,?_⟩;have ZY:=aa.mk (Ga aZ.out hb);have eE:=aa.mk (Ta Gu.out hb);have Vw:=aa.mk (Ta YD.out hb);have YP:=aa.mk (Kd.ec ZP.out hb);have OP:=aa.mk (Kd.ec iG.out hb);have NP:=aa.mk (Kd.ki gG.out hb);have gQ:=aa.mk (Kd.ec iQ.out hb);have Laa:=hb.size;clear hb QK PK aZ Gu YD ZP iG gG iQ;refine hK.out _ _ ⟨(ya Vw.out 0).trans rfl,(ya Vw.out 1).trans rfl,(ya Vw.out 2).trans rfl,(ya Vw.out 3).trans rfl,(ya Vw.out 4).trans rfl,(ya eE.out 0).trans rfl,(ya eE.out 1).trans rfl,(ya eE.out 2).trans rfl,(ya eE.out 3).trans rfl,(ya eE.out 4).trans rfl⟩ (fun hHeld=>?_);clear hK K;refine Nf (a':=?_) ?_ ?_;rotate_left
  ·show Act.put _ (some 38) _=_
   exact daj
  refine od (i:=4) (N:=some 39) (v:=?_) (a':=?_) #[true,true,true,true,true] rfl rfl (by kernel_rfl) (fun _ _ _ h=>h) (Or.inl ⟨by rfl,?_⟩) ?_ ?_;rotate_left
  ·exact eaj
  rotate_left
  ·exact daj
  refine Yo (by kernel_rfl) ?_;clear kO uL KT fY RX IX kY;have hx0:=(ya Vw.out 0).trans rfl;have hx1:=(ya Vw.out 1).trans rfl;have hx2:=(ya Vw.out 2).trans rfl;have ov:=(ya Vw.out 3).trans rfl;have Tt:=(ya Vw.out 4).trans rfl
  go_upto_region 14 with (first|(go_at_call 32;(with_reducible refine (dg.calls k _ _ g1 g2 g3 g4 _ _ g5 1 M1 M2 M3 w Dl ZY.out OP.out NP.out TM.out).mono ?_);rintro e Vv ⟨rfl,_,_,hb,hk⟩;have bL:=aa.mk hb;have cO:=aa.mk (Kept.mono hk (fun k_ Tn=>(Or.elim Tn id id:w4.heap.size ≤ k_∧k_ < w5.heap.size)));have Kaa:=hk.1;clear hb hk hx0 hx1 hx2 ov Tt))
  have RY:=aa.mk (jg eE.out cO.out (by omega));have mG:=aa.mk (Kd.gq YP.out cO.out (by intro k_ h1 h2;omega));have nG:=aa.mk (Kd.gq gQ.out cO.out (by have:=J_.out;intro k_ h1 h2;omega));clear eE YP gQ Vw OP NP ZY cO
  go_upto_region 17 with (first|(go_at_call 17;(with_reducible refine (Ud.calls k E0 q0 y D0 f0 x true Vv (Kd.Ua nG.out).2.2 (Kd.Ua nG.out).2.1 (Kd.Ua mG.out).2.2 (Kd.Ua mG.out).2.1 TE.out).mono ?_);rintro e jA ⟨rfl,hb0⟩;have hb:Below _ _ _:=hb0.below;have YY:=aa.mk (Ga bL.out hb);have QY:=aa.mk (Ta RY.out hb);have XP:=aa.mk (Kd.ec mG.out hb);have fQ:=aa.mk (Kd.ec nG.out hb);have Jaa:=hb.size;clear hb hb0 bL RY mG nG))
  go_upto_region 19 with (first|(go_at_call 20;(with_reducible refine (jd.calls k _ _ y 1 q m2 w jA YY.out fQ.out Tm.out).mono ?_);rintro e xU ⟨rfl,ho,hb,hk⟩;have XY:=aa.mk hb;have mU:=aa.mk hk;have qC:=aa.mk ho;have Iaa:=hk.1;clear hb hk ho))
  have PY:=aa.mk (jg QY.out mU.out (by have:=J_.out;omega));have VP:=aa.mk (Kd.gq XP.out mU.out (by have:=J_.out;intro k_ h1 h2;omega));have hlm:m2.length=y.length:=(Kd.Ua qC.out).1.symm;have HLM:=aa.mk hlm;clear QY XP fQ YY mU hlm
  go_upto_region 24 with (first|(go_at_call 21;(with_reducible refine (ot k E0 q0 y.length m2 1 q xU HLM.out (Kd.Ua qC.out).2.2 (Kd.Ua qC.out).2.1 Tq.out).mono ?_);rintro e yo ⟨rfl,hb0⟩;have hb:Below _ _ _:=hb0.below;have tC:=aa.mk (Ga XY.out hb);have Ix:=aa.mk (Ta PY.out hb);have TP:=aa.mk (Kd.ec VP.out hb);have dQ:=aa.mk (Kd.ec qC.out hb);have Haa:=hb.size;clear hb hb0 XY PY VP qC))
  have eH:=(ya Ix.out 0).trans rfl;have Xw:=(ya Ix.out 1).trans rfl;have hg2:=(ya Ix.out 2).trans rfl;have CC:=(ya Ix.out 3).trans rfl;have BC:=(ya Ix.out 4).trans rfl
  go_upto_region 25 with (first|(go_at_call 27;(with_reducible refine (cg.calls k zb yb Ma Oa Pa Na Ob Fb oa g1 g2 g3 g4 g5 yo (Kd.Za ak.out tC.out) Hx.out (Kd.Za vv.out tC.out) Gx.out TG.out).mono ?_);rintro e E5 ⟨v0,v4,rfl,Rg,sx,hb⟩;obtain ⟨F0,i0,rfl⟩:=Kd.Vb Rg;obtain ⟨F4,i4,rfl⟩:=Kd.Jq sx;have QK:=aa.mk Rg;have PK:=aa.mk sx;have WY:=aa.mk (Ga tC.out hb);have OY:=aa.mk (Ta Ix.out hb);have SP:=aa.mk (Kd.ec TP.out hb);have cQ:=aa.mk (Kd.ec dQ.out hb);have Gaa:=hb.size;clear Rg sx hb tC Ix TP dQ eH Xw hg2 CC BC)|(go_at_call 48;(with_reducible refine (Wh.calls k F0 i0 g1 g2 g3 g4 F4 i4 g5 a1 a2 y E5 (Kd.Ua QK.out).2.2 (Kd.Ua QK.out).2.1 (Kd.Uh PK.out).2.2 (Kd.Uh PK.out).2.1 TY.out).mono ?_);rintro e Om ⟨vz,rfl,ho,hb⟩;have RK:=aa.mk ho;have VY:=aa.mk (Ga WY.out hb);have NY:=aa.mk (Ta OY.out hb);have lG:=aa.mk (Kd.ec SP.out hb);have bQ:=aa.mk (Kd.ec cQ.out hb);have Faa:=hb.size;obtain ⟨JR0,j0,rfl⟩:=Kd.Vb ho;clear ho hb QK PK WY OY SP cQ))
  go_upto_region 28 with (first|(go_at_call 17;(with_reducible refine (Ud.calls k JR0 j0 y D0 f0 x true Om (Kd.Ua RK.out).2.2 (Kd.Ua RK.out).2.1 (Kd.Ua lG.out).2.2 (Kd.Ua lG.out).2.1 TE.out).mono ?_);rintro e bV ⟨rfl,hb0⟩;have hb:Below _ _ _:=hb0.below;have sC:=aa.mk (Ga VY.out hb);have kah:=aa.mk (Ta NY.out hb);have eae:=aa.mk (Kd.ec lG.out hb);have aQ:=aa.mk (Kd.ec bQ.out hb);have Eaa:=hb.size;clear hb hb0 VY NY lG bQ RK))
  go_wp2_with (first|(go_at_call 21;(with_reducible refine (ot k E0 q0 y.length m2 1 q bV HLM.out (Kd.Ua aQ.out).2.2 (Kd.Ua aQ.out).2.1 Tq.out).mono ?_);rintro e Vt ⟨rfl,hb0⟩;have hb:Below _ _ _:=hb0.below;have raa:=aa.mk (Ga sC.out hb);clear hb hb0));go_ret;exact ⟨rfl,raa.out⟩
theorem Iu (x:DU) (b0:Int) (b1:Int) (hf:PJ x) (hb0:Un b0) (Ko:Un b1):∃ k,Yf.f k x.f0 x.f1 x.f2 x.f3 x.f4 b0 b1=some true:=by
 obtain ⟨t,e1,e2⟩:=rD x hf;refine Ev.rounds (g:=fun k=>Yf.f k x.f0 x.f1 x.f2 x.f3 x.f4 b0 b1) ?_;unfold Yf.f;refine Ev.bind e1 ?_
 by_cases ht:t < 0
 ·exact Ev.pos ht (Ev.now _)
 refine Ev.neg ht ?_;obtain ⟨h0,hl,hst,hT,hq,⟨M1,M2,M3⟩,hM,hM0,_⟩:=e2 ht;obtain ⟨r,r1,r2,r3⟩:=eN x.f0 x.f1 x.f2 x.f3 (x.f4.map Bf) b0 b1 h0 hl hst;have hE:=Vx r (by omega);have hm:=Tu r 1 (by omega) (by omega);have hh:=JB 1 r.length (by omega) (by omega);refine Ev.bind hT (Ev.bind r1 (Ev.bind r2 (Ev.bind hE (Ev.pos rfl (Ev.bind hq (Ev.pos rfl (Ev.bind hM (Ev.neg (by simp only at hM0 ⊢;omega) (Ev.bind hm (Ev.bind hh (Ev.neg (by omega) (Ev.pos rfl (Ev.now _)))))))))))))
end Go.Proofs.Ytoomcmaifgkkfaa.P
end
