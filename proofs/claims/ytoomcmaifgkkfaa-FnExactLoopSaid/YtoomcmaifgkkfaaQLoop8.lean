import Derived.Shelf.Abstract
import Derived.Outline
import Derived.RegionTactic
import Derived.Deep.QuietTactic
import Derived.BigQuiet
import Derived.Test.YtoomcmaifgkkfaaQLoop1
import Derived.Test.YtoomcmaifgkkfaaQLoop3
import Derived.Test.YtoomcmaifgkkfaaQLoop4
import Derived.Test.YtoomcmaifgkkfaaQLoop7
import Derived.Test.YtoomcmaifgkkfaaQLoop5
import Derived.Test.YtoomcmaifgkkfaaQLoop2
set_option maxHeartbeats 8000000
set_option maxRecDepth 100000
section
namespace Go.Proofs.Ytoomcmaifgkkfaa.P
open Go.RowKit Go.Proofs.Aa.Db Go.Proofs.Aa.Tc Go.Proofs.Aa.ke
set_option linter.unusedVariables false
set_option linter.unusedSimpArgs false
noncomputable def Zg.f (k:Nat) (Ma:List Int) (Oa:Int) (Pa:Int) (Na:Int) (oa:List (Wd)) (a1 a2:Int):Option (List Int) :=
 open Classical in if (0 ≤ a1∧a1 < (oa.length:Int)∧0 ≤ a2∧a2 < (oa.length:Int)∧oa.length ≤ 1048576∧∀ b:Nat,b < oa.length→fc.f k Ma Oa Pa Na oa (b:Int)=some (Me oa (b:Int))) then some (Kk oa a1.toNat a2.toNat) else none
theorem add_same {l:List Int} {a:Int} {p q:Prop} (h:Fg l a=l) (iM:(Fg l a=l∧p) ∨ (Fg l a=l.take (sk l a) ++ [a] ++ l.drop (sk l a)∧q)):p:=by
 rcases iM with h2|h2
 ·exact h2.2
 ·have h3:=congrArg List.length (h.symm.trans h2.1);simp only [List.length_append,List.length_take,List.length_drop,List.length_singleton] at h3;omega
theorem oK {l:List Int} {a:Int} {p q:Prop} (h:(Fg l a).length=l.length + 1) (iM:(Fg l a=l∧p) ∨ (Fg l a=l.take (sk l a) ++ [a] ++ l.drop (sk l a)∧q)):q:=by
 rcases iM with h2|h2
 ·rw [h2.1] at h;omega
 ·exact h2.2
theorem Zg.calls (k:Nat) (zb:Option Addr) (yb:Nat) (Ma:List Int) (Oa:Int) (Pa:Int) (Na:Int) (Ob:Option Addr) (Fb:Nat) (oa:List (Wd)) (a1 a2:Int) (r:List Int) (w:World) (qd:Kd.C (Kd.int .i64) w zb Ma.length Ma) (Ad:Ma.length ≤ yb) (fe:Kd.C Km w Ob oa.length oa) (Fe:oa.length ≤ Fb) (h:Zg.f k Ma Oa Pa Na oa a1 a2=some r) :
  Calls Try.prog 88 #[.agg #[.slice zb Ma.length yb,.int .i64 Oa,.int .i64 Pa,.int .i64 Na,.slice Ob oa.length Fb],.int .i64 a1,.int .i64 a2] w fun e w'=>∃ Di:Value,e = .returned (Di)∧Kd.R (Kd.int .i64) 3 w' w.heap.size (fun _=>True) Di r∧Below w.heap.size w w':=by
 unfold Zg.f at h
 split at h
 case isFalse=>cases h
 rename_i hc;cases h;obtain ⟨f0,f1,t0,t1,AR,hA⟩:=hc;obtain ⟨f,rfl⟩:∃ f:Nat,a1=(f:Int):=⟨a1.toNat,(Int.toNat_of_nonneg f0).symm⟩;obtain ⟨t,rfl⟩:∃ t:Nat,a2=(t:Int):=⟨a2.toNat,(Int.toNat_of_nonneg t0).symm⟩;rw [Int.toNat_natCast,Int.toNat_natCast];have HA:=aa.mk hA;have qG:=aa.mk (IK.start (bs:=oa) (f:=f) (t:=t) (by omega) (by omega));obtain ⟨W1,hW,hb,hx⟩:=Io w (.cells #[.slice zb Ma.length yb,.int .i64 Oa,.int .i64 Pa,.int .i64 Na,.slice Ob oa.length Fb] 45 (0,0));have N4:=aa.mk hb.size;have gE:=aa.mk hb;have HW:=aa.mk hW;have HB:=aa.mk hb;have HX:=aa.mk hx;have ak:=aa.mk (Kd.Za qd hb);have vv:=aa.mk (Kd.Za fe hb);have Hx:=aa.mk Ad;have Gx:=aa.mk Fe;clear hW hb hx qd fe hA f0 f1 t0 t1 Ad Fe;go_enter Try.func88,Try.ntmps88
 go_upto_region 1 with (fail)
 rw [← HW.out];clear HW
 go_upto_region 2 with (fail)
 have Z_:=aa.mk (Mt (e:=3) W1 W1.heap.size (t:Int) (Nat.le_refl _));have CH:=aa.mk (ia (Below.refl W1.heap.size W1) (.cells #[.int .i64 (t:Int)] 3 (0,0)));generalize W1.alloc (.cells #[.int .i64 (t:Int)] 3 (0,0))=Wa at Z_ CH ⊢
 have HAD:=aa.mk (show Ff.f [(t:Int)] (f:Int)=some (Fg [(t:Int)] (f:Int)) from by
  unfold Ff.f
  rw [if_pos (by simp)])
 go_upto_region 3 with (first|(go_at_call 55;(with_reducible refine (Ff.calls (fun _=>True) _ [(t:Int)] (f:Int) _ W1 Wa CH.out Z_.out HAD.out).mono ?_);rintro e w4 ⟨v4,rfl,ho,hb,hk⟩;have HI4:=aa.mk ho;have Mq:=aa.mk hb;clear ho hb hk))
 clear Z_ CH HAD
 go_upto_region 4 with (fail)
 have HQt:=aa.mk (Kd.Sw (Kd.Ji rfl (Mt (e:=3) w4 W1.heap.size (f:Int) Mq.out.size)))
 have HIt:=aa.mk (Kd.Eb (Kd.Ia (Kd.We HI4.out) (.cells #[.int .i64 (f:Int)] 3 (0,0))) (cl:=fun k=>¬ some k=(Value.slice (some ⟨w4.heap.size,0,none⟩) 1 1).ownBlock) (fun k hk e=>by
  have h:=hk.2.2.1;simp [Value.ownBlock] at e
  omega))
 have HBt:=aa.mk (Mq.out.alloc Mq.out.size (.cells #[.int .i64 (f:Int)] 3 (0,0)));generalize w4.alloc (.cells #[.int .i64 (f:Int)] 3 (0,0))=Wt at HQt HIt HBt ⊢;clear HI4 Mq;have VK:=aa.mk AR;clear AR;go_wp2
 go_loopg [7,8] (oa.length + 1) (fun gg v7 v8 wr=>∃ (P:Nat→Prop) (S T:List Int),aa (oa.length - S.length + T.length ≤ gg)∧aa (oa.length - S.length + T.length ≤ oa.length + 1)∧aa (IK oa f t S T)∧aa (Kd.R (Kd.int .i64) 3 wr W1.heap.size (fun k=>¬ P k) v7 S)∧aa (Kd.Q (Kd.int .i64) 3 wr W1.heap.size P v8 T)∧aa (Below W1.heap.size W1 wr))
 case atStart=>exact ⟨_,_,_,⟨by rw [List.length_singleton];omega⟩,⟨by rw [List.length_singleton];omega⟩,qG,HIt,HQt,HBt⟩
 case round =>
  clear HQt HIt HBt qG;(try clear P);(try clear S);(try clear T);(try clear HG);(try clear FY);(try clear qG);(try clear HR);(try clear HQ);(try clear HB);obtain ⟨P,S,T,HG,FY,qG,HR,HQ,HB⟩:=hrel
  by_cases hgo:∃ (b:Nat) (T':List Int),T=(b:Int) :: T'∧b ≠ t
  case neg =>
   have hT:T=[] ∨ ∃ T',T=(t:Int) :: T':=by
    cases T with
    | nil=>exact .inl rfl
    | cons z T' =>
     have h:=qG.out.r z (qG.out.q z (by simp))
     by_cases e:z=(t:Int)
     ·exact .inr ⟨T',by rw [e]⟩
     ·exact absurd ⟨z.toNat,T',by rw [Int.toNat_of_nonneg h.1],by have:=h.1;omega⟩ hgo
   have HE:=aa.mk (qG.out.done hT);have GU:=aa.mk (show Kd.R (Kd.int .i64) 3 wr w.heap.size (fun _=>True) u7 (Kk oa f t) from by rw [← HE.out];exact Kd.Eb (Kd.Xc HR.out N4.out) (fun _ _=>trivial));have pU:=aa.mk (show Below w.heap.size w wr from Ga gE.out HB.out);clear hgo HE qG HR HG FY;obtain ⟨A8,c8,e8,_⟩:=Kd.Fk HQ.out;subst e8
   rcases hT with rfl|⟨T',rfl⟩
   ·rw [show ([]:List Int).length=0 from rfl] at HQ ⊢;go_wp2;go_ret;exact ⟨_,rfl,GU.out,pU.out⟩
   ·obtain ⟨ad,e1,hx⟩:=Kd.Ld (Kd.Gm HQ.out).2.2 0 (by omega) (by simp);subst e1;rw [show ((0:Int)).toNat=0 from rfl,Addr.add_zero',show rd ((t:Int) :: T') 0=(t:Int) from rfl] at hx;have hl0:0 < ((t:Int) :: T').length:=by simp
    generalize ((t:Int) :: T').length=tl at hl0 hx ⊢;go_wp2;go_ret;exact ⟨_,rfl,GU.out,pU.out⟩
  obtain ⟨b,T',rfl,xB⟩:=hgo;have HJ:=aa.mk (qG.out.go xB);have DS:=qG.out.r (b:Int) (qG.out.q (b:Int) (by simp));have l9:b < oa.length:=by have:=DS.2.1;omega
  have HAA:=aa.mk (HA.out b l9);clear DS;have HX1:=aa.mk (Ta HX.out HB.out);obtain ⟨x0,x1,x2,x3,x4⟩:=ig HX1.out;obtain ⟨A8,c8,e8,_⟩:=Kd.Fk HQ.out;subst e8;obtain ⟨ad,e1,hx⟩:=Kd.Ld (Kd.Gm HQ.out).2.2 0 (by omega) (by simp);subst e1;rw [show ((0:Int)).toNat=0 from rfl,Addr.add_zero',show rd ((b:Int) :: T') 0=(b:Int) from rfl] at hx;have Daf:((b:Int) != (t:Int))=true:=by simp;omega
  obtain ⟨TT,VV⟩:∃ TT,TT=(b:Int) :: T':=⟨_,rfl⟩;rw [← VV] at HQ HG FY ⊢;have M4:=aa.mk (show TT.length=T'.length + 1 by rw [VV];rfl);have HTD:=aa.mk (show TT.drop 1=T' by rw [VV];rfl);have hl0:0 < TT.length:=by rw [VV];simp
  have hl1:0 < (TT.length:Int):=by omega
  clear qG VV
  go_upto_region 5 with (fail)
  have QU:=aa.mk (ja (Below.refl wr.heap.size wr));refine Yk (n:=6) (S:=fun w'=>w'.cell? ⟨w.heap.size,0,none⟩=some (.slice zb Ma.length yb)∧w'.cell? ⟨w.heap.size,1,none⟩=some (.int .i64 Oa)∧w'.cell? ⟨w.heap.size,2,none⟩=some (.int .i64 Pa)∧w'.cell? ⟨w.heap.size,3,none⟩=some (.int .i64 Na)∧w'.cell? ⟨w.heap.size,4,none⟩=some (.slice Ob oa.length Fb)∧w'.cell? ad=some (.int .i64 (b:Int))) (ds:=[4]) #[false,false,false,false,false,false] (by kernel_rfl) rfl rfl ⟨x0,x1,x2,x3,x4,hx⟩ (fun hHeld=>?_);generalize wr.drew=wd at QU hHeld ⊢;refine od (i:=1) (N:=some 30) (v:=?_) (a':=?_) #[false,true,false,false,false,false] rfl rfl (by kernel_rfl) (fun _ _ _ h=>h) (Or.inl ⟨by rfl,?_⟩) ?_ ?_;rotate_left
  ·exact eaj
  rotate_left
  ·exact daj
  refine od (i:=2) (N:=some 31) (v:=?_) (a':=?_) #[false,true,true,false,false,false] rfl rfl (by kernel_rfl) (fun _ _ _ h=>h) (Or.inl ⟨by rfl,?_⟩) ?_ ?_;rotate_left
  ·exact eaj
  rotate_left
  ·exact daj
  refine Ph (i:=0) (N:=some 29) (v:=?_) (a':=?_) #[true,true,true,false,false,false] rfl rfl (by kernel_rfl) (fun _ _ _ h=>h) (Or.inl ⟨by rfl,?_⟩) hHeld ?_ ?_;rotate_left
  ·rintro w' ⟨s0,s1,s2,s3,s4,s5⟩;go_simp;with_reducible rfl
  rotate_left
  ·exact daj
  refine Ph (i:=3) (N:=some 32) (v:=?_) (a':=?_) #[true,true,true,true,false,false] rfl rfl (by kernel_rfl) (fun _ _ _ h=>h) (Or.inl ⟨by rfl,?_⟩) hHeld ?_ ?_;rotate_left
  ·rintro w' ⟨s0,s1,s2,s3,s4,s5⟩;go_simp;with_reducible rfl
  rotate_left
  ·exact daj
  refine Qu (i:=4) (N:=some 33) #[true,true,true,true,true,false] rfl rfl (by kernel_rfl) (by decide) (fun K hK=>?_);refine qt Try.func114 (by kernel_rfl) rfl #[.agg #[.slice zb Ma.length yb,.int .i64 Oa,.int .i64 Pa,.int .i64 Na,.slice Ob oa.length Fb],.int .i64 (b:Int)] (by rfl) rfl rfl aak ?_;with_reducible refine (fc.calls k zb yb Ma Oa Pa Na Ob Fb oa (b:Int) (Me oa (b:Int)) wd (Kd.Za ak.out (Ga HB.out QU.out)) Hx.out (Kd.Za vv.out (Ga HB.out QU.out)) Gx.out HAA.out).mono ?_
  rintro e w5 ⟨v5,rfl,ho,hb⟩;refine ⟨_,rfl,?_⟩;obtain ⟨A5,c5,rfl⟩:=Kd.Vb ho;have iE:=aa.mk (Ga QU.out hb);have vY:=aa.mk (Kd.Eb (Kd.We ho) (fun k hk=>(Nat.le_trans QU.out.size hk.2.1:wr.heap.size ≤ k)));clear ho hb;refine hK.out _ _ ?_;clear hK K;refine Nf (a':=?_) ?_ ?_;rotate_left
  ·show Act.put _ (some 33) _=_
   exact daj
  refine od (i:=5) (N:=some 9) (v:=?_) (a':=?_) #[true,true,true,true,true,true] rfl rfl (by kernel_rfl) (fun _ _ _ h=>h) (Or.inl ⟨by rfl,?_⟩) ?_ ?_;rotate_left
  ·exact eaj
  rotate_left
  ·exact daj
  refine Yo (by kernel_rfl) ?_;clear hHeld x0 x1 x2 x3 x4 hx HAA;obtain ⟨i0,hi1,_,hsz1,_⟩:=info_parts info3;have hq:=Kd.Tw (k:=(1:Int).toNat) (Kd.En (Kd.Vg (Kd.Dn HQ.out) (fun k hk=>(⟨hk.1,hk.2.2.1⟩:P k∧k < wr.heap.size))) iE.out) (by rw [show (1:Int).toNat=1 from rfl];exact hl0);have xJ:=Wn 22 3 .i64 Try.underlying22 hi1 1 hsz1 (some ad) TT.length c8 1 (by omega) hl1;have hy:T'.length=TT.length - (1:Int).toNat:=by rw [M4.out];rfl
  obtain ⟨A9,C9⟩:∃ A1,A1=(if c8=(1:Int).toNat then (some ad) else ((some ad):Option Addr).map (·.add ((1:Int).toNat * 1))):=⟨_,rfl⟩;obtain ⟨c9,Z8⟩:∃ c1,c1=c8 - (1:Int).toNat:=⟨_,rfl⟩;rw [← hy,← C9,← Z8] at xJ;rw [show TT.drop (1:Int).toNat=T' from HTD.out] at hq;have HQ5:=aa.mk (show Kd.Q (Kd.int .i64) 3 w5 W1.heap.size (fun k=>P k∧k < wr.heap.size) (.slice A9 T'.length c9) T' by rw [C9,Z8,hy];exact hq);have HR5:=aa.mk (show Kd.R (Kd.int .i64) 3 w5 W1.heap.size (fun k=>¬ (P k∧k < wr.heap.size)) u7 S from Kd.ec (Kd.Eb HR.out (fun k hk h=>hk h.1)) iE.out);have HW5:=aa.mk (Ga HB.out iE.out);have CY:=aa.mk (Kept.refl w5 (fun k=>k < wr.heap.size));have HP5:=aa.mk (fun k (hk:P k∧k < wr.heap.size)=>(.inl hk.2:k < wr.heap.size ∨ w5.heap.size ≤ k));have MU:=aa.mk (fun W' hk=>Kd.Jm (S:=fun k=>k < wr.heap.size) vY.out (fun k hk e=>by have hk:wr.heap.size ≤ k:=hk;omega) W' hk);have HGM:=aa.mk (show oa.length - S.length + T'.length + 1 ≤ gk by have h:=HG.out;rw [M4.out] at h;omega);have HGN:=aa.mk (show oa.length - S.length + T'.length ≤ oa.length by have h:=FY.out;rw [M4.out] at h;omega);clear hq hy C9 Z8 hi1 hsz1 HQ HR HG FY M4 HTD HX1 vY QU;obtain ⟨wo,rfl⟩:∃ wo,wo=wr:=⟨_,rfl⟩;go_wp2
  go_loopg [7,8,10] (Me oa (b:Int)).length (fun g2 v7 v8 v10 wz=>∃ (P:Nat→Prop) (S2 T2:List Int) (j:Nat),v10 = .int .i64 j∧j ≤ (Me oa (b:Int)).length∧(Me oa (b:Int)).length - j ≤ g2∧aa (MH oa f t b j (oa.length - S.length + T'.length) S2 T2)∧aa (Kd.R (Kd.int .i64) 3 wz W1.heap.size (fun k=>¬ P k) v7 S2)∧aa (Kd.Q (Kd.int .i64) 3 wz W1.heap.size P v8 T2)∧aa (∀ k,P k→k < wo.heap.size ∨ w5.heap.size ≤ k)∧aa (Kept w5 wz (fun k=>k < wo.heap.size))∧aa (Below W1.heap.size W1 wz))
  case atStart=>exact ⟨_,_,_,0,rfl,Nat.zero_le _,by omega,HJ,HR5,HQ5,HP5,CY,HW5⟩
  case round =>
   clear HJ HR5 HQ5 HP5 CY HW5;(try clear P);(try clear S2);(try clear T2);(try clear HJ);(try clear HR);(try clear HQ);(try clear HP);(try clear HK);(try clear HB);obtain ⟨P,S2,T2,j,rfl,hj,U7,HJ,HR,HQ,HP,HK,HB⟩:=hrel
   by_cases hjt:j < (Me oa (b:Int)).length
   case neg =>
    obtain rfl:j=(Me oa (b:Int)).length:=by omega
    have qG:=aa.mk HJ.out.back;have HM:=aa.mk HJ.out.m;clear hj U7;go_wp2
    go_roundg (oa.length - S.length + T'.length)
    case measure=>exact Nat.lt_of_lt_of_le (Nat.lt_succ_self _) HGM.out
    case rel=>exact ⟨_,S2,T2,HM,⟨Nat.le_trans HM.out (Nat.le_succ_of_le HGN.out)⟩,qG,HR,HQ,HB⟩
   have j1:0 ≤ (j:Int):=by omega
   have j2:(j:Int) < ((Me oa (b:Int)).length:Int):=by omega
   have hjm:j < 1048576:=Nat.lt_of_lt_of_le hjt (Nat.le_trans (Mw _ _) VK.out);have cH:decide ((j:Int) < ((Me oa (b:Int)).length:Int))=true:=decide_eq_true j2;obtain ⟨ad2,e2,hx2⟩:=Kd.Ld (MU.out wr HK.out) (j:Int) j1 j2;subst e2;rw [Int.toNat_natCast,uh hjt] at hx2;have NN:=aa.mk (show S2.length ≤ 4398046511104 from Nat.le_trans HJ.out.len (Nat.le_trans VK.out (by decide)));have HTB:=aa.mk (show (T2.length + 1) * 8 ≤ 140737488355328 by have h1:=HJ.out.m;have h2:=HGN.out;have h3:=VK.out;omega);have R4:=aa.mk (fun h=>HJ.out.old hjt h);have U4:=aa.mk (fun h=>HJ.out.new hjt h);have HSS:=aa.mk HJ.out.s;obtain ⟨A7,c7,e7⟩:=Kd.Vb HR.out;subst e7;generalize (Me oa (b:Int))[j]=x at hx2 R4 U4;clear HJ
   by_cases hm:x ∈ S2
   ·have j5:=aa.mk (Oz HSS.out hm);have daa:=aa.mk (R4.out hm);clear R4 U4 hm;go_wp2_with (first|(go_at_call 55;(with_reducible refine (Gr A7 c7 S2 x wr (Kd.Ua HR.out).2.2 (Kd.Ua HR.out).2.1 NN.out).mono ?_);rintro e w8 ⟨v8,rfl,hb,iM⟩;obtain rfl:=add_same j5.out iM;have aY:=aa.mk (Kd.ec HR.out hb);have cY:=aa.mk (Kd.En HQ.out hb);have kO:=aa.mk (Ga HB.out hb);have AY:=aa.mk (HK.out.below hb);clear hb iM))
    go_roundg ((Me oa (b:Int)).length - (j + 1))
    case measure=>omega
    case rel=>exact ⟨P,S2,T2,j + 1,by go_num,by omega,by omega,daa,aY,cY,HP,AY,kO⟩
   ·have uY:=aa.mk (U4.out hm);have j5:=aa.mk (Nw hm);clear R4 U4 hm;obtain ⟨S3,O3⟩:∃ S3,S3=Fg S2 x:=⟨_,rfl⟩;rw [← O3] at uY;have hgt:S2.length < S3.length:=by rw [O3,j5.out];exact Nat.lt_succ_self _
    have Naf:decide ((S3.length:Int) > (S2.length:Int))=true:=decide_eq_true (by omega);have HS3:=aa.mk O3;clear O3;go_wp2_with (first|(go_at_call 55;(with_reducible refine (Gr A7 c7 S2 x wr (Kd.Ua HR.out).2.2 (Kd.Ua HR.out).2.1 NN.out).mono ?_);rintro e w8 ⟨v8,rfl,hb,iM⟩;have ho:=oK j5.out iM;rw [← HS3.out] at ho;obtain ⟨A8,c8,rfl⟩:=Kd.Vb ho;have aY:=aa.mk (show Kd.R (Kd.int .i64) 3 w8 W1.heap.size (fun k=>¬ ((P k∧k < wr.heap.size) ∨ w8.heap.size ≤ k)) (.slice A8 S3.length c8) S3 from Kd.Eb (Kd.Xc (Kd.We ho) HB.out.size) (fun k hk h=>h.elim (fun h=>Nat.lt_irrefl _ (Nat.lt_of_le_of_lt hk.2.1 h.2)) (fun h=>Nat.lt_irrefl _ (Nat.lt_of_le_of_lt h hk.2.2.1))));have cY:=aa.mk (show Kd.Q (Kd.int .i64) 3 w8 W1.heap.size (fun k=>(P k∧k < wr.heap.size) ∨ w8.heap.size ≤ k) u8 T2 from Kd.En (Kd.Vg (Kd.Dn HQ.out) (fun k hk=>.inl ⟨hk.1,hk.2.2.1⟩)) hb);have kO:=aa.mk (Ga HB.out hb);have AY:=aa.mk (HK.out.below hb);have HP8:=aa.mk (show ∀ k,((P k∧k < wr.heap.size) ∨ w8.heap.size ≤ k)→k < wo.heap.size ∨ w5.heap.size ≤ k from fun k hk=>hk.elim (fun h=>HP.out k h.1) (fun h=>.inr (Nat.le_trans (HK.out.below hb).1 h)));replace hx2:=zf hb hx2;clear hb iM ho)|(at_builtin;refine Kd.Qt (Kd.int .i64) (w0:=W1) W1.heap.size rfl (.tmp 54) (.tmp 59) 22 3 (.int .i64 0) 8 rfl Try.underlying22 info3 rfl (by decide) (by omega) _ T2 x [.int .i64 x] (fun k=>(P k∧k < wr.heap.size) ∨ w8.heap.size ≤ k) (fun _=>False) rfl rfl ?aP (fun _ hk=>hk.elim) (fun k hk=>.inr hk) cY.out kO.out kO.out.size HTB.out ?_;(case aP=>exact rfl);intro v1 w1 ho hb hgr hat;have JU:=aa.mk ho;have qU:=aa.mk hb;have HR9:=aa.mk (Kd.Kq aY.out hgr (fun k hk e=>hk (cY.out.1 k e.symm)));have HK9:=aa.mk (Kept.Af hgr AY.out (fun k e=>HP8.out k (cY.out.1 k e)));clear ho hb hgr hat))
    go_roundg ((Me oa (b:Int)).length - (j + 1))
    case measure=>omega
    case rel=>exact ⟨_,S3,T2 ++ [x],j + 1,by go_num,by omega,by omega,uY,HR9,JU,HP8,HK9,qU⟩
noncomputable def Ei.f (k:Nat) (Ma:List Int) (Oa:Int) (Pa:Int) (Na:Int) (oa:List (Wd)) (a1 a2:Int):Option (List Int) :=
 (kj.f k Ma Oa Pa Na oa).bind fun B=>if B.length ≤ 4398046511104 then (if (a1,a2) ∈ B then Zg.f k Ma Oa Pa Na oa a1 a2 else some []) else none
attribute [local go_sem] oP
theorem Ei.calls (k:Nat) (zb:Option Addr) (yb:Nat) (Ma:List Int) (Oa:Int) (Pa:Int) (Na:Int) (Ob:Option Addr) (Fb:Nat) (oa:List (Wd)) (a1 a2:Int) (r:List Int) (w:World) (qd:Kd.C (Kd.int .i64) w zb Ma.length Ma) (Ad:Ma.length ≤ yb) (fe:Kd.C Km w Ob oa.length oa) (Fe:oa.length ≤ Fb) (h:Ei.f k Ma Oa Pa Na oa a1 a2=some r) :
  Calls Try.prog 47 #[.agg #[.slice zb Ma.length yb,.int .i64 Oa,.int .i64 Pa,.int .i64 Na,.slice Ob oa.length Fb],.int .i64 a1,.int .i64 a2] w fun e w'=>∃ Di:Value,e = .returned (Di)∧Kd.R (Kd.int .i64) 3 w' w.heap.size (fun _=>True) Di r∧Below w.heap.size w w':=by
 unfold Ei.f at h;obtain ⟨B,hB,h⟩:=Option.bind_eq_some_iff.mp h
 by_cases hl:B.length ≤ 4398046511104
 case neg=>rw [if_neg hl] at h;cases h
 rw [if_pos hl] at h;have SU:=aa.mk hB;have HH:=aa.mk h;obtain ⟨W1,hW,hb,hx⟩:=Io w (.cells #[.slice zb Ma.length yb,.int .i64 Oa,.int .i64 Pa,.int .i64 Na,.slice Ob oa.length Fb] 45 (0,0));have HW:=aa.mk hW;have HB:=aa.mk hb;have HX:=aa.mk hx;have ak:=aa.mk (Kd.Za qd hb);have vv:=aa.mk (Kd.Za fe hb);have Hx:=aa.mk Ad;have Gx:=aa.mk Fe;obtain ⟨x0,x1,x2,x3,x4⟩:=ig hx;clear hW hb hx qd fe h hB Ad Fe;have hgt:Try.prog.eqGuardType Try.prog.depth 85=false:=by kernel_rfl
 go_enter Try.func47,Try.ntmps47
 go_upto_region 1 with (fail)
 rw [← HW.out];clear HW
 go_upto_region 2 with (first|(go_at_call 42;(with_reducible refine (kj.calls k zb yb Ma Oa Pa Na Ob Fb oa B W1 ak.out Hx.out vv.out Gx.out SU.out).mono ?_);rintro e w2 ⟨v2,rfl,ho,hb⟩;obtain ⟨A2,c2,rfl⟩:=Kd.Vb ho;have HN2:=aa.mk (Kd.Ua ho).2.2;have Li:=aa.mk (Ga (Below.refl W1.heap.size W1) hb);clear ho hb x0 x1 x2 x3 x4))
 have pQ:=aa.mk (Below.refl w2.heap.size w2);go_wp2
 go_loopg [8] B.length (fun gg v8 wr=>∃ i:Nat,v8 = .int .i64 i∧i ≤ B.length∧B.length - i ≤ gg∧aa ((a1,a2) ∉ B.take i)∧aa (Below w2.heap.size w2 wr))
 case atStart=>exact ⟨0,rfl,Nat.zero_le _,by omega,⟨by simp⟩,pQ⟩
 case round =>
  clear pQ;(try clear HN);(try clear pQ);obtain ⟨i,rfl,hi,lD,HN,pQ⟩:=hrel
  by_cases hlt:i < B.length
  case neg =>
   obtain rfl:i=B.length:=by omega
   have YX:=aa.mk (show r=[] by
    have h:=HH.out;rw [if_neg (by have h:=HN.out;rwa [List.take_length] at h)] at h;injection h with h
    exact h.symm)
   have pU:=aa.mk (Ga HB.out (Ga Li.out pQ.out));have GU:=aa.mk (Zj (Kd.int .i64) 3 wr w.heap.size pU.out.size);have HBF:=aa.mk (ia pU.out (.cells #[] 3 (0,0)));clear HN hi lD;go_wp2;go_ret;exact ⟨_,rfl,by rw [YX.out];exact Kd.Eb GU.out (fun _ _=>trivial),HBF.out⟩
  have i1:0 ≤ (i:Int):=by omega
  have i2:(i:Int) < (B.length:Int):=by omega
  have ek:decide ((i:Int) < (B.length:Int))=true:=decide_eq_true i2;obtain ⟨ad,e1,c0,c1⟩:=AP (Kd.Za HN2.out pQ.out) (i:Int) i1 i2;subst e1;rw [uE hlt,Int.toNat_natCast] at c0 c1;have HT:=aa.mk (List.take_succ_eq_append_getElem hlt);have xY:=aa.mk (List.getElem_mem hlt);generalize B[i]=p at c0 c1 HT xY;obtain ⟨p1,p2⟩:=p;replace c0:wr.cell? (ad.add (i * 2))=some (.int .i64 p1):=c0;replace c1:wr.cell? ⟨(ad.add (i * 2)).block,(ad.add (i * 2)).off + 1,none⟩=some (.int .i64 p2):=c1
  by_cases he:(p1,p2)=(a1,a2)
  ·cases he;have ZN:=aa.mk (show Zg.f k Ma Oa Pa Na oa a1 a2=some r by have h:=HH.out;rwa [if_pos xY.out] at h);have vo:=aa.mk (Ga Li.out pQ.out);obtain ⟨x0,x1,x2,x3,x4⟩:=ig (Ta HX.out vo.out);go_wp2_with (first|(go_at_call 88;(with_reducible refine (Zg.calls k zb yb Ma Oa Pa Na Ob Fb oa a1 a2 r wr (Kd.Za ak.out vo.out) Hx.out (Kd.Za vv.out vo.out) Gx.out ZN.out).mono ?_);rintro e w4 ⟨v4,rfl,ho,hb⟩;have mY:=aa.mk (Kd.Xc ho (Nat.le_trans HB.out.size vo.out.size));have Mq:=aa.mk (Ga HB.out (Ga vo.out hb));clear ho hb x0 x1 x2 x3 x4));go_ret;exact ⟨_,rfl,mY.out,Mq.out⟩
  ·have HNN:=aa.mk (show (a1,a2) ∉ B.take (i + 1) by rw [HT.out,List.mem_append,List.mem_singleton];exact fun h=>h.elim HN.out (fun h=>he h.symm))
   have hf:(p1 == a1 && p2 == a2)=false:=by
    rw [Bool.and_eq_false_iff,beq_eq_false_iff_ne,beq_eq_false_iff_ne]
    by_cases h:p1=a1
    ·exact .inr (fun h2=>he (by rw [h,h2]))
    ·exact .inl h
   go_wp2
   go_roundg (B.length - (i + 1))
   case measure=>omega
   case rel=>exact ⟨i + 1,by go_num,by omega,by omega,HNN,pQ⟩
structure eG (bs:List Wd) (f t:Nat) (S T:List Int):Prop where
 s:(Nh S).length=S.length
 r:∀ z ∈ S,0 ≤ z∧z < (bs.length:Int)∧LP (De bs) bs.length f t z.toNat
 q:∀ z ∈ T,0 ≤ z∧z < (bs.length:Int)∧LP (De bs) bs.length f t z.toNat
 mt:(t:Int) ∈ S
 mf:(f:Int) ∈ S ∨ (f:Int) ∈ T
 c:∀ b:Nat,(b:Int) ∈ S→b ≠ t→∀ x:Nat,x < bs.length→(b:Int) ∈ De bs x→(x:Int) ∈ S ∨ (x:Int) ∈ T
 m:(bs.length - S.length) * (bs.length + 1) + T.length ≤ 1048576 * 1048577
section
variable {bs:List Wd} {f t:Nat} {S T:List Int}
theorem eG.len (h:eG bs f t S T):S.length ≤ bs.length:=by
 rw [← h.s];exact Ht (Kg S).1 (fun z hz=>by have:=h.r z (((Kg S).2 z).1 hz);exact ⟨this.1,this.2.1⟩)
theorem eG.start (hn:bs.length ≤ 1048576) (hf:f < bs.length) (ht:t < bs.length):eG bs f t [(t:Int)] [(f:Int)]:=by
 refine ⟨by rw [← Jt];simp [Kt],fun z hz=>?_,fun z hz=>?_,by simp,.inr (by simp),fun b hb xB=>?_,?_⟩
 ·rw [List.mem_singleton] at hz;subst hz;exact ⟨by omega,by omega,by rw [Int.toNat_natCast];exact LP.hd⟩
 ·rw [List.mem_singleton] at hz;subst hz;exact ⟨by omega,by omega,by rw [Int.toNat_natCast];exact LP.fr⟩
 ·rw [List.mem_singleton] at hb;omega
 ·rw [List.length_singleton,List.length_singleton];have h1:(bs.length - 1) * (bs.length + 1) ≤ 1048575 * 1048577:=Nat.mul_le_mul (by omega) (by omega);omega
theorem eG.done (h:eG bs f t S []):Nh S=Kk bs f t:=by
 have hm:=(Kg S).2;refine OA (Kg S).1 (fun z hz=>h.r z ((hm z).1 hz)) ((hm _).2 (h.mf.elim id (fun h=>by simp at h))) ((hm _).2 h.mt) (fun b hb xB x hx hx2=>(hm _).2 ?_);exact (h.c b ((hm _).1 hb) xB x hx hx2).elim id (fun h=>by simp at h)
theorem eG.old {z:Int} (h:eG bs f t S (z :: T)) (hz:z ∈ S):eG bs f t S T:=by
 refine ⟨h.s,h.r,fun y hy=>h.q y (by simp [hy]),h.mt,h.mf.elim .inl (fun h=>?_),fun b hb xB x hx hx2=>(h.c b hb xB x hx hx2).elim .inl (fun h=>?_),?_⟩
 ·rcases List.mem_cons.1 h with h|h
  ·rw [h];exact .inl hz
  ·exact .inr h
 ·rcases List.mem_cons.1 h with h|h
  ·rw [h];exact .inl hz
  ·exact .inr h
 ·have:=h.m;rw [List.length_cons] at this;omega
theorem eG.new {z:Int} (h:eG bs f t S (z :: T)) (hz:z ∉ S):eG bs f t (S ++ [z]) (T ++ Me bs z)∧(bs.length - (S ++ [z]).length) * (bs.length + 1) + (T ++ Me bs z).length < (bs.length - S.length) * (bs.length + 1) + (z :: T).length:=by
 obtain ⟨z0,z1,z2⟩:=h.q z (by simp)
 have hs:(Nh (S ++ [z])).length=(S ++ [z]).length:=by
  rw [← Jt,List.foldl_append,Jt]
  show (Fg (Nh S) z).length=_
  rw [Nw (fun hm=>hz (((Kg S).2 z).1 hm)),h.s,List.length_append,List.length_singleton]
 have hr:∀ y ∈ S ++ [z],0 ≤ y∧y < (bs.length:Int)∧LP (De bs) bs.length f t y.toNat:=fun y hy=>by
  rw [List.mem_append,List.mem_singleton] at hy
  rcases hy with hy|rfl
  ·exact h.r y hy
  ·exact ⟨z0,z1,z2⟩
 have hl:(S ++ [z]).length ≤ bs.length:=by
  rw [← hs];exact Ht (Kg _).1 (fun y hy=>by have:=hr y (((Kg _).2 y).1 hy);exact ⟨this.1,this.2.1⟩)
 have hM:(bs.length - (S ++ [z]).length) * (bs.length + 1) + (T ++ Me bs z).length < (bs.length - S.length) * (bs.length + 1) + (z :: T).length:=by
  have ha:=Mw bs z;rw [List.length_append,List.length_singleton] at hl ⊢;rw [List.length_append,List.length_cons,show bs.length - S.length=(bs.length - (S.length + 1)) + 1 by omega,Nat.add_mul];omega
 refine ⟨⟨hs,hr,fun y hy=>?_,by simp [h.mt],h.mf.elim (fun h=>.inl (by simp [h])) (fun h=>?_),fun b hb xB x hx hx2=>?_,Nat.le_of_lt (Nat.lt_of_lt_of_le hM h.m)⟩,hM⟩
 ·rw [List.mem_append] at hy
  rcases hy with hy|hy
  ·exact h.q y (by simp [hy])
  ·obtain ⟨x,rfl,hx,R6⟩:=Po.1 hy;refine ⟨by omega,by omega,?_⟩;rw [Int.toNat_natCast];refine LP.step z2 (fun e=>hz ?_) hx (by rw [Int.toNat_of_nonneg z0];exact R6);have:=h.mt
   rwa [← e,Int.toNat_of_nonneg z0] at this
 ·rcases List.mem_cons.1 h with h|h
  ·exact .inl (by simp [h])
  ·exact .inr (by simp [h])
 ·rw [List.mem_append,List.mem_singleton] at hb
  rcases hb with hb|hb
  ·rcases h.c b hb xB x hx hx2 with h|h
   ·exact .inl (by simp [h])
   ·rcases List.mem_cons.1 h with h|h
    ·exact .inl (by simp [h])
    ·exact .inr (by simp [h])
  ·exact .inr (by rw [List.mem_append];exact .inr (Po.2 ⟨x,rfl,hx,by rw [← hb];exact hx2⟩))
theorem nK (bs:List Wd) (b:Int):Me bs b=wh bs b bs.length:=rfl
theorem rz {l0:List Int} {p v s:Int} (hE:ze bs):∀ (m:Nat) (S T:List Int),(bs.length - S.length) * (bs.length + 1) + T.length ≤ m→eG bs f t S T→Ev (fun k=>Xb.l0 k S T l0 p v s bs) (Kk bs f t):=by
 have hn:=hE.2.1;intro m
 induction m using Nat.strongRecOn with
 | _ m ih =>
 intro S T hm h;have hSl:=h.len;cases T with
 | nil =>
  refine Ev.step (fun k=>by rw [Xb.l0]) (Ev.neg (by simp) ?_);refine Ev.bind (Ev.here (show Be.f S=some (Kk bs f t) by unfold Be.f;rw [if_pos (by omega),h.done])) (Ev.now _)
 | cons z T' =>
  refine Ev.step (fun k=>by rw [Xb.l0]) (Ev.pos kak (Ev.pos kak (Ev.pos kak (Ev.val ?_))));rw [show (z :: T').drop (1:Int).toNat=T' from rfl,show rd (z :: T') 0=z from rfl];refine Ev.bind (Yp S z (by omega)) ?_
  by_cases hz:z ∈ S
  ·refine Ev.pos (decide_eq_true hz) ?_;exact ih _ (by rw [List.length_cons] at hm;omega) S T' (Nat.le_refl _) (h.old hz)
  ·refine Ev.neg (by simp [hz]) (Ev.pos (by omega) ?_);obtain ⟨hN,hM⟩:=h.new hz;have hmN:=hN.m;have key:=oh (r:=Kk bs f t) (n:=bs.length) (fun i=>Ev (fun k=>Xb.l1 k (S ++ [z]) (T' ++ wh bs z i) z bs (bs.length:Int) (i:Int) l0 p v s bs) (Kk bs f t)) ?_ ?_ 0 (by omega)
   ·rw [show wh bs z 0=[] from rfl,List.append_nil] at key;exact key
   ·refine Ev.step (fun k=>by rw [Xb.l1]) (Ev.neg (by omega) ?_);rw [← nK];exact ih _ (Nat.lt_of_lt_of_le hM hm) _ _ (Nat.le_refl _) hN
   ·intro i hi h2;refine Ev.step (fun k=>by rw [Xb.l1]) (Ev.pos (by omega) (Ev.pos (by omega) (Ev.pos (by omega) ?_)));refine Ev.bind (Ev.here (uq (Ea bs (i:Int)))) ?_;have htl:(De bs i).length ≤ 2:=Ti _;refine Ev.bind (Yp (De bs i) z (by omega)) ?_;rw [Yu] at h2;rw [Ve hi (by omega)]
    by_cases hc:z ∈ De bs i
    ·rw [if_pos hc,← List.append_assoc] at h2
     have hT:T'.length ≤ 1048576 * 1048577:=by
      refine Nat.le_trans ?_ (Nat.le_trans (Nat.le_add_left _ _) hmN);rw [List.length_append];exact Nat.le_add_right _ _
     have hU:=(ey bs z i).2.1;exact Ev.pos (decide_eq_true hc) (Ev.pos (by rw [List.length_append];omega) h2)
    ·rw [if_neg hc] at h2;exact Ev.neg (by simp [hc]) h2
theorem iH {l0:List Int} {p v s:Int} (hE:ze bs) (hf:f < bs.length) (ht:t < bs.length):Ev (fun k=>Xb.f k l0 p v s bs (f:Int) (t:Int)) (Kk bs f t):=by
 unfold Xb.f;exact rz hE _ _ _ (Nat.le_refl _) (eG.start hE.2.1 hf ht)
end
theorem Ev.all {α:Type} {F:Nat→Nat→Option α} {R:Nat→α}:∀ n:Nat,(∀ b,b < n→Ev (F b) (R b))→∃ K,∀ k,K ≤ k→∀ b,b < n→F b k=some (R b):=by
 intro n h
 induction n with
 | zero=>exact ⟨0,fun k _ b hb=>absurd hb (by omega)⟩
 | succ n ih =>
  obtain ⟨K,hK⟩:=ih (fun b hb=>h b (by omega));obtain ⟨K2,hK2⟩:=h n (by omega);refine ⟨max K K2,fun k hk b hb=>?_⟩
  by_cases e:b=n
  ·subst e;exact hK2 k (by omega)
  ·exact hK k (by omega) b (by omega)
open Classical in
theorem eN (l0:List Int) (p v s:Int) (bs:List Wd) (f t:Int) (h0:l0.length ≤ 1048576) (hl:bs.length ≤ 1048576) (ht:Rc bs ≤ 1048576) :
  ∃ r:List Int,Ev (fun k=>Ei.f k l0 p v s bs f t) r∧Ev (fun k=>Wh.f k l0 p v s bs f t) r∧r.length ≤ 1048576:=by
 by_cases hok:Ii l0 p v s bs=true
 case neg =>
  refine ⟨[],?_,?_,by simp⟩
  ·unfold Ei.f;have h:=Cw l0 p v s bs h0 hl ht;rw [if_neg hok] at h;exact Ev.bind h (Ev.pos (by simp) (Ev.neg (by simp) (Ev.now _)))
  ·unfold Wh.f;exact Ev.bind (Hr h0 hl ht) (Ev.neg hok (Ev.now _))
 have hE:=ym hok;have hB:=Cw l0 p v s bs h0 hl ht;rw [if_pos hok] at hB;have hBl:=PD bs
 by_cases hm:(f,t) ∈ fq bs
 case neg =>
  refine ⟨[],?_,?_,by simp⟩
  ·unfold Ei.f;exact Ev.bind hB (Ev.pos (by omega) (Ev.neg hm (Ev.now _)))
  ·unfold Wh.f;exact Ev.bind (Hr h0 hl ht) (Ev.pos hok (Ev.bind (Ev.here (Lw hE)) (Ev.pos (by omega) (Ev.neg hm (Ev.now _)))))
 obtain ⟨f',t',rfl,rfl,hf',ht'⟩:∃ f' t':Nat,f=(f':Int)∧t=(t':Int)∧f' < bs.length∧t' < bs.length:=by
  obtain ⟨b,hb,e1,e2,-⟩:=OD.1 hm;have h2:=hE.2.2 b hb t e2;exact ⟨b,t.toNat,e1,by omega,hb,by omega⟩
 refine ⟨Kk bs f' t',?_,?_,Nat.le_trans (KG _ _ _) hl⟩
 ·unfold Ei.f;refine Ev.bind hB (Ev.pos (by omega) (Ev.pos hm ?_));obtain ⟨K,hK⟩:=Ev.all (F:=fun b k=>fc.f k l0 p v s bs (b:Int)) (R:=fun b=>Me bs (b:Int)) bs.length (fun b hb=>yD h0 hl ht hok ⟨by omega,by omega⟩);refine ⟨K,fun k hk=>?_⟩
  show Zg.f k l0 p v s bs (f':Int) (t':Int)=some (Kk bs f' t')
  unfold Zg.f;rw [if_pos ⟨by omega,by omega,by omega,by omega,hl,fun b hb=>hK k hk b hb⟩,Int.toNat_natCast,Int.toNat_natCast]
 ·unfold Wh.f;exact Ev.bind (Hr h0 hl ht) (Ev.pos hok (Ev.bind (Ev.here (Lw hE)) (Ev.pos (by omega) (Ev.pos hm (iH hE hf' ht')))))
end Go.Proofs.Ytoomcmaifgkkfaa.P
end
section
namespace Go.Proofs.Ytoomcmaifgkkfaa.P
open Go.RowKit Go.Proofs.Aa.Db Go.Proofs.Aa.Tc Go.Proofs.Aa.ke
set_option linter.unusedVariables false
set_option linter.unusedSimpArgs false
theorem Az (x0 x1 x2 x3 x4 x5:Int) (x6:ByteArray) (w:World) :
  Calls Try.prog 140 #[.agg #[.int .i64 x0,.int .i64 x1,.int .i64 x2,.int .i64 x3,.int .i64 x4,.int .i64 x5,.string x6],.agg #[.int .i64 x0,.int .i64 x1,.int .i64 x2,.int .i64 x3,.int .i64 x4,.int .i64 x5,.string x6]] w fun e w'=>e = .returned (.bool true)∧Below w.heap.size w w':=by
 obtain ⟨W1,hW,hB,hx,hy⟩:=oq w (.cells #[.int .i64 x0,.int .i64 x1,.int .i64 x2,.int .i64 x3,.int .i64 x4,.int .i64 x5,.string x6] 122 (0,0)) (.cells #[.int .i64 x0,.int .i64 x1,.int .i64 x2,.int .i64 x3,.int .i64 x4,.int .i64 x5,.string x6] 122 (0,0));have HW:=aa.mk hW;have HB:=aa.mk hB;obtain ⟨a0,a1,a2,a3,a4,a5,a6⟩:=KD hx;obtain ⟨b0,b1,b2,b3,b4,b5,b6⟩:=KD hy;clear hW hB hx hy;go_enter Try.func140,Try.ntmps140
 go_upto_region 1 with (fail)
 rw [← HW.out];clear HW;go_wp2;go_ret;exact ⟨by simp,HB.out⟩
theorem Ax (A B:Option Addr) (c d:Nat) (l:List oc) (w:World) (hA:Kd.C Je w A l.length l) (hc:l.length ≤ c) (hB:Kd.C Je w B l.length l) (hd:l.length ≤ d) :
  Calls Try.prog 126 #[.slice A l.length c,.slice B l.length d] w fun e w'=>e = .returned (.bool true)∧Below w.heap.size w w':=by
 have hm:=hA.2.1;have HA:=aa.mk hA;have HB:=aa.mk hB;have bZ:=aa.mk (Below.refl w.heap.size w);clear hA hB;go_enter Try.func126,Try.ntmps126;go_wp2
 go_loopg [5] l.length (fun gg v5 wr=>∃ x:Int,v5 = .int .i64 x∧0 ≤ x∧x ≤ (l.length:Int)∧l.length - x.toNat ≤ gg∧aa (Below w.heap.size w wr))
 case atStart=>exact ⟨0,rfl,by omega,by omega,by omega,bZ⟩
 case round =>
  clear bZ;(try clear HW);obtain ⟨x,rfl,hx0,hx1,lD,HW⟩:=hrel
  by_cases hlt:x < (l.length:Int)
  ·have ek:decide (x < (l.length:Int))=true:=decide_eq_true hlt;obtain ⟨ad,e1,a0,a1,a2,a3,a4,a5,a6⟩:=Nv (Kd.Za HA.out HW.out) x hx0 hlt;obtain ⟨bd,e2,b0,b1,b2,b3,b4,b5,b6⟩:=Nv (Kd.Za HB.out HW.out) x hx0 hlt;subst e1;subst e2;have UX:=aa.mk (ja HW.out);have XN:=aa.mk (And.intro hx0 hlt)
   go_upto_region 6 with (fail)
   refine Yk (n:=10) (S:=fun w'=>w'.cell? (ad.add (x.toNat * 7))=some (.int .i64 ((ua l x).f0))∧w'.cell? ⟨(ad.add (x.toNat * 7)).block,(ad.add (x.toNat * 7)).off + 1,none⟩=some (.int .i64 ((ua l x).f1))∧w'.cell? ⟨(ad.add (x.toNat * 7)).block,(ad.add (x.toNat * 7)).off + 2,none⟩=some (.int .i64 ((ua l x).f2))∧w'.cell? ⟨(ad.add (x.toNat * 7)).block,(ad.add (x.toNat * 7)).off + 3,none⟩=some (.int .i64 ((ua l x).f3))∧w'.cell? ⟨(ad.add (x.toNat * 7)).block,(ad.add (x.toNat * 7)).off + 4,none⟩=some (.int .i64 ((ua l x).f4))∧w'.cell? ⟨(ad.add (x.toNat * 7)).block,(ad.add (x.toNat * 7)).off + 5,none⟩=some (.int .i64 ((ua l x).f5))∧w'.cell? ⟨(ad.add (x.toNat * 7)).block,(ad.add (x.toNat * 7)).off + 6,none⟩=some (.string ((ua l x).f6))∧w'.cell? (bd.add (x.toNat * 7))=some (.int .i64 ((ua l x).f0))∧w'.cell? ⟨(bd.add (x.toNat * 7)).block,(bd.add (x.toNat * 7)).off + 1,none⟩=some (.int .i64 ((ua l x).f1))∧w'.cell? ⟨(bd.add (x.toNat * 7)).block,(bd.add (x.toNat * 7)).off + 2,none⟩=some (.int .i64 ((ua l x).f2))∧w'.cell? ⟨(bd.add (x.toNat * 7)).block,(bd.add (x.toNat * 7)).off + 3,none⟩=some (.int .i64 ((ua l x).f3))∧w'.cell? ⟨(bd.add (x.toNat * 7)).block,(bd.add (x.toNat * 7)).off + 4,none⟩=some (.int .i64 ((ua l x).f4))∧w'.cell? ⟨(bd.add (x.toNat * 7)).block,(bd.add (x.toNat * 7)).off + 5,none⟩=some (.int .i64 ((ua l x).f5))∧w'.cell? ⟨(bd.add (x.toNat * 7)).block,(bd.add (x.toNat * 7)).off + 6,none⟩=some (.string ((ua l x).f6))) (ds:=[8]) #[false,false,false,false,false,false,false,false,false,false] (by kernel_rfl) rfl rfl ⟨a0,a1,a2,a3,a4,a5,a6,b0,b1,b2,b3,b4,b5,b6⟩ (fun hHeld=>?_);generalize wr.drew=wd at UX hHeld ⊢;refine od (i:=0) (N:=some 17) (v:=?_) (a':=?_) #[true,false,false,false,false,false,false,false,false,false] rfl rfl (by kernel_rfl) (fun _ _ _ h=>h) (Or.inl ⟨by rfl,?_⟩) ?_ ?_;rotate_left
   ·exact eaj
   rotate_left
   ·exact daj
   refine od (i:=1) (N:=some 18) (v:=?_) (a':=?_) #[true,true,false,false,false,false,false,false,false,false] rfl rfl (by kernel_rfl) (fun _ _ _ h=>h) (Or.inl ⟨by rfl,?_⟩) ?_ ?_;rotate_left
   ·exact eaj
   rotate_left
   ·exact daj
   refine od (i:=2) (N:=some 19) (v:=?_) (a':=?_) #[true,true,true,false,false,false,false,false,false,false] rfl rfl (by kernel_rfl) (fun _ _ _ h=>h) (Or.inl ⟨by rfl,?_⟩) ?_ ?_;rotate_left
   ·exact eaj
   rotate_left
   ·exact daj
   refine od (i:=4) (N:=some 21) (v:=?_) (a':=?_) #[true,true,true,false,true,false,false,false,false,false] rfl rfl (by kernel_rfl) (fun _ _ _ h=>h) (Or.inl ⟨by rfl,?_⟩) ?_ ?_;rotate_left
   ·exact eaj
   rotate_left
   ·exact daj
   refine od (i:=5) (N:=some 22) (v:=?_) (a':=?_) #[true,true,true,false,true,true,false,false,false,false] rfl rfl (by kernel_rfl) (fun _ _ _ h=>h) (Or.inl ⟨by rfl,?_⟩) ?_ ?_;rotate_left
   ·exact eaj
   rotate_left
   ·exact daj
   refine od (i:=6) (N:=some 23) (v:=?_) (a':=?_) #[true,true,true,false,true,true,true,false,false,false] rfl rfl (by kernel_rfl) (fun _ _ _ h=>h) (Or.inl ⟨by rfl,?_⟩) ?_ ?_;rotate_left
   ·exact eaj
   rotate_left
   ·exact daj
   refine Ph (i:=3) (N:=some 20) (v:=?_) (a':=?_) #[true,true,true,true,true,true,true,false,false,false] rfl rfl (by kernel_rfl) (fun _ _ _ h=>h) (Or.inl ⟨by rfl,?_⟩) hHeld ?_ ?_;rotate_left
   ·rintro w' ⟨s0,s1,s2,s3,s4,s5,s6,s7,s8,s9,mL,xZ,wZ,s13⟩;go_simp;with_reducible rfl
   rotate_left
   ·exact daj
   refine Ph (i:=7) (N:=some 24) (v:=?_) (a':=?_) #[true,true,true,true,true,true,true,true,false,false] rfl rfl (by kernel_rfl) (fun _ _ _ h=>h) (Or.inl ⟨by rfl,?_⟩) hHeld ?_ ?_;rotate_left
   ·rintro w' ⟨s0,s1,s2,s3,s4,s5,s6,s7,s8,s9,mL,xZ,wZ,s13⟩;go_simp;with_reducible rfl
   rotate_left
   ·exact daj
   refine Qu (i:=8) (N:=some 25) #[true,true,true,true,true,true,true,true,true,false] rfl rfl (by kernel_rfl) (by decide) (fun K hK=>?_);refine qt Try.func140 (by kernel_rfl) rfl #[.agg #[.int .i64 (ua l x).f0,.int .i64 (ua l x).f1,.int .i64 (ua l x).f2,.int .i64 (ua l x).f3,.int .i64 (ua l x).f4,.int .i64 (ua l x).f5,.string (ua l x).f6],.agg #[.int .i64 (ua l x).f0,.int .i64 (ua l x).f1,.int .i64 (ua l x).f2,.int .i64 (ua l x).f3,.int .i64 (ua l x).f4,.int .i64 (ua l x).f5,.string (ua l x).f6]] (by rfl) rfl rfl aak ?_;with_reducible refine (Az _ _ _ _ _ _ _ wd).mono ?_
   rintro e w2 ⟨rfl,hb⟩;refine ⟨_,rfl,?_⟩;have FU:=aa.mk (Ga UX.out hb);clear hb;refine hK.out _ _ ?_;clear hK K;refine Nf (a':=?_) ?_ ?_;rotate_left
   ·show Act.put _ (some 25) _=_
    exact daj
   refine od (i:=9) (N:=some 26) (v:=?_) (a':=?_) #[true,true,true,true,true,true,true,true,true,true] rfl rfl (by kernel_rfl) (fun _ _ _ h=>h) (Or.inl ⟨by rfl,?_⟩) ?_ ?_;rotate_left
   ·exact eaj
   rotate_left
   ·exact daj
   refine Yo (by kernel_rfl) ?_;clear hHeld a0 a1 a2 a3 a4 b0 b1 b2 b3 b4 a5 a6 b5 b6;go_wp2
   go_roundg (l.length - (x + 1).toNat)
   case measure=>have:=XN.out;omega
   case rel=>exact ⟨x + 1,rfl,by omega,by omega,by omega,FU⟩
  ·have ek:decide (x < (l.length:Int))=false:=decide_eq_false hlt;go_wp2;go_ret;exact ⟨rfl,HW.out⟩
theorem Bz (A B:Option Addr) (c d:Nat) (l:List oc) (x1 x2 x3 x4:Int) (w:World) (hA:Kd.C Je w A l.length l) (hc:l.length ≤ c) (hB:Kd.C Je w B l.length l) (hd:l.length ≤ d) :
  Calls Try.prog 108 #[.agg #[.slice A l.length c,.int .i64 x1,.int .i64 x2,.int .i64 x3,.int .i64 x4],.agg #[.slice B l.length d,.int .i64 x1,.int .i64 x2,.int .i64 x3,.int .i64 x4]] w fun e w'=>e = .returned (.bool true)∧Below w.heap.size w w':=by
 obtain ⟨W1,hW,hb,hx,hy⟩:=oq w (.cells #[.slice A l.length c,.int .i64 x1,.int .i64 x2,.int .i64 x3,.int .i64 x4] 83 (0,0)) (.cells #[.slice B l.length d,.int .i64 x1,.int .i64 x2,.int .i64 x3,.int .i64 x4] 83 (0,0));have HW:=aa.mk hW;have HB:=aa.mk hb;have HC:=aa.mk (Ax A B c d l W1 (Kd.Za hA hb) hc (Kd.Za hB hb) hd);have HX:=aa.mk hx;have HY:=aa.mk hy;obtain ⟨a0,-,-,-,-⟩:=ig hx;obtain ⟨b0,-,-,-,-⟩:=ig hy;clear hW hb hx hy hA hB;go_enter Try.func108,Try.ntmps108
 go_upto_region 1 with (fail)
 rw [← HW.out];clear HW
 go_upto_region 3 with (first|(go_at_call 126;(with_reducible refine HC.out.mono ?_);rintro e w2 ⟨rfl,hb⟩;have Li:=aa.mk (Ga HB.out hb);have AH:=aa.mk (Ta HX.out hb);have O_:=aa.mk (Ta HY.out hb);clear hb a0 b0))
 obtain ⟨-,a1,a2,a3,a4⟩:=ig AH.out;obtain ⟨-,b1,b2,b3,b4⟩:=ig O_.out;go_wp2;go_ret;exact ⟨by simp,Li.out⟩
theorem Bx (A B:Option Addr) (c d:Nat) (l:List Wd) (w:World) (hA:Kd.C Km w A l.length l) (hc:l.length ≤ c) (hB:Kd.C Km w B l.length l) (hd:l.length ≤ d) :
  Calls Try.prog 80 #[.slice A l.length c,.slice B l.length d] w fun e w'=>e = .returned (.bool true)∧Below w.heap.size w w':=by
 have hm:=hA.2.1;have HA:=aa.mk hA;have HB:=aa.mk hB;have bZ:=aa.mk (Below.refl w.heap.size w);clear hA hB;go_enter Try.func80,Try.ntmps80;go_wp2
 go_loopg [5] l.length (fun gg v5 wr=>∃ x:Int,v5 = .int .i64 x∧0 ≤ x∧x ≤ (l.length:Int)∧l.length - x.toNat ≤ gg∧aa (Below w.heap.size w wr))
 case atStart=>exact ⟨0,rfl,by omega,by omega,by omega,bZ⟩
 case round =>
  clear bZ;(try clear HW);obtain ⟨x,rfl,hx0,hx1,lD,HW⟩:=hrel
  by_cases hlt:x < (l.length:Int)
  ·have ek:decide (x < (l.length:Int))=true:=decide_eq_true hlt;obtain ⟨ad,Ac,cc,e1,a0,a1,a2,a3,a4,acl,acC⟩:=Vj (Kd.Za HA.out HW.out) x hx0 hlt;obtain ⟨bd,Bc,dc,e2,b0,b1,b2,b3,b4,bcl,bcC⟩:=Vj (Kd.Za HB.out HW.out) x hx0 hlt;subst e1;subst e2;have UX:=aa.mk (ja HW.out);have XN:=aa.mk (And.intro hx0 hlt);have vL:=aa.mk (And.intro acl bcl);have HCA:=aa.mk (show Kd.C Je wr.drew Ac _ _ from acC);have HCB:=aa.mk (show Kd.C Je wr.drew Bc _ _ from bcC);clear acl bcl acC bcC
   go_upto_region 6 with (fail)
   refine Yk (n:=10) (S:=fun w'=>w'.cell? (ad.add (x.toNat * 5))=some (.slice Ac ((Ea l x).f0).length cc)∧w'.cell? ⟨(ad.add (x.toNat * 5)).block,(ad.add (x.toNat * 5)).off + 1,none⟩=some (.int .i64 ((Ea l x).f1))∧w'.cell? ⟨(ad.add (x.toNat * 5)).block,(ad.add (x.toNat * 5)).off + 2,none⟩=some (.int .i64 ((Ea l x).f2))∧w'.cell? ⟨(ad.add (x.toNat * 5)).block,(ad.add (x.toNat * 5)).off + 3,none⟩=some (.int .i64 ((Ea l x).f3))∧w'.cell? ⟨(ad.add (x.toNat * 5)).block,(ad.add (x.toNat * 5)).off + 4,none⟩=some (.int .i64 ((Ea l x).f4))∧w'.cell? (bd.add (x.toNat * 5))=some (.slice Bc ((Ea l x).f0).length dc)∧w'.cell? ⟨(bd.add (x.toNat * 5)).block,(bd.add (x.toNat * 5)).off + 1,none⟩=some (.int .i64 ((Ea l x).f1))∧w'.cell? ⟨(bd.add (x.toNat * 5)).block,(bd.add (x.toNat * 5)).off + 2,none⟩=some (.int .i64 ((Ea l x).f2))∧w'.cell? ⟨(bd.add (x.toNat * 5)).block,(bd.add (x.toNat * 5)).off + 3,none⟩=some (.int .i64 ((Ea l x).f3))∧w'.cell? ⟨(bd.add (x.toNat * 5)).block,(bd.add (x.toNat * 5)).off + 4,none⟩=some (.int .i64 ((Ea l x).f4))) (ds:=[8]) #[false,false,false,false,false,false,false,false,false,false] (by kernel_rfl) rfl rfl ⟨a0,a1,a2,a3,a4,b0,b1,b2,b3,b4⟩ (fun hHeld=>?_);generalize wr.drew=wd at UX HCA HCB hHeld ⊢;refine od (i:=0) (N:=some 17) (v:=?_) (a':=?_) #[true,false,false,false,false,false,false,false,false,false] rfl rfl (by kernel_rfl) (fun _ _ _ h=>h) (Or.inl ⟨by rfl,?_⟩) ?_ ?_;rotate_left
   ·exact eaj
   rotate_left
   ·exact daj
   refine od (i:=1) (N:=some 18) (v:=?_) (a':=?_) #[true,true,false,false,false,false,false,false,false,false] rfl rfl (by kernel_rfl) (fun _ _ _ h=>h) (Or.inl ⟨by rfl,?_⟩) ?_ ?_;rotate_left
   ·exact eaj
   rotate_left
   ·exact daj
   refine od (i:=2) (N:=some 19) (v:=?_) (a':=?_) #[true,true,true,false,false,false,false,false,false,false] rfl rfl (by kernel_rfl) (fun _ _ _ h=>h) (Or.inl ⟨by rfl,?_⟩) ?_ ?_;rotate_left
   ·exact eaj
   rotate_left
   ·exact daj
   refine od (i:=4) (N:=some 21) (v:=?_) (a':=?_) #[true,true,true,false,true,false,false,false,false,false] rfl rfl (by kernel_rfl) (fun _ _ _ h=>h) (Or.inl ⟨by rfl,?_⟩) ?_ ?_;rotate_left
   ·exact eaj
   rotate_left
   ·exact daj
   refine od (i:=5) (N:=some 22) (v:=?_) (a':=?_) #[true,true,true,false,true,true,false,false,false,false] rfl rfl (by kernel_rfl) (fun _ _ _ h=>h) (Or.inl ⟨by rfl,?_⟩) ?_ ?_;rotate_left
   ·exact eaj
   rotate_left
   ·exact daj
   refine od (i:=6) (N:=some 23) (v:=?_) (a':=?_) #[true,true,true,false,true,true,true,false,false,false] rfl rfl (by kernel_rfl) (fun _ _ _ h=>h) (Or.inl ⟨by rfl,?_⟩) ?_ ?_;rotate_left
   ·exact eaj
   rotate_left
   ·exact daj
   refine Ph (i:=3) (N:=some 20) (v:=?_) (a':=?_) #[true,true,true,true,true,true,true,false,false,false] rfl rfl (by kernel_rfl) (fun _ _ _ h=>h) (Or.inl ⟨by rfl,?_⟩) hHeld ?_ ?_;rotate_left
   ·exact iaj
   rotate_left
   ·exact daj
   refine Ph (i:=7) (N:=some 24) (v:=?_) (a':=?_) #[true,true,true,true,true,true,true,true,false,false] rfl rfl (by kernel_rfl) (fun _ _ _ h=>h) (Or.inl ⟨by rfl,?_⟩) hHeld ?_ ?_;rotate_left
   ·exact iaj
   rotate_left
   ·exact daj
   refine Qu (i:=8) (N:=some 25) #[true,true,true,true,true,true,true,true,true,false] rfl rfl (by kernel_rfl) (by decide) (fun K hK=>?_);refine qt Try.func108 (by kernel_rfl) rfl #[.agg #[.slice Ac (Ea l x).f0.length cc,.int .i64 (Ea l x).f1,.int .i64 (Ea l x).f2,.int .i64 (Ea l x).f3,.int .i64 (Ea l x).f4],.agg #[.slice Bc (Ea l x).f0.length dc,.int .i64 (Ea l x).f1,.int .i64 (Ea l x).f2,.int .i64 (Ea l x).f3,.int .i64 (Ea l x).f4]] (by rfl) rfl rfl aak ?_;with_reducible refine (Bz Ac Bc cc dc _ _ _ _ _ wd HCA.out vL.out.1 HCB.out vL.out.2).mono ?_
   rintro e w2 ⟨rfl,hb⟩;refine ⟨_,rfl,?_⟩;have FU:=aa.mk (Ga UX.out hb);clear hb;refine hK.out _ _ ?_;clear hK K;refine Nf (a':=?_) ?_ ?_;rotate_left
   ·show Act.put _ (some 25) _=_
    exact daj
   refine od (i:=9) (N:=some 26) (v:=?_) (a':=?_) #[true,true,true,true,true,true,true,true,true,true] rfl rfl (by kernel_rfl) (fun _ _ _ h=>h) (Or.inl ⟨by rfl,?_⟩) ?_ ?_;rotate_left
   ·exact eaj
   rotate_left
   ·exact daj
   refine Yo (by kernel_rfl) ?_;clear hHeld a0 a1 a2 a3 a4 b0 b1 b2 b3 b4;go_wp2
   go_roundg (l.length - (x + 1).toNat)
   case measure=>have:=XN.out;omega
   case rel=>exact ⟨x + 1,rfl,by omega,by omega,by omega,FU⟩
  ·have ek:decide (x < (l.length:Int))=false:=decide_eq_false hlt;go_wp2;go_ret;exact ⟨rfl,HW.out⟩
noncomputable def mh.f (_:Nat) (l0:List Int) (p v s:Int) (l4:List Wd) (m0:List Int) (q u t:Int) (m4:List Wd):Option Bool:=open Classical in if l0=m0∧p=q∧v=u∧s=t∧l4=m4 then some true else none
theorem mh.calls (k:Nat) (zb:Option Addr) (yb:Nat) (Ma:List Int) (Oa:Int) (Pa:Int) (Na:Int) (Ob:Option Addr) (Fb:Nat) (oa:List Wd) (xC:Option Addr) (VB:Nat) (Er:List Int) (Rz:Int) (Qz:Int) (Pz:Int) (rO:Option Addr) (sN:Nat) (LG:List Wd) (r:Bool) (w:World) (qd:Kd.C (Kd.int .i64) w zb Ma.length Ma) (Ad:Ma.length ≤ yb) (fe:Kd.C Km w Ob oa.length oa) (Fe:oa.length ≤ Fb) (VE:Kd.C (Kd.int .i64) w xC Er.length Er) (FJ:Er.length ≤ VB) (JO:Kd.C Km w rO LG.length LG) (PV:LG.length ≤ sN) (h:mh.f k Ma Oa Pa Na oa Er Rz Qz Pz LG=some r) :
  Calls Try.prog 29 #[.agg #[.slice zb Ma.length yb,.int .i64 Oa,.int .i64 Pa,.int .i64 Na,.slice Ob oa.length Fb],.agg #[.slice xC Er.length VB,.int .i64 Rz,.int .i64 Qz,.int .i64 Pz,.slice rO LG.length sN]] w fun e w'=>e = .returned (.bool r)∧Below w.heap.size w w':=by
 unfold mh.f at h
 by_cases hq:Ma=Er∧Oa=Rz∧Pa=Qz∧Na=Pz∧oa=LG
 case neg=>rw [if_neg hq] at h;cases h
 rw [if_pos hq] at h;cases h;obtain ⟨rfl,rfl,rfl,rfl,rfl⟩:=hq;obtain ⟨W1,hW,hb,hx,hy⟩:=oq w (.cells #[.slice zb Ma.length yb,.int .i64 Oa,.int .i64 Pa,.int .i64 Na,.slice Ob oa.length Fb] 45 (0,0)) (.cells #[.slice xC Ma.length VB,.int .i64 Oa,.int .i64 Pa,.int .i64 Na,.slice rO oa.length sN] 45 (0,0));obtain ⟨ko,FV⟩:=Ev.rounds (Vx Ma qd.2.1);have HC:=aa.mk (Ud.calls ko zb yb Ma xC VB Ma true W1 (Kd.Za qd hb) Ad (Kd.Za VE hb) FJ FV);have HD:=aa.mk (fun (w2:World) (h2:Below W1.heap.size W1 w2)=>Bx Ob rO Fb sN oa w2 (Kd.Za fe (Ga hb h2)) Fe (Kd.Za JO (Ga hb h2)) PV);have HW:=aa.mk hW;have HB:=aa.mk hb;have HX:=aa.mk hx;have HY:=aa.mk hy;obtain ⟨a0,-,-,-,-⟩:=ig hx;obtain ⟨b0,-,-,-,-⟩:=ig hy;clear hW hb hx hy qd fe VE JO FV;go_enter Try.func29,Try.ntmps29
 go_upto_region 1 with (fail)
 rw [← HW.out];clear HW
 go_upto_region 3 with (first|(go_at_call 17;(with_reducible refine HC.out.mono ?_);rintro e w2 ⟨rfl,hd⟩;have hb:=hd.below;have Li:=aa.mk (Ga HB.out hb);have AH:=aa.mk (Ta HX.out hb);have O_:=aa.mk (Ta HY.out hb);have HD2:=aa.mk (HD.out w2 hb);clear hb hd a0 b0))
 obtain ⟨-,a1,a2,a3,a4⟩:=ig AH.out;obtain ⟨-,b1,b2,b3,b4⟩:=ig O_.out;go_wp2_with (first|(go_at_call 80;(with_reducible refine HD2.out.mono ?_);rintro e w3 ⟨rfl,hb⟩;have vo:=aa.mk (Ga Li.out hb);clear hb));go_ret;exact ⟨rfl,vo.out⟩
theorem xD (x0:List Int) (x1 x2 x3:Int) (x4:List Wd) (h0:x0.length ≤ 9223372036854775807) (hl:x4.length ≤ 9223372036854775807) (hb:∀ x ∈ x4,x.f0.length ≤ 9223372036854775807):Ev (fun k=>mh.f k x0 x1 x2 x3 x4 x0 x1 x2 x3 x4) true:=by
 refine ⟨0,fun k _=>?_⟩;unfold mh.f;rw [if_pos ⟨rfl,rfl,rfl,rfl,rfl⟩]
attribute [local go_sem] fh bh Zh Yh mg lg dh ah
def nc.l0:Nat→Int→ByteArray→Option (ByteArray)
 | 0,_,_=>none
 | k + 1,x0,x3=>if x0 > 0 then ((some (([(wrap64 (48 + (Int.tmod x0 10))) % 256]:List Int):List Int)).bind fun Re=>(if (strOfNums Re).size + x3.size ≤ 9223372036854775807 then (nc.l0 k (wrap64 (Int.tdiv x0 10)) ((strOfNums Re) ++ x3)) else (none))) else (if 1 + x3.size ≤ 9223372036854775807 then (some ((⟨#[109]⟩:ByteArray) ++ x3)) else (none))
def nc.f (k:Nat) (a0:Int):Option (ByteArray):=if a0 ≤ 0 then (some (⟨#[109,48]⟩:ByteArray)) else (nc.l0 k a0 (⟨#[]⟩:ByteArray))
theorem nc.calls (k:Nat) (a0:Int) (r:ByteArray) (w:World) (h:nc.f k a0=some r) :
  Calls Try.prog 127 #[.int .i64 a0] w fun e w'=>e = .returned (.string r)∧Below w.heap.size w w':=by
 have HB:=aa.mk (Below.refl w.heap.size w);have H:(if a0 ≤ 0 then (some (⟨#[109,48]⟩:ByteArray)) else (nc.l0 k a0 (⟨#[]⟩:ByteArray)))=some r:=h;clear h
 by_cases c2:a0 ≤ 0
 ·rw [if_pos c2] at H;have Mo:decide (a0 ≤ 0)=true:=decide_eq_true c2;clear c2;obtain rfl:=Option.some.inj H;go_enter Try.func127,Try.ntmps127;go_wp2;go_ret;exact ⟨taj,qaj⟩
 ·rw [if_neg c2] at H;have Mo:decide (a0 ≤ 0)=false:=decide_eq_false c2;clear c2;have H':=aa.mk H;clear H;go_enter Try.func127,Try.ntmps127;go_wp2
  go_loopg [0,3] k (fun kq v0 v3 w'=>∃ (Wc:Int) (uc:ByteArray),v0 = .int .i64 Wc∧v3 = .string uc∧aa (nc.l0 kq Wc uc=some r)∧aa (kq ≤ k)∧aa (Below w.heap.size w w'))
  case atStart=>exact ⟨(a0),((⟨#[]⟩:ByteArray)),raj,raj,H',⟨Nat.le_refl _⟩,⟨qaj⟩⟩
  case round =>
   clear H'
   try clear c1
   try clear c2
   try clear Mo
   try clear p2
   (try clear HA);(try clear Kf);(try clear HB);obtain ⟨Wc,uc,rfl,rfl,HA,Kf,HB⟩:=hrel;cases gk with
   | zero=>exact absurd HA.out (by simp [nc.l0])
   | succ k1 =>
    have H:=HA.out;clear HA;simp only [nc.l0] at H
    by_cases c3:Wc > 0
    ·rw [if_pos c3] at H;have Ah:decide (0 < Wc)=true:=decide_eq_true c3;clear c3;obtain ⟨Re,Ye⟩:∃ y_:List Int,y_=(([(wrap64 (48 + (Int.tmod Wc 10))) % 256]:List Int)):=⟨_,rfl⟩;replace H:(if (strOfNums Re).size + uc.size ≤ 9223372036854775807 then (nc.l0 k1 (wrap64 (Int.tdiv Wc 10)) ((strOfNums Re) ++ uc)) else (none))=some r:=by first|(rw [Ye];with_reducible exact H)|(have Qc:=(Option.bind_some _ _).symm.trans H;rw [Ye];with_reducible exact Qc)|(have Qc:=(Option.bind_some _ _).symm.trans H;with_reducible exact Qc)|with_reducible exact H|(rw [Ye];exact H)|exact H
     have Zi:=aa.mk Ye;clear Ye
     by_cases c4:(strOfNums Re).size + uc.size ≤ 9223372036854775807
     ·rw [if_pos c4] at H;have zm:=eq_true c4;have Hag:decide ((strOfNums Re).size + uc.size ≤ 9223372036854775807)=true:=decide_eq_true c4
      try have Gag:(9223372036854775807 < (strOfNums Re).size + uc.size)=False:=eq_false (Nat.not_lt.2 c4)
      have H':=aa.mk H;clear H;go_wp2_with (first|((with_reducible refine Qb (N:=12) rfl ?_);refine Kd.Yj (Kd.int .u8) _ 5 ?hg (N:=12) ?hd (xs:=([(wrap64 (48 + (Int.tmod Wc 10))) % 256]:List Int)) (inner:=[.int .u8 ((wrap64 (48 + (Int.tmod Wc 10))) % 256)]) (ok:=fun _=>True) (Yg:=fun _=>True) ?hr ?hp (fun _ hk=>hk) trivial (Below.refl _ _) (Nat.le_refl _) (by simp) ?_;(case hd|hg=>rfl);(case hr=>exact jaj);(case hp=>exact (Pc.one (show Kd.M (Kd.int .u8) _ _ _ ((wrap64 (48 + (Int.tmod Wc 10))) % 256) [.int .u8 ((wrap64 (48 + (Int.tmod Wc 10))) % 256)] from rfl) (Pc.none _ _)));intro yA w5 Us hb Ll Pe;clear Ll Pe;(first|rw [← Zi.out] at Us|(simp only [Int.reduceToNat] at Us;rw [← Zi.out] at Us));have Pb:=aa.mk (Kd.Xc Us (Qa maj));have Rb:=aa.mk (Ga maj hb);clear HB;have uo:=Pb;have HB:=Rb;clear Pb Rb hb Us;have Xaf:=aD (P:=Try.prog) Try.underlying148 Try.underlying5 Try.underlying9 (Kd.Yr uo.out)))
      go_roundg k1
      case measure=>have:=Kf.out;omega
      case rel=>exact ⟨(wrap64 (Int.tdiv Wc 10)),((strOfNums Re) ++ uc),raj,raj,H',⟨by have:=Kf.out;omega⟩,⟨qaj⟩⟩
     ·rw [if_neg c4] at H;exact absurd H (by simp)
    ·rw [if_neg c3] at H;have Ah:decide (0 < Wc)=false:=decide_eq_false c3;clear c3
     by_cases c8:1 + uc.size ≤ 9223372036854775807
     ·rw [if_pos c8] at H;have nT:=eq_true c8;have Fag:decide (1 + uc.size ≤ 9223372036854775807)=true:=decide_eq_true c8
      try have Eag:(9223372036854775807 < 1 + uc.size)=False:=eq_false (Nat.not_lt.2 c8)
      obtain rfl:=Option.some.inj H;go_wp2;go_ret;exact ⟨taj,qaj⟩
     ·rw [if_neg c8] at H;exact absurd H (by simp)
def Zb.l0:Nat→List (oc)→Int→Int→Option (Int × (List (oc)))
 | 0,_,_,_=>none
 | k + 1,x0,x1,x5=>if x5 < (x0.length:Int) then (if 0 ≤ x5 then ((some (x0.set (x5:Int).toNat (⟨x1,(ua x0 x5).f1,(ua x0 x5).f2,(ua x0 x5).f3,(ua x0 x5).f4,(ua x0 x5).f5,(ua x0 x5).f6⟩:oc):List (oc))).bind fun Re=>((some (Re.set (x5:Int).toNat (⟨(ua Re x5).f0,wrap64 (x1 + 1),(ua Re x5).f2,(ua Re x5).f3,(ua Re x5).f4,(ua Re x5).f5,(ua Re x5).f6⟩:oc):List (oc))).bind fun yd=>((some (yd.set (x5:Int).toNat (⟨(ua yd x5).f0,(ua yd x5).f1,wrap64 ((wrap64 (x1 + 1)) + 1),(ua yd x5).f3,(ua yd x5).f4,(ua yd x5).f5,(ua yd x5).f6⟩:oc):List (oc))).bind fun Ef=>((some (Ef.set (x5:Int).toNat (⟨(ua Ef x5).f0,(ua Ef x5).f1,(ua Ef x5).f2,wrap64 ((wrap64 ((wrap64 (x1 + 1)) + 1)) + 1),(ua Ef x5).f4,(ua Ef x5).f5,(ua Ef x5).f6⟩:oc):List (oc))).bind fun Qe=>((some (Qe.set (x5:Int).toNat (⟨(ua Qe x5).f0,(ua Qe x5).f1,(ua Qe x5).f2,(ua Qe x5).f3,wrap64 ((wrap64 ((wrap64 ((wrap64 (x1 + 1)) + 1)) + 1)) + 1),(ua Qe x5).f5,(ua Qe x5).f6⟩:oc):List (oc))).bind fun Pd=>((some (Pd.set (x5:Int).toNat (⟨(ua Pd x5).f0,(ua Pd x5).f1,(ua Pd x5).f2,(ua Pd x5).f3,(ua Pd x5).f4,wrap64 ((wrap64 ((wrap64 ((wrap64 ((wrap64 (x1 + 1)) + 1)) + 1)) + 1)) + 1),(ua Pd x5).f6⟩:oc):List (oc))).bind fun Ae=>((nc.f k (wrap64 ((wrap64 ((wrap64 ((wrap64 ((wrap64 ((wrap64 (x1 + 1)) + 1)) + 1)) + 1)) + 1)) + 1))).bind fun t107=>(Zb.l0 k (Ae.set (x5:Int).toNat (⟨(ua Ae x5).f0,(ua Ae x5).f1,(ua Ae x5).f2,(ua Ae x5).f3,(ua Ae x5).f4,(ua Ae x5).f5,t107⟩:oc)) (wrap64 ((wrap64 ((wrap64 ((wrap64 ((wrap64 ((wrap64 ((wrap64 (x1 + 1)) + 1)) + 1)) + 1)) + 1)) + 1)) + 1)) (wrap64 (x5 + 1)))))))))) else (none)) else (some (x1,x0))
def Zb.f (k:Nat) (l0:List (oc)) (a1:Int):Option (Int × (List (oc))):=Zb.l0 k l0 a1 0
theorem Zb.calls (k:Nat) (Oi:Nat→Prop) (Xe:Value) (l0:List (oc)) (a1:Int) (r1:Int) (r2:List (oc)) (w0 w:World) (hB:Below w0.heap.size w0 w) (Rg:Kd.R Je 122 w w0.heap.size Oi Xe l0) (h:Zb.f k l0 a1=some (r1,r2)) :
  Calls Try.prog 111 #[Xe,.int .i64 a1] w fun e w'=>e = .returned (.int .i64 r1)∧Kd.R Je 122 w' w0.heap.size (fun k_=>(Oi k_ ∨ w.heap.size ≤ k_)) Xe r2∧Below w0.heap.size w0 w'∧Kept w w' (fun k_=>Oi k_):=by
 have LU:=aa.mk (show Kd.R Je 122 w w0.heap.size (fun k_=>(Oi k_ ∨ w.heap.size ≤ k_)) Xe l0 from Kd.Eb Rg (fun k_ hk=>(.inl hk)));have HK:=aa.mk (Kept.refl w (fun k_=>Oi k_));have S_:=aa.mk hB.size;have HB:=aa.mk hB;clear hB;have H:(Zb.l0 k l0 a1 0)=some (r1,r2):=h;clear h;have H':=aa.mk H;clear H;go_enter Try.func111,Try.ntmps111;go_wp2
 go_loopg [1,5] k (fun kq v1 v5 w'=>∃ (Wc:List (oc)) (Md:Int) (Da:Int),v1 = .int .i64 Md∧v5 = .int .i64 Da∧aa (Zb.l0 kq Wc Md Da=some (r1,r2))∧aa (kq ≤ k)∧aa (Kd.R Je 122 w' w0.heap.size (fun k_=>(Oi k_ ∨ w.heap.size ≤ k_)) Xe Wc)∧aa (Kept w w' (fun k_=>Oi k_))∧aa (Below w0.heap.size w0 w'))
 case atStart=>exact ⟨(l0),(a1),(0),raj,raj,H',⟨Nat.le_refl _⟩,⟨by (with_reducible repeat (first|apply Kd.Ia|apply Kd.La|apply Kd.Ra));exact LU.out⟩,⟨Kaj⟩,⟨qaj⟩⟩
 case round =>
  clear H'
  try clear c1
  try clear p2
  (try clear HA);(try clear Kf);(try clear ee);(try clear HK);(try clear HB);obtain ⟨Wc,Md,Da,rfl,rfl,HA,Kf,ee,HK,HB⟩:=hrel;cases gk with
  | zero=>exact absurd HA.out (by simp [Zb.l0])
  | succ k1 =>
   have H:=HA.out;clear HA;simp only [Zb.l0] at H
   by_cases c3:Da < (Wc.length:Int)
   ·rw [if_pos c3] at H;have Ah:decide (Da < (Wc.length:Int))=true:=decide_eq_true c3;clear c3
    by_cases c4:0 ≤ Da
    ·rw [if_pos c4] at H;have zm:decide (0 ≤ Da)=true:=decide_eq_true c4;clear c4;obtain ⟨Re,Ye⟩:∃ y_:List (oc),y_=(Wc.set (Da:Int).toNat (⟨Md,(ua Wc Da).f1,(ua Wc Da).f2,(ua Wc Da).f3,(ua Wc Da).f4,(ua Wc Da).f5,(ua Wc Da).f6⟩:oc)):=⟨_,rfl⟩;replace H:((some (Re.set (Da:Int).toNat (⟨(ua Re Da).f0,wrap64 (Md + 1),(ua Re Da).f2,(ua Re Da).f3,(ua Re Da).f4,(ua Re Da).f5,(ua Re Da).f6⟩:oc):List (oc))).bind fun yd=>((some (yd.set (Da:Int).toNat (⟨(ua yd Da).f0,(ua yd Da).f1,wrap64 ((wrap64 (Md + 1)) + 1),(ua yd Da).f3,(ua yd Da).f4,(ua yd Da).f5,(ua yd Da).f6⟩:oc):List (oc))).bind fun Ef=>((some (Ef.set (Da:Int).toNat (⟨(ua Ef Da).f0,(ua Ef Da).f1,(ua Ef Da).f2,wrap64 ((wrap64 ((wrap64 (Md + 1)) + 1)) + 1),(ua Ef Da).f4,(ua Ef Da).f5,(ua Ef Da).f6⟩:oc):List (oc))).bind fun Qe=>((some (Qe.set (Da:Int).toNat (⟨(ua Qe Da).f0,(ua Qe Da).f1,(ua Qe Da).f2,(ua Qe Da).f3,wrap64 ((wrap64 ((wrap64 ((wrap64 (Md + 1)) + 1)) + 1)) + 1),(ua Qe Da).f5,(ua Qe Da).f6⟩:oc):List (oc))).bind fun Pd=>((some (Pd.set (Da:Int).toNat (⟨(ua Pd Da).f0,(ua Pd Da).f1,(ua Pd Da).f2,(ua Pd Da).f3,(ua Pd Da).f4,wrap64 ((wrap64 ((wrap64 ((wrap64 ((wrap64 (Md + 1)) + 1)) + 1)) + 1)) + 1),(ua Pd Da).f6⟩:oc):List (oc))).bind fun Ae=>((nc.f k1 (wrap64 ((wrap64 ((wrap64 ((wrap64 ((wrap64 ((wrap64 (Md + 1)) + 1)) + 1)) + 1)) + 1)) + 1))).bind fun t107=>(Zb.l0 k1 (Ae.set (Da:Int).toNat (⟨(ua Ae Da).f0,(ua Ae Da).f1,(ua Ae Da).f2,(ua Ae Da).f3,(ua Ae Da).f4,(ua Ae Da).f5,t107⟩:oc)) (wrap64 ((wrap64 ((wrap64 ((wrap64 ((wrap64 ((wrap64 ((wrap64 (Md + 1)) + 1)) + 1)) + 1)) + 1)) + 1)) + 1)) (wrap64 (Da + 1)))))))))=some (r1,r2):=by first|(rw [Ye];with_reducible exact H)|(have Qc:=(Option.bind_some _ _).symm.trans H;rw [Ye];with_reducible exact Qc)|(have Qc:=(Option.bind_some _ _).symm.trans H;with_reducible exact Qc)|with_reducible exact H|(rw [Ye];exact H)|exact H
     have Zi:=aa.mk Ye;clear Ye;obtain ⟨yd,Ee⟩:∃ y_:List (oc),y_=(Re.set (Da:Int).toNat (⟨(ua Re Da).f0,wrap64 (Md + 1),(ua Re Da).f2,(ua Re Da).f3,(ua Re Da).f4,(ua Re Da).f5,(ua Re Da).f6⟩:oc)):=⟨_,rfl⟩;replace H:((some (yd.set (Da:Int).toNat (⟨(ua yd Da).f0,(ua yd Da).f1,wrap64 ((wrap64 (Md + 1)) + 1),(ua yd Da).f3,(ua yd Da).f4,(ua yd Da).f5,(ua yd Da).f6⟩:oc):List (oc))).bind fun Ef=>((some (Ef.set (Da:Int).toNat (⟨(ua Ef Da).f0,(ua Ef Da).f1,(ua Ef Da).f2,wrap64 ((wrap64 ((wrap64 (Md + 1)) + 1)) + 1),(ua Ef Da).f4,(ua Ef Da).f5,(ua Ef Da).f6⟩:oc):List (oc))).bind fun Qe=>((some (Qe.set (Da:Int).toNat (⟨(ua Qe Da).f0,(ua Qe Da).f1,(ua Qe Da).f2,(ua Qe Da).f3,wrap64 ((wrap64 ((wrap64 ((wrap64 (Md + 1)) + 1)) + 1)) + 1),(ua Qe Da).f5,(ua Qe Da).f6⟩:oc):List (oc))).bind fun Pd=>((some (Pd.set (Da:Int).toNat (⟨(ua Pd Da).f0,(ua Pd Da).f1,(ua Pd Da).f2,(ua Pd Da).f3,(ua Pd Da).f4,wrap64 ((wrap64 ((wrap64 ((wrap64 ((wrap64 (Md + 1)) + 1)) + 1)) + 1)) + 1),(ua Pd Da).f6⟩:oc):List (oc))).bind fun Ae=>((nc.f k1 (wrap64 ((wrap64 ((wrap64 ((wrap64 ((wrap64 ((wrap64 (Md + 1)) + 1)) + 1)) + 1)) + 1)) + 1))).bind fun t107=>(Zb.l0 k1 (Ae.set (Da:Int).toNat (⟨(ua Ae Da).f0,(ua Ae Da).f1,(ua Ae Da).f2,(ua Ae Da).f3,(ua Ae Da).f4,(ua Ae Da).f5,t107⟩:oc)) (wrap64 ((wrap64 ((wrap64 ((wrap64 ((wrap64 ((wrap64 ((wrap64 (Md + 1)) + 1)) + 1)) + 1)) + 1)) + 1)) + 1)) (wrap64 (Da + 1))))))))=some (r1,r2):=by first|(rw [Ee];with_reducible exact H)|(have Qc:=(Option.bind_some _ _).symm.trans H;rw [Ee];with_reducible exact Qc)|(have Qc:=(Option.bind_some _ _).symm.trans H;with_reducible exact Qc)|with_reducible exact H|(rw [Ee];exact H)|exact H
     have Ch:=aa.mk Ee;clear Ee;obtain ⟨Ef,Tp⟩:∃ y_:List (oc),y_=(yd.set (Da:Int).toNat (⟨(ua yd Da).f0,(ua yd Da).f1,wrap64 ((wrap64 (Md + 1)) + 1),(ua yd Da).f3,(ua yd Da).f4,(ua yd Da).f5,(ua yd Da).f6⟩:oc)):=⟨_,rfl⟩;replace H:((some (Ef.set (Da:Int).toNat (⟨(ua Ef Da).f0,(ua Ef Da).f1,(ua Ef Da).f2,wrap64 ((wrap64 ((wrap64 (Md + 1)) + 1)) + 1),(ua Ef Da).f4,(ua Ef Da).f5,(ua Ef Da).f6⟩:oc):List (oc))).bind fun Qe=>((some (Qe.set (Da:Int).toNat (⟨(ua Qe Da).f0,(ua Qe Da).f1,(ua Qe Da).f2,(ua Qe Da).f3,wrap64 ((wrap64 ((wrap64 ((wrap64 (Md + 1)) + 1)) + 1)) + 1),(ua Qe Da).f5,(ua Qe Da).f6⟩:oc):List (oc))).bind fun Pd=>((some (Pd.set (Da:Int).toNat (⟨(ua Pd Da).f0,(ua Pd Da).f1,(ua Pd Da).f2,(ua Pd Da).f3,(ua Pd Da).f4,wrap64 ((wrap64 ((wrap64 ((wrap64 ((wrap64 (Md + 1)) + 1)) + 1)) + 1)) + 1),(ua Pd Da).f6⟩:oc):List (oc))).bind fun Ae=>((nc.f k1 (wrap64 ((wrap64 ((wrap64 ((wrap64 ((wrap64 ((wrap64 (Md + 1)) + 1)) + 1)) + 1)) + 1)) + 1))).bind fun t107=>(Zb.l0 k1 (Ae.set (Da:Int).toNat (⟨(ua Ae Da).f0,(ua Ae Da).f1,(ua Ae Da).f2,(ua Ae Da).f3,(ua Ae Da).f4,(ua Ae Da).f5,t107⟩:oc)) (wrap64 ((wrap64 ((wrap64 ((wrap64 ((wrap64 ((wrap64 ((wrap64 (Md + 1)) + 1)) + 1)) + 1)) + 1)) + 1)) + 1)) (wrap64 (Da + 1)))))))=some (r1,r2):=by first|(rw [Tp];with_reducible exact H)|(have Qc:=(Option.bind_some _ _).symm.trans H;rw [Tp];with_reducible exact Qc)|(have Qc:=(Option.bind_some _ _).symm.trans H;with_reducible exact Qc)|with_reducible exact H|(rw [Tp];exact H)|exact H
     have GK:=aa.mk Tp;clear Tp;obtain ⟨Qe,Pk⟩:∃ y_:List (oc),y_=(Ef.set (Da:Int).toNat (⟨(ua Ef Da).f0,(ua Ef Da).f1,(ua Ef Da).f2,wrap64 ((wrap64 ((wrap64 (Md + 1)) + 1)) + 1),(ua Ef Da).f4,(ua Ef Da).f5,(ua Ef Da).f6⟩:oc)):=⟨_,rfl⟩;replace H:((some (Qe.set (Da:Int).toNat (⟨(ua Qe Da).f0,(ua Qe Da).f1,(ua Qe Da).f2,(ua Qe Da).f3,wrap64 ((wrap64 ((wrap64 ((wrap64 (Md + 1)) + 1)) + 1)) + 1),(ua Qe Da).f5,(ua Qe Da).f6⟩:oc):List (oc))).bind fun Pd=>((some (Pd.set (Da:Int).toNat (⟨(ua Pd Da).f0,(ua Pd Da).f1,(ua Pd Da).f2,(ua Pd Da).f3,(ua Pd Da).f4,wrap64 ((wrap64 ((wrap64 ((wrap64 ((wrap64 (Md + 1)) + 1)) + 1)) + 1)) + 1),(ua Pd Da).f6⟩:oc):List (oc))).bind fun Ae=>((nc.f k1 (wrap64 ((wrap64 ((wrap64 ((wrap64 ((wrap64 ((wrap64 (Md + 1)) + 1)) + 1)) + 1)) + 1)) + 1))).bind fun t107=>(Zb.l0 k1 (Ae.set (Da:Int).toNat (⟨(ua Ae Da).f0,(ua Ae Da).f1,(ua Ae Da).f2,(ua Ae Da).f3,(ua Ae Da).f4,(ua Ae Da).f5,t107⟩:oc)) (wrap64 ((wrap64 ((wrap64 ((wrap64 ((wrap64 ((wrap64 ((wrap64 (Md + 1)) + 1)) + 1)) + 1)) + 1)) + 1)) + 1)) (wrap64 (Da + 1))))))=some (r1,r2):=by first|(rw [Pk];with_reducible exact H)|(have Qc:=(Option.bind_some _ _).symm.trans H;rw [Pk];with_reducible exact Qc)|(have Qc:=(Option.bind_some _ _).symm.trans H;with_reducible exact Qc)|with_reducible exact H|(rw [Pk];exact H)|exact H
     have nC:=aa.mk Pk;clear Pk;obtain ⟨Pd,Hf⟩:∃ y_:List (oc),y_=(Qe.set (Da:Int).toNat (⟨(ua Qe Da).f0,(ua Qe Da).f1,(ua Qe Da).f2,(ua Qe Da).f3,wrap64 ((wrap64 ((wrap64 ((wrap64 (Md + 1)) + 1)) + 1)) + 1),(ua Qe Da).f5,(ua Qe Da).f6⟩:oc)):=⟨_,rfl⟩;replace H:((some (Pd.set (Da:Int).toNat (⟨(ua Pd Da).f0,(ua Pd Da).f1,(ua Pd Da).f2,(ua Pd Da).f3,(ua Pd Da).f4,wrap64 ((wrap64 ((wrap64 ((wrap64 ((wrap64 (Md + 1)) + 1)) + 1)) + 1)) + 1),(ua Pd Da).f6⟩:oc):List (oc))).bind fun Ae=>((nc.f k1 (wrap64 ((wrap64 ((wrap64 ((wrap64 ((wrap64 ((wrap64 (Md + 1)) + 1)) + 1)) + 1)) + 1)) + 1))).bind fun t107=>(Zb.l0 k1 (Ae.set (Da:Int).toNat (⟨(ua Ae Da).f0,(ua Ae Da).f1,(ua Ae Da).f2,(ua Ae Da).f3,(ua Ae Da).f4,(ua Ae Da).f5,t107⟩:oc)) (wrap64 ((wrap64 ((wrap64 ((wrap64 ((wrap64 ((wrap64 ((wrap64 (Md + 1)) + 1)) + 1)) + 1)) + 1)) + 1)) + 1)) (wrap64 (Da + 1)))))=some (r1,r2):=by first|(rw [Hf];with_reducible exact H)|(have Qc:=(Option.bind_some _ _).symm.trans H;rw [Hf];with_reducible exact Qc)|(have Qc:=(Option.bind_some _ _).symm.trans H;with_reducible exact Qc)|with_reducible exact H|(rw [Hf];exact H)|exact H
     have Tk:=aa.mk Hf;clear Hf;obtain ⟨Ae,dB⟩:∃ y_:List (oc),y_=(Pd.set (Da:Int).toNat (⟨(ua Pd Da).f0,(ua Pd Da).f1,(ua Pd Da).f2,(ua Pd Da).f3,(ua Pd Da).f4,wrap64 ((wrap64 ((wrap64 ((wrap64 ((wrap64 (Md + 1)) + 1)) + 1)) + 1)) + 1),(ua Pd Da).f6⟩:oc)):=⟨_,rfl⟩;replace H:((nc.f k1 (wrap64 ((wrap64 ((wrap64 ((wrap64 ((wrap64 ((wrap64 (Md + 1)) + 1)) + 1)) + 1)) + 1)) + 1))).bind fun t107=>(Zb.l0 k1 (Ae.set (Da:Int).toNat (⟨(ua Ae Da).f0,(ua Ae Da).f1,(ua Ae Da).f2,(ua Ae Da).f3,(ua Ae Da).f4,(ua Ae Da).f5,t107⟩:oc)) (wrap64 ((wrap64 ((wrap64 ((wrap64 ((wrap64 ((wrap64 ((wrap64 (Md + 1)) + 1)) + 1)) + 1)) + 1)) + 1)) + 1)) (wrap64 (Da + 1))))=some (r1,r2):=by first|(rw [dB];with_reducible exact H)|(have Qc:=(Option.bind_some _ _).symm.trans H;rw [dB];with_reducible exact Qc)|(have Qc:=(Option.bind_some _ _).symm.trans H;with_reducible exact Qc)|with_reducible exact H|(rw [dB];exact H)|exact H
     have xX:=aa.mk dB;clear dB;replace H:=Option.bind_eq_some_iff.mp H;obtain ⟨t107,tZ,H⟩:=H
     try dsimp only at H
     have A11:=aa.mk tZ;clear tZ;obtain ⟨uA,Nk⟩:∃ y_:List (oc),y_=(Ae.set (Da:Int).toNat (⟨(ua Ae Da).f0,(ua Ae Da).f1,(ua Ae Da).f2,(ua Ae Da).f3,(ua Ae Da).f4,(ua Ae Da).f5,t107⟩:oc)):=⟨_,rfl⟩;replace H:(Zb.l0 k1 uA (wrap64 ((wrap64 ((wrap64 ((wrap64 ((wrap64 ((wrap64 ((wrap64 (Md + 1)) + 1)) + 1)) + 1)) + 1)) + 1)) + 1)) (wrap64 (Da + 1)))=some (r1,r2):=by first|(rw [Nk];with_reducible exact H)|(have Qc:=(Option.bind_some _ _).symm.trans H;rw [Nk];with_reducible exact Qc)|(have Qc:=(Option.bind_some _ _).symm.trans H;with_reducible exact Qc)|with_reducible exact H|(rw [Nk];exact H)|exact H
     have Uw:=aa.mk Nk;clear Nk;have H':=aa.mk H;clear H;obtain ⟨Pah,Et,q_⟩:=Kd.Vb ee.out;subst q_;have p5:0 ≤ (Da:Int):=Ja;have q5:(Da:Int) < ((Wc.length:Int):Int):=Ja;obtain ⟨lf,A_,NS,gW,J9,cl5,nQ⟩:=Kd.qj ee.out (by omega);(first|cases NS|(injection NS with ej qv tv;(first|subst ej|(injection ej with ej;subst ej));subst tv;clear qv));have nO:=aa.mk gW;have GG5:=aa.mk nQ;clear gW J9 nQ;have wY:=aa.mk (show (Oi lf ∨ w.heap.size ≤ lf) from (ee.out.1 _ rfl));obtain ⟨ce5,Y8,hM5,wB,nB⟩:=Kd.Ci ee.out Qi (Da:Int) p5 q5;obtain rfl:=gf hM5;have oV:wr.cell? ⟨lf,(Da:Int).toNat * 7,none⟩=some (.int .i64 ((ua Wc Da).f0)):=wB 0 _ rfl;have Iab:wr.cell? ⟨lf,(Da:Int).toNat * 7 + 1,none⟩=some (.int .i64 ((ua Wc Da).f1)):=wB 1 _ rfl;have Hab:wr.cell? ⟨lf,(Da:Int).toNat * 7 + 2,none⟩=some (.int .i64 ((ua Wc Da).f2)):=wB 2 _ rfl;have Gab:wr.cell? ⟨lf,(Da:Int).toNat * 7 + 3,none⟩=some (.int .i64 ((ua Wc Da).f3)):=wB 3 _ rfl;have Fab:wr.cell? ⟨lf,(Da:Int).toNat * 7 + 4,none⟩=some (.int .i64 ((ua Wc Da).f4)):=wB 4 _ rfl;have Eab:wr.cell? ⟨lf,(Da:Int).toNat * 7 + 5,none⟩=some (.int .i64 ((ua Wc Da).f5)):=wB 5 _ rfl;have Dab:wr.cell? ⟨lf,(Da:Int).toNat * 7 + 6,none⟩=some (.string ((ua Wc Da).f6)):=wB 6 _ rfl;have JV:wr.frozen? ⟨lf,(Da:Int).toNat * 7,none⟩=false:=nB 0;have Rac:wr.frozen? ⟨lf,(Da:Int).toNat * 7 + 1,none⟩=false:=nB 1;have Qac:wr.frozen? ⟨lf,(Da:Int).toNat * 7 + 2,none⟩=false:=nB 2;have Pac:wr.frozen? ⟨lf,(Da:Int).toNat * 7 + 3,none⟩=false:=nB 3;have Oac:wr.frozen? ⟨lf,(Da:Int).toNat * 7 + 4,none⟩=false:=nB 4;have Nac:wr.frozen? ⟨lf,(Da:Int).toNat * 7 + 5,none⟩=false:=nB 5;have Mac:wr.frozen? ⟨lf,(Da:Int).toNat * 7 + 6,none⟩=false:=nB 6;clear Y8 wB nB hM5;replace p5:=eq_true p5;replace q5:=eq_true q5;have QX:=aa.mk (show Kd.R Je 122 wr w0.heap.size (fun k_=>(Oi k_ ∨ w.heap.size ≤ k_)) (.slice (some ⟨lf,0,none⟩) Wc.length Et) Wc from Laj);obtain ⟨Dag,lP,cW,EJ,cP⟩:=Kd.Ci QX.out Qi (Da:Int) (Ja) (by have h_:(Da:Int) < ((Wc.length:Int):Int):=Ja;first|exact h_|(have e_:=(Kd.Ua ee.out).1;omega)|simpa using h_);obtain rfl:=gf cW;have bE:=Kd.Lt QX.out (Da:Int) (Ja) (by have h_:(Da:Int) < ((Wc.length:Int):Int):=Ja;first|exact h_|(have e_:=(Kd.Ua ee.out).1;omega)|simpa using h_) (seg:=[.int .i64 Md]) (j:=0) lP EJ (show 1 ≤ 7 from by decide) (x':=(⟨Md,(ua Wc Da).f1,(ua Wc Da).f2,(ua Wc Da).f3,(ua Wc Da).f4,(ua Wc Da).f5,(ua Wc Da).f6⟩:oc)) (Aj _ _ _ (⟨Md,(ua Wc Da).f1,(ua Wc Da).f2,(ua Wc Da).f3,(ua Wc Da).f4,(ua Wc Da).f5,(ua Wc Da).f6⟩:oc) ) (fun _ hk=>hk);have pR:=EJ 0 _ rfl;(try simp only [show (Je).sz=7 from rfl,Nat.mul_one,Nat.add_zero] at pR);have ZR:=cP 0;(try simp only [show (Je).sz=7 from rfl,Nat.mul_one,Nat.add_zero] at ZR);clear lP EJ cP cW;go_wp2_with (first|((with_reducible refine Ce (t:=3) (p:=16) rfl ?_);refine Sd (t:=3) (p:=16) (v:=?yQ) (w1:=(wr.setCell ⟨lf,(Da:Int).toNat * 7,none⟩ (.int .i64 Md))) ?hg ?ho ?hn ?hr ?_;(case ho=>rfl);(case hg=>rfl);(case hn=>rfl);(case hr=>exact jaj);intro yo hw;have hg:wr.grownBy yo (some lf):=(by rw [hw];exact bE.2);have Gj:Kd.R Je 122 yo w0.heap.size (fun k_=>(Oi k_ ∨ w.heap.size ≤ k_)) (.slice (some ⟨lf,0,none⟩) Wc.length Et) Re:=(by rw [hw,Zi.out];exact bE.1);clear bE;have Pb:=aa.mk (Gj);have Rb:=aa.mk ((by rw [hw];exact ta (HB.out) nO.out:Below w0.heap.size w0 yo));have Yb:=aa.mk (Kept.Af (S:=(fun k_=>Oi k_)) hg Daj (fun k_ e_=>(ee.out.1 k_ e_)));clear ee HB HK;have ee:=Pb;have HB:=Rb;have HK:=Yb;clear Pb Rb Yb hg hw Gj;have p6:0 ≤ (Da:Int):=Ja;have q6:(Da:Int) < ((Wc.length:Int):Int):=Ja;obtain ⟨ce6,X8,hM6,vB,mB⟩:=Kd.Ci ee.out Qi (Da:Int) p6 q6;obtain rfl:=gf hM6;have Qx:yo.cell? ⟨lf,(Da:Int).toNat * 7,none⟩=some (.int .i64 ((ua Re Da).f0)):=vB 0 _ rfl;have Cab:yo.cell? ⟨lf,(Da:Int).toNat * 7 + 1,none⟩=some (.int .i64 ((ua Re Da).f1)):=vB 1 _ rfl;have Bab:yo.cell? ⟨lf,(Da:Int).toNat * 7 + 2,none⟩=some (.int .i64 ((ua Re Da).f2)):=vB 2 _ rfl;have Aab:yo.cell? ⟨lf,(Da:Int).toNat * 7 + 3,none⟩=some (.int .i64 ((ua Re Da).f3)):=vB 3 _ rfl;have zab:yo.cell? ⟨lf,(Da:Int).toNat * 7 + 4,none⟩=some (.int .i64 ((ua Re Da).f4)):=vB 4 _ rfl;have yab:yo.cell? ⟨lf,(Da:Int).toNat * 7 + 5,none⟩=some (.int .i64 ((ua Re Da).f5)):=vB 5 _ rfl;have xab:yo.cell? ⟨lf,(Da:Int).toNat * 7 + 6,none⟩=some (.string ((ua Re Da).f6)):=vB 6 _ rfl;have kJ:yo.frozen? ⟨lf,(Da:Int).toNat * 7,none⟩=false:=mB 0;have Kac:yo.frozen? ⟨lf,(Da:Int).toNat * 7 + 1,none⟩=false:=mB 1;have Jac:yo.frozen? ⟨lf,(Da:Int).toNat * 7 + 2,none⟩=false:=mB 2;have Iac:yo.frozen? ⟨lf,(Da:Int).toNat * 7 + 3,none⟩=false:=mB 3;have Hac:yo.frozen? ⟨lf,(Da:Int).toNat * 7 + 4,none⟩=false:=mB 4;have Gac:yo.frozen? ⟨lf,(Da:Int).toNat * 7 + 5,none⟩=false:=mB 5;have Fac:yo.frozen? ⟨lf,(Da:Int).toNat * 7 + 6,none⟩=false:=mB 6;clear X8 vB mB hM6;replace p6:=eq_true p6;replace q6:=eq_true q6;have PX:=aa.mk (show Kd.R Je 122 yo w0.heap.size (fun k_=>(Oi k_ ∨ w.heap.size ≤ k_)) (.slice (some ⟨lf,0,none⟩) Wc.length Et) Re from Laj);obtain ⟨Cag,kP,bW,DJ,bP⟩:=Kd.Ci PX.out Qi (Da:Int) (Ja) (by have h_:(Da:Int) < ((Wc.length:Int):Int):=Ja;first|exact h_|(have e_:=(Kd.Ua ee.out).1;omega)|simpa using h_);obtain rfl:=gf bW;have iU:=Kd.Lt PX.out (Da:Int) (Ja) (by have h_:(Da:Int) < ((Wc.length:Int):Int):=Ja;first|exact h_|(have e_:=(Kd.Ua ee.out).1;omega)|simpa using h_) (seg:=[.int .i64 (wrap64 (Md + 1))]) (j:=1) kP DJ (show 2 ≤ 7 from by decide) (x':=(⟨(ua Re Da).f0,wrap64 (Md + 1),(ua Re Da).f2,(ua Re Da).f3,(ua Re Da).f4,(ua Re Da).f5,(ua Re Da).f6⟩:oc)) (Aj _ _ _ (⟨(ua Re Da).f0,wrap64 (Md + 1),(ua Re Da).f2,(ua Re Da).f3,(ua Re Da).f4,(ua Re Da).f5,(ua Re Da).f6⟩:oc) ) (fun _ hk=>hk);have oR:=DJ 1 _ rfl;(try simp only [show (Je).sz=7 from rfl,Nat.mul_one,Nat.add_zero] at oR);have YR:=bP 1;(try simp only [show (Je).sz=7 from rfl,Nat.mul_one,Nat.add_zero] at YR);clear kP DJ bP bW)|((with_reducible refine Ce (t:=3) (p:=23) rfl ?_);refine Sd (t:=3) (p:=23) (v:=?S5) (w1:=(yo.setCell ⟨lf,(Da:Int).toNat * 7 + 1,none⟩ (.int .i64 (wrap64 (Md + 1))))) ?hg ?ho ?hn ?hr ?_;(case ho=>rfl);(case hg=>rfl);(case hn=>rfl);(case hr=>exact jaj);intro Om hw;have hg:yo.grownBy Om (some lf):=(by rw [hw];exact iU.2);have Gj:Kd.R Je 122 Om w0.heap.size (fun k_=>(Oi k_ ∨ w.heap.size ≤ k_)) (.slice (some ⟨lf,0,none⟩) Wc.length Et) yd:=(by rw [hw,Ch.out];exact iU.1);clear iU;have Pb:=aa.mk (Gj);have Rb:=aa.mk ((by rw [hw];exact ta (HB.out) nO.out:Below w0.heap.size w0 Om));have Yb:=aa.mk (Kept.Af (S:=(fun k_=>Oi k_)) hg Daj (fun k_ e_=>(ee.out.1 k_ e_)));clear ee HB HK;have ee:=Pb;have HB:=Rb;have HK:=Yb;clear Pb Rb Yb hg hw Gj;have p7:0 ≤ (Da:Int):=Ja;have q7:(Da:Int) < ((Wc.length:Int):Int):=Ja;obtain ⟨ce7,W8,hM7,uB,lB⟩:=Kd.Ci ee.out Qi (Da:Int) p7 q7;obtain rfl:=gf hM7;have GI:Om.cell? ⟨lf,(Da:Int).toNat * 7,none⟩=some (.int .i64 ((ua yd Da).f0)):=uB 0 _ rfl;have wab:Om.cell? ⟨lf,(Da:Int).toNat * 7 + 1,none⟩=some (.int .i64 ((ua yd Da).f1)):=uB 1 _ rfl;have vab:Om.cell? ⟨lf,(Da:Int).toNat * 7 + 2,none⟩=some (.int .i64 ((ua yd Da).f2)):=uB 2 _ rfl;have uab:Om.cell? ⟨lf,(Da:Int).toNat * 7 + 3,none⟩=some (.int .i64 ((ua yd Da).f3)):=uB 3 _ rfl;have sab:Om.cell? ⟨lf,(Da:Int).toNat * 7 + 4,none⟩=some (.int .i64 ((ua yd Da).f4)):=uB 4 _ rfl;have rab:Om.cell? ⟨lf,(Da:Int).toNat * 7 + 5,none⟩=some (.int .i64 ((ua yd Da).f5)):=uB 5 _ rfl;have qab:Om.cell? ⟨lf,(Da:Int).toNat * 7 + 6,none⟩=some (.string ((ua yd Da).f6)):=uB 6 _ rfl;have IV:Om.frozen? ⟨lf,(Da:Int).toNat * 7,none⟩=false:=lB 0;have Eac:Om.frozen? ⟨lf,(Da:Int).toNat * 7 + 1,none⟩=false:=lB 1;have Dac:Om.frozen? ⟨lf,(Da:Int).toNat * 7 + 2,none⟩=false:=lB 2;have Cac:Om.frozen? ⟨lf,(Da:Int).toNat * 7 + 3,none⟩=false:=lB 3;have Bac:Om.frozen? ⟨lf,(Da:Int).toNat * 7 + 4,none⟩=false:=lB 4;have Aac:Om.frozen? ⟨lf,(Da:Int).toNat * 7 + 5,none⟩=false:=lB 5;have zac:Om.frozen? ⟨lf,(Da:Int).toNat * 7 + 6,none⟩=false:=lB 6;clear W8 uB lB hM7;replace p7:=eq_true p7;replace q7:=eq_true q7;have OX:=aa.mk (show Kd.R Je 122 Om w0.heap.size (fun k_=>(Oi k_ ∨ w.heap.size ≤ k_)) (.slice (some ⟨lf,0,none⟩) Wc.length Et) yd from Laj);obtain ⟨Bag,jP,aW,CJ,ZO⟩:=Kd.Ci OX.out Qi (Da:Int) (Ja) (by have h_:(Da:Int) < ((Wc.length:Int):Int):=Ja;first|exact h_|(have e_:=(Kd.Ua ee.out).1;omega)|simpa using h_);obtain rfl:=gf aW;have fU:=Kd.Lt OX.out (Da:Int) (Ja) (by have h_:(Da:Int) < ((Wc.length:Int):Int):=Ja;first|exact h_|(have e_:=(Kd.Ua ee.out).1;omega)|simpa using h_) (seg:=[.int .i64 (wrap64 ((wrap64 (Md + 1)) + 1))]) (j:=2) jP CJ (show 3 ≤ 7 from by decide) (x':=(⟨(ua yd Da).f0,(ua yd Da).f1,wrap64 ((wrap64 (Md + 1)) + 1),(ua yd Da).f3,(ua yd Da).f4,(ua yd Da).f5,(ua yd Da).f6⟩:oc)) (Aj _ _ _ (⟨(ua yd Da).f0,(ua yd Da).f1,wrap64 ((wrap64 (Md + 1)) + 1),(ua yd Da).f3,(ua yd Da).f4,(ua yd Da).f5,(ua yd Da).f6⟩:oc) ) (fun _ hk=>hk);have nR:=CJ 2 _ rfl;(try simp only [show (Je).sz=7 from rfl,Nat.mul_one,Nat.add_zero] at nR);have XR:=ZO 2;(try simp only [show (Je).sz=7 from rfl,Nat.mul_one,Nat.add_zero] at XR);clear jP CJ ZO aW)|((with_reducible refine Ce (t:=3) (p:=30) rfl ?_);refine Sd (t:=3) (p:=30) (v:=?Q5) (w1:=(Om.setCell ⟨lf,(Da:Int).toNat * 7 + 2,none⟩ (.int .i64 (wrap64 ((wrap64 (Md + 1)) + 1))))) ?hg ?ho ?hn ?hr ?_;(case ho=>rfl);(case hg=>rfl);(case hn=>rfl);(case hr=>exact jaj);intro Vt hw;have hg:Om.grownBy Vt (some lf):=(by rw [hw];exact fU.2);have Gj:Kd.R Je 122 Vt w0.heap.size (fun k_=>(Oi k_ ∨ w.heap.size ≤ k_)) (.slice (some ⟨lf,0,none⟩) Wc.length Et) Ef:=(by rw [hw,GK.out];exact fU.1);clear fU;have Pb:=aa.mk (Gj);have Rb:=aa.mk ((by rw [hw];exact ta (HB.out) nO.out:Below w0.heap.size w0 Vt));have Yb:=aa.mk (Kept.Af (S:=(fun k_=>Oi k_)) hg Daj (fun k_ e_=>(ee.out.1 k_ e_)));clear ee HB HK;have ee:=Pb;have HB:=Rb;have HK:=Yb;clear Pb Rb Yb hg hw Gj;have p8:0 ≤ (Da:Int):=Ja;have q8:(Da:Int) < ((Wc.length:Int):Int):=Ja;obtain ⟨ce8,V8,hM8,tB,kB⟩:=Kd.Ci ee.out Qi (Da:Int) p8 q8;obtain rfl:=gf hM8;have zO:Vt.cell? ⟨lf,(Da:Int).toNat * 7,none⟩=some (.int .i64 ((ua Ef Da).f0)):=tB 0 _ rfl;have pab:Vt.cell? ⟨lf,(Da:Int).toNat * 7 + 1,none⟩=some (.int .i64 ((ua Ef Da).f1)):=tB 1 _ rfl;have oab:Vt.cell? ⟨lf,(Da:Int).toNat * 7 + 2,none⟩=some (.int .i64 ((ua Ef Da).f2)):=tB 2 _ rfl;have mab:Vt.cell? ⟨lf,(Da:Int).toNat * 7 + 3,none⟩=some (.int .i64 ((ua Ef Da).f3)):=tB 3 _ rfl;have lab:Vt.cell? ⟨lf,(Da:Int).toNat * 7 + 4,none⟩=some (.int .i64 ((ua Ef Da).f4)):=tB 4 _ rfl;have kab:Vt.cell? ⟨lf,(Da:Int).toNat * 7 + 5,none⟩=some (.int .i64 ((ua Ef Da).f5)):=tB 5 _ rfl;have jab:Vt.cell? ⟨lf,(Da:Int).toNat * 7 + 6,none⟩=some (.string ((ua Ef Da).f6)):=tB 6 _ rfl;have dP:Vt.frozen? ⟨lf,(Da:Int).toNat * 7,none⟩=false:=kB 0;have yac:Vt.frozen? ⟨lf,(Da:Int).toNat * 7 + 1,none⟩=false:=kB 1;have xac:Vt.frozen? ⟨lf,(Da:Int).toNat * 7 + 2,none⟩=false:=kB 2;have wac:Vt.frozen? ⟨lf,(Da:Int).toNat * 7 + 3,none⟩=false:=kB 3;have vac:Vt.frozen? ⟨lf,(Da:Int).toNat * 7 + 4,none⟩=false:=kB 4;have uac:Vt.frozen? ⟨lf,(Da:Int).toNat * 7 + 5,none⟩=false:=kB 5;have sac:Vt.frozen? ⟨lf,(Da:Int).toNat * 7 + 6,none⟩=false:=kB 6;clear V8 tB kB hM8;replace p8:=eq_true p8;replace q8:=eq_true q8;have NX:=aa.mk (show Kd.R Je 122 Vt w0.heap.size (fun k_=>(Oi k_ ∨ w.heap.size ≤ k_)) (.slice (some ⟨lf,0,none⟩) Wc.length Et) Ef from Laj);obtain ⟨Aag,iP,ZV,BJ,YO⟩:=Kd.Ci NX.out Qi (Da:Int) (Ja) (by have h_:(Da:Int) < ((Wc.length:Int):Int):=Ja;first|exact h_|(have e_:=(Kd.Ua ee.out).1;omega)|simpa using h_);obtain rfl:=gf ZV;have eU:=Kd.Lt NX.out (Da:Int) (Ja) (by have h_:(Da:Int) < ((Wc.length:Int):Int):=Ja;first|exact h_|(have e_:=(Kd.Ua ee.out).1;omega)|simpa using h_) (seg:=[.int .i64 (wrap64 ((wrap64 ((wrap64 (Md + 1)) + 1)) + 1))]) (j:=3) iP BJ (show 4 ≤ 7 from by decide) (x':=(⟨(ua Ef Da).f0,(ua Ef Da).f1,(ua Ef Da).f2,wrap64 ((wrap64 ((wrap64 (Md + 1)) + 1)) + 1),(ua Ef Da).f4,(ua Ef Da).f5,(ua Ef Da).f6⟩:oc)) (Aj _ _ _ (⟨(ua Ef Da).f0,(ua Ef Da).f1,(ua Ef Da).f2,wrap64 ((wrap64 ((wrap64 (Md + 1)) + 1)) + 1),(ua Ef Da).f4,(ua Ef Da).f5,(ua Ef Da).f6⟩:oc) ) (fun _ hk=>hk);have mR:=BJ 3 _ rfl;(try simp only [show (Je).sz=7 from rfl,Nat.mul_one,Nat.add_zero] at mR);have WR:=YO 3;(try simp only [show (Je).sz=7 from rfl,Nat.mul_one,Nat.add_zero] at WR);clear iP BJ YO ZV)|((with_reducible refine Ce (t:=3) (p:=37) rfl ?_);refine Sd (t:=3) (p:=37) (v:=?P5) (w1:=(Vt.setCell ⟨lf,(Da:Int).toNat * 7 + 3,none⟩ (.int .i64 (wrap64 ((wrap64 ((wrap64 (Md + 1)) + 1)) + 1))))) ?hg ?ho ?hn ?hr ?_;(case ho=>rfl);(case hg=>rfl);(case hn=>rfl);(case hr=>exact jaj);intro St hw;have hg:Vt.grownBy St (some lf):=(by rw [hw];exact eU.2);have Gj:Kd.R Je 122 St w0.heap.size (fun k_=>(Oi k_ ∨ w.heap.size ≤ k_)) (.slice (some ⟨lf,0,none⟩) Wc.length Et) Qe:=(by rw [hw,nC.out];exact eU.1);clear eU;have Pb:=aa.mk (Gj);have Rb:=aa.mk ((by rw [hw];exact ta (HB.out) nO.out:Below w0.heap.size w0 St));have Yb:=aa.mk (Kept.Af (S:=(fun k_=>Oi k_)) hg Daj (fun k_ e_=>(ee.out.1 k_ e_)));clear ee HB HK;have ee:=Pb;have HB:=Rb;have HK:=Yb;clear Pb Rb Yb hg hw Gj;have p9:0 ≤ (Da:Int):=Ja;have q9:(Da:Int) < ((Wc.length:Int):Int):=Ja;obtain ⟨ce9,U8,hM9,sB,jB⟩:=Kd.Ci ee.out Qi (Da:Int) p9 q9;obtain rfl:=gf hM9;have FI:St.cell? ⟨lf,(Da:Int).toNat * 7,none⟩=some (.int .i64 ((ua Qe Da).f0)):=sB 0 _ rfl;have iab:St.cell? ⟨lf,(Da:Int).toNat * 7 + 1,none⟩=some (.int .i64 ((ua Qe Da).f1)):=sB 1 _ rfl;have gab:St.cell? ⟨lf,(Da:Int).toNat * 7 + 2,none⟩=some (.int .i64 ((ua Qe Da).f2)):=sB 2 _ rfl;have fab:St.cell? ⟨lf,(Da:Int).toNat * 7 + 3,none⟩=some (.int .i64 ((ua Qe Da).f3)):=sB 3 _ rfl;have eab:St.cell? ⟨lf,(Da:Int).toNat * 7 + 4,none⟩=some (.int .i64 ((ua Qe Da).f4)):=sB 4 _ rfl;have dab:St.cell? ⟨lf,(Da:Int).toNat * 7 + 5,none⟩=some (.int .i64 ((ua Qe Da).f5)):=sB 5 _ rfl;have cab:St.cell? ⟨lf,(Da:Int).toNat * 7 + 6,none⟩=some (.string ((ua Qe Da).f6)):=sB 6 _ rfl;have jJ:St.frozen? ⟨lf,(Da:Int).toNat * 7,none⟩=false:=jB 0;have rac:St.frozen? ⟨lf,(Da:Int).toNat * 7 + 1,none⟩=false:=jB 1;have qac:St.frozen? ⟨lf,(Da:Int).toNat * 7 + 2,none⟩=false:=jB 2;have pac:St.frozen? ⟨lf,(Da:Int).toNat * 7 + 3,none⟩=false:=jB 3;have oac:St.frozen? ⟨lf,(Da:Int).toNat * 7 + 4,none⟩=false:=jB 4;have nac:St.frozen? ⟨lf,(Da:Int).toNat * 7 + 5,none⟩=false:=jB 5;have mac:St.frozen? ⟨lf,(Da:Int).toNat * 7 + 6,none⟩=false:=jB 6;clear U8 sB jB hM9;replace p9:=eq_true p9;replace q9:=eq_true q9;have MX:=aa.mk (show Kd.R Je 122 St w0.heap.size (fun k_=>(Oi k_ ∨ w.heap.size ≤ k_)) (.slice (some ⟨lf,0,none⟩) Wc.length Et) Qe from Laj);obtain ⟨zag,gP,YV,AJ,XO⟩:=Kd.Ci MX.out Qi (Da:Int) (Ja) (by have h_:(Da:Int) < ((Wc.length:Int):Int):=Ja;first|exact h_|(have e_:=(Kd.Ua ee.out).1;omega)|simpa using h_);obtain rfl:=gf YV;have dU:=Kd.Lt MX.out (Da:Int) (Ja) (by have h_:(Da:Int) < ((Wc.length:Int):Int):=Ja;first|exact h_|(have e_:=(Kd.Ua ee.out).1;omega)|simpa using h_) (seg:=[.int .i64 (wrap64 ((wrap64 ((wrap64 ((wrap64 (Md + 1)) + 1)) + 1)) + 1))]) (j:=4) gP AJ (show 5 ≤ 7 from by decide) (x':=(⟨(ua Qe Da).f0,(ua Qe Da).f1,(ua Qe Da).f2,(ua Qe Da).f3,wrap64 ((wrap64 ((wrap64 ((wrap64 (Md + 1)) + 1)) + 1)) + 1),(ua Qe Da).f5,(ua Qe Da).f6⟩:oc)) (Aj _ _ _ (⟨(ua Qe Da).f0,(ua Qe Da).f1,(ua Qe Da).f2,(ua Qe Da).f3,wrap64 ((wrap64 ((wrap64 ((wrap64 (Md + 1)) + 1)) + 1)) + 1),(ua Qe Da).f5,(ua Qe Da).f6⟩:oc) ) (fun _ hk=>hk);have lR:=AJ 4 _ rfl;(try simp only [show (Je).sz=7 from rfl,Nat.mul_one,Nat.add_zero] at lR);have VR:=XO 4;(try simp only [show (Je).sz=7 from rfl,Nat.mul_one,Nat.add_zero] at VR);clear gP AJ XO YV)|((with_reducible refine Ce (t:=3) (p:=44) rfl ?_);refine Sd (t:=3) (p:=44) (v:=?O5) (w1:=(St.setCell ⟨lf,(Da:Int).toNat * 7 + 4,none⟩ (.int .i64 (wrap64 ((wrap64 ((wrap64 ((wrap64 (Md + 1)) + 1)) + 1)) + 1))))) ?hg ?ho ?hn ?hr ?_;(case ho=>rfl);(case hg=>rfl);(case hn=>rfl);(case hr=>exact jaj);intro Kx hw;have hg:St.grownBy Kx (some lf):=(by rw [hw];exact dU.2);have Gj:Kd.R Je 122 Kx w0.heap.size (fun k_=>(Oi k_ ∨ w.heap.size ≤ k_)) (.slice (some ⟨lf,0,none⟩) Wc.length Et) Pd:=(by rw [hw,Tk.out];exact dU.1);clear dU;have Pb:=aa.mk (Gj);have Rb:=aa.mk ((by rw [hw];exact ta (HB.out) nO.out:Below w0.heap.size w0 Kx));have Yb:=aa.mk (Kept.Af (S:=(fun k_=>Oi k_)) hg Daj (fun k_ e_=>(ee.out.1 k_ e_)));clear ee HB HK;have ee:=Pb;have HB:=Rb;have HK:=Yb;clear Pb Rb Yb hg hw Gj;have mA:0 ≤ (Da:Int):=Ja;have kA:(Da:Int) < ((Wc.length:Int):Int):=Ja;obtain ⟨xW,rB,zB,ji,ei⟩:=Kd.Ci ee.out Qi (Da:Int) mA kA;obtain rfl:=gf zB;have OI:Kx.cell? ⟨lf,(Da:Int).toNat * 7,none⟩=some (.int .i64 ((ua Pd Da).f0)):=ji 0 _ rfl;have NI:Kx.cell? ⟨lf,(Da:Int).toNat * 7 + 1,none⟩=some (.int .i64 ((ua Pd Da).f1)):=ji 1 _ rfl;have MI:Kx.cell? ⟨lf,(Da:Int).toNat * 7 + 2,none⟩=some (.int .i64 ((ua Pd Da).f2)):=ji 2 _ rfl;have LI:Kx.cell? ⟨lf,(Da:Int).toNat * 7 + 3,none⟩=some (.int .i64 ((ua Pd Da).f3)):=ji 3 _ rfl;have KI:Kx.cell? ⟨lf,(Da:Int).toNat * 7 + 4,none⟩=some (.int .i64 ((ua Pd Da).f4)):=ji 4 _ rfl;have rR:Kx.cell? ⟨lf,(Da:Int).toNat * 7 + 5,none⟩=some (.int .i64 ((ua Pd Da).f5)):=ji 5 _ rfl;have qR:Kx.cell? ⟨lf,(Da:Int).toNat * 7 + 6,none⟩=some (.string ((ua Pd Da).f6)):=ji 6 _ rfl;have rJ:Kx.frozen? ⟨lf,(Da:Int).toNat * 7,none⟩=false:=ei 0;have qJ:Kx.frozen? ⟨lf,(Da:Int).toNat * 7 + 1,none⟩=false:=ei 1;have pJ:Kx.frozen? ⟨lf,(Da:Int).toNat * 7 + 2,none⟩=false:=ei 2;have oJ:Kx.frozen? ⟨lf,(Da:Int).toNat * 7 + 3,none⟩=false:=ei 3;have nJ:Kx.frozen? ⟨lf,(Da:Int).toNat * 7 + 4,none⟩=false:=ei 4;have dS:Kx.frozen? ⟨lf,(Da:Int).toNat * 7 + 5,none⟩=false:=ei 5;have bS:Kx.frozen? ⟨lf,(Da:Int).toNat * 7 + 6,none⟩=false:=ei 6;clear rB ji ei zB;replace mA:=eq_true mA;replace kA:=eq_true kA;have LX:=aa.mk (show Kd.R Je 122 Kx w0.heap.size (fun k_=>(Oi k_ ∨ w.heap.size ≤ k_)) (.slice (some ⟨lf,0,none⟩) Wc.length Et) Pd from Laj);obtain ⟨yag,fP,XV,zJ,WO⟩:=Kd.Ci LX.out Qi (Da:Int) (Ja) (by have h_:(Da:Int) < ((Wc.length:Int):Int):=Ja;first|exact h_|(have e_:=(Kd.Ua ee.out).1;omega)|simpa using h_);obtain rfl:=gf XV;have cU:=Kd.Lt LX.out (Da:Int) (Ja) (by have h_:(Da:Int) < ((Wc.length:Int):Int):=Ja;first|exact h_|(have e_:=(Kd.Ua ee.out).1;omega)|simpa using h_) (seg:=[.int .i64 (wrap64 ((wrap64 ((wrap64 ((wrap64 ((wrap64 (Md + 1)) + 1)) + 1)) + 1)) + 1))]) (j:=5) fP zJ (show 6 ≤ 7 from by decide) (x':=(⟨(ua Pd Da).f0,(ua Pd Da).f1,(ua Pd Da).f2,(ua Pd Da).f3,(ua Pd Da).f4,wrap64 ((wrap64 ((wrap64 ((wrap64 ((wrap64 (Md + 1)) + 1)) + 1)) + 1)) + 1),(ua Pd Da).f6⟩:oc)) (Aj _ _ _ (⟨(ua Pd Da).f0,(ua Pd Da).f1,(ua Pd Da).f2,(ua Pd Da).f3,(ua Pd Da).f4,wrap64 ((wrap64 ((wrap64 ((wrap64 ((wrap64 (Md + 1)) + 1)) + 1)) + 1)) + 1),(ua Pd Da).f6⟩:oc) ) (fun _ hk=>hk);have kR:=zJ 5 _ rfl;(try simp only [show (Je).sz=7 from rfl,Nat.mul_one,Nat.add_zero] at kR);have UR:=WO 5;(try simp only [show (Je).sz=7 from rfl,Nat.mul_one,Nat.add_zero] at UR);clear fP zJ WO XV)|((with_reducible refine Ce (t:=3) (p:=51) rfl ?_);refine Sd (t:=3) (p:=51) (v:=?N5) (w1:=(Kx.setCell ⟨lf,(Da:Int).toNat * 7 + 5,none⟩ (.int .i64 (wrap64 ((wrap64 ((wrap64 ((wrap64 ((wrap64 (Md + 1)) + 1)) + 1)) + 1)) + 1))))) ?hg ?ho ?hn ?hr ?_;(case ho=>rfl);(case hg=>rfl);(case hn=>rfl);(case hr=>exact jaj);intro vZ hw;have hg:Kx.grownBy vZ (some lf):=(by rw [hw];exact cU.2);have Gj:Kd.R Je 122 vZ w0.heap.size (fun k_=>(Oi k_ ∨ w.heap.size ≤ k_)) (.slice (some ⟨lf,0,none⟩) Wc.length Et) Ae:=(by rw [hw,xX.out];exact cU.1);clear cU;have Pb:=aa.mk (Gj);have Rb:=aa.mk ((by rw [hw];exact ta (HB.out) nO.out:Below w0.heap.size w0 vZ));have Yb:=aa.mk (Kept.Af (S:=(fun k_=>Oi k_)) hg Daj (fun k_ e_=>(ee.out.1 k_ e_)));clear ee HB HK;have ee:=Pb;have HB:=Rb;have HK:=Yb;clear Pb Rb Yb hg hw Gj)|((with_reducible refine Kb (f:=127) rfl ?_);refine ie (some 57) rfl rfl Try.func127 (by kernel_rfl) rfl #[.int .i64 (wrap64 ((wrap64 ((wrap64 ((wrap64 ((wrap64 ((wrap64 (Md + 1)) + 1)) + 1)) + 1)) + 1)) + 1))] rfl paj ?_;(with_reducible refine (nc.calls k1 (wrap64 ((wrap64 ((wrap64 ((wrap64 ((wrap64 ((wrap64 (Md + 1)) + 1)) + 1)) + 1)) + 1)) + 1)) t107 _ A11.out).mono ?_);rintro e Jx ⟨rfl,hb⟩;refine ⟨_,rfl,?_⟩;have Pb:=aa.mk (Kd.ec Laj hb);have Rb:=aa.mk (Kept.below (S:=(fun k_=>Oi k_)) Daj hb);have Yb:=aa.mk (Ga maj hb);clear ee HK HB;have ee:=Pb;have HK:=Rb;have HB:=Yb;clear Pb Rb Yb;(try clear hb);(try clear Cl);(try clear hk);(try clear hi);have AZ:0 ≤ (Da:Int):=Ja;have zZ:(Da:Int) < ((Wc.length:Int):Int):=Ja;obtain ⟨wW,Rx,yB,Th,di⟩:=Kd.Ci ee.out Qi (Da:Int) AZ zZ;obtain rfl:=gf yB;have Qy:Jx.cell? ⟨lf,(Da:Int).toNat * 7,none⟩=some (.int .i64 ((ua Ae Da).f0)):=Th 0 _ rfl;have Py:Jx.cell? ⟨lf,(Da:Int).toNat * 7 + 1,none⟩=some (.int .i64 ((ua Ae Da).f1)):=Th 1 _ rfl;have Oy:Jx.cell? ⟨lf,(Da:Int).toNat * 7 + 2,none⟩=some (.int .i64 ((ua Ae Da).f2)):=Th 2 _ rfl;have Ny:Jx.cell? ⟨lf,(Da:Int).toNat * 7 + 3,none⟩=some (.int .i64 ((ua Ae Da).f3)):=Th 3 _ rfl;have My:Jx.cell? ⟨lf,(Da:Int).toNat * 7 + 4,none⟩=some (.int .i64 ((ua Ae Da).f4)):=Th 4 _ rfl;have JI:Jx.cell? ⟨lf,(Da:Int).toNat * 7 + 5,none⟩=some (.int .i64 ((ua Ae Da).f5)):=Th 5 _ rfl;have II:Jx.cell? ⟨lf,(Da:Int).toNat * 7 + 6,none⟩=some (.string ((ua Ae Da).f6)):=Th 6 _ rfl;have ez:Jx.frozen? ⟨lf,(Da:Int).toNat * 7,none⟩=false:=di 0;have dz:Jx.frozen? ⟨lf,(Da:Int).toNat * 7 + 1,none⟩=false:=di 1;have cz:Jx.frozen? ⟨lf,(Da:Int).toNat * 7 + 2,none⟩=false:=di 2;have bz:Jx.frozen? ⟨lf,(Da:Int).toNat * 7 + 3,none⟩=false:=di 3;have az:Jx.frozen? ⟨lf,(Da:Int).toNat * 7 + 4,none⟩=false:=di 4;have mJ:Jx.frozen? ⟨lf,(Da:Int).toNat * 7 + 5,none⟩=false:=di 5;have lJ:Jx.frozen? ⟨lf,(Da:Int).toNat * 7 + 6,none⟩=false:=di 6;clear Rx Th di yB;replace AZ:=eq_true AZ;replace zZ:=eq_true zZ;have KX:=aa.mk (show Kd.R Je 122 Jx w0.heap.size (fun k_=>(Oi k_ ∨ w.heap.size ≤ k_)) (.slice (some ⟨lf,0,none⟩) Wc.length Et) Ae from Laj);obtain ⟨xag,eP,WV,yJ,VO⟩:=Kd.Ci KX.out Qi (Da:Int) (Ja) (by have h_:(Da:Int) < ((Wc.length:Int):Int):=Ja;first|exact h_|(have e_:=(Kd.Ua ee.out).1;omega)|simpa using h_);obtain rfl:=gf WV;have bU:=Kd.Lt KX.out (Da:Int) (Ja) (by have h_:(Da:Int) < ((Wc.length:Int):Int):=Ja;first|exact h_|(have e_:=(Kd.Ua ee.out).1;omega)|simpa using h_) (seg:=[.string t107]) (j:=6) eP yJ (show 7 ≤ 7 from by decide) (x':=(⟨(ua Ae Da).f0,(ua Ae Da).f1,(ua Ae Da).f2,(ua Ae Da).f3,(ua Ae Da).f4,(ua Ae Da).f5,t107⟩:oc)) (Aj _ _ _ (⟨(ua Ae Da).f0,(ua Ae Da).f1,(ua Ae Da).f2,(ua Ae Da).f3,(ua Ae Da).f4,(ua Ae Da).f5,t107⟩:oc) ) (fun _ hk=>hk);have jR:=yJ 6 _ rfl;(try simp only [show (Je).sz=7 from rfl,Nat.mul_one,Nat.add_zero] at jR);have TR:=VO 6;(try simp only [show (Je).sz=7 from rfl,Nat.mul_one,Nat.add_zero] at TR);clear eP yJ VO WV)|((with_reducible refine Ce (t:=9) (p:=59) rfl ?_);refine Sd (t:=9) (p:=59) (v:=?M5) (w1:=(Jx.setCell ⟨lf,(Da:Int).toNat * 7 + 6,none⟩ (.string t107))) ?hg ?ho ?hn ?hr ?_;(case ho=>rfl);(case hg=>rfl);(case hn=>rfl);(case hr=>exact jaj);intro uZ hw;have hg:Jx.grownBy uZ (some lf):=(by rw [hw];exact bU.2);have Gj:Kd.R Je 122 uZ w0.heap.size (fun k_=>(Oi k_ ∨ w.heap.size ≤ k_)) (.slice (some ⟨lf,0,none⟩) Wc.length Et) uA:=(by rw [hw,Uw.out];exact bU.1);clear bU;have Pb:=aa.mk (Gj);have Rb:=aa.mk ((by rw [hw];exact ta (HB.out) nO.out:Below w0.heap.size w0 uZ));have Yb:=aa.mk (Kept.Af (S:=(fun k_=>Oi k_)) hg Daj (fun k_ e_=>(ee.out.1 k_ e_)));clear ee HB HK;have ee:=Pb;have HB:=Rb;have HK:=Yb;clear Pb Rb Yb hg hw Gj))
     go_roundg k1
     case measure=>have:=Kf.out;omega
     case rel=>exact ⟨(uA),(wrap64 ((wrap64 ((wrap64 ((wrap64 ((wrap64 ((wrap64 ((wrap64 (Md + 1)) + 1)) + 1)) + 1)) + 1)) + 1)) + 1)),(wrap64 (Da + 1)),raj,raj,H',⟨by have:=Kf.out;omega⟩,⟨hak⟩,⟨Kaj⟩,⟨qaj⟩⟩
    ·rw [if_neg c4] at H;exact absurd H (by simp)
   ·rw [if_neg c3] at H;have Ah:decide (Da < (Wc.length:Int))=false:=decide_eq_false c3;clear c3;simp only [Option.some.injEq,Prod.mk.injEq] at H;obtain ⟨rfl,rfl⟩:=H;obtain ⟨Baa,E_,US⟩:=Kd.Vb ee.out;subst US;go_wp2;go_ret;exact ⟨taj,hak,qaj,Kaj⟩
def jd.l0:Nat→List Int→Int→Int→Option (Int × List Int)
 | 0,_,_,_=>none
 | k + 1,x0,x1,x5=>if x5 < (x0.length:Int) then (if 0 ≤ x5 then (jd.l0 k (x0.set (x5:Int).toNat x1) (wrap64 (x1 + 1)) (wrap64 (x5 + 1))) else (none)) else (some (x1,x0))
def jd.f (k:Nat) (l0:List Int) (a1:Int):Option (Int × List Int):=jd.l0 k l0 a1 0
theorem jd.calls (k:Nat) (Oi:Nat→Prop) (Xe:Value) (l0:List Int) (a1:Int) (r1:Int) (r2:List Int) (w0 w:World) (hB:Below w0.heap.size w0 w) (Rg:Kd.R (Kd.int .i64) 3 w w0.heap.size Oi Xe l0) (h:jd.f k l0 a1=some (r1,r2)) :
  Calls Try.prog 20 #[Xe,.int .i64 a1] w fun e w'=>e = .returned (.int .i64 r1)∧Kd.R (Kd.int .i64) 3 w' w0.heap.size (fun k_=>(Oi k_ ∨ w.heap.size ≤ k_)) Xe r2∧Below w0.heap.size w0 w'∧Kept w w' (fun k_=>Oi k_):=by
 have LU:=aa.mk (show Kd.R (Kd.int .i64) 3 w w0.heap.size (fun k_=>(Oi k_ ∨ w.heap.size ≤ k_)) Xe l0 from Kd.Eb Rg (fun k_ hk=>(.inl hk)));have HK:=aa.mk (Kept.refl w (fun k_=>Oi k_));have S_:=aa.mk hB.size;have HB:=aa.mk hB;clear hB;have H:(jd.l0 k l0 a1 0)=some (r1,r2):=h;clear h;have H':=aa.mk H;clear H;go_enter Try.func20,Try.ntmps20;go_wp2
 go_loopg [1,5] k (fun kq v1 v5 w'=>∃ (Wc:List Int) (Md:Int) (Da:Int),v1 = .int .i64 Md∧v5 = .int .i64 Da∧aa (jd.l0 kq Wc Md Da=some (r1,r2))∧aa (kq ≤ k)∧aa (Kd.R (Kd.int .i64) 3 w' w0.heap.size (fun k_=>(Oi k_ ∨ w.heap.size ≤ k_)) Xe Wc)∧aa (Kept w w' (fun k_=>Oi k_))∧aa (Below w0.heap.size w0 w'))
 case atStart=>exact ⟨(l0),(a1),(0),raj,raj,H',⟨Nat.le_refl _⟩,⟨by (with_reducible repeat (first|apply Kd.Ia|apply Kd.La|apply Kd.Ra));exact LU.out⟩,⟨Kaj⟩,⟨qaj⟩⟩
 case round =>
  clear H'
  try clear c2
  try clear p2
  (try clear HA);(try clear Kf);(try clear ee);(try clear HK);(try clear HB);obtain ⟨Wc,Md,Da,rfl,rfl,HA,Kf,ee,HK,HB⟩:=hrel;cases gk with
  | zero=>exact absurd HA.out (by simp [jd.l0])
  | succ k1 =>
   have H:=HA.out;clear HA;simp only [jd.l0] at H
   by_cases c3:Da < (Wc.length:Int)
   ·rw [if_pos c3] at H;have Ah:decide (Da < (Wc.length:Int))=true:=decide_eq_true c3;clear c3
    by_cases c4:0 ≤ Da
    ·rw [if_pos c4] at H;have zm:decide (0 ≤ Da)=true:=decide_eq_true c4;clear c4;obtain ⟨Re,Ye⟩:∃ y_:List Int,y_=(Wc.set (Da:Int).toNat Md):=⟨_,rfl⟩;replace H:(jd.l0 k1 Re (wrap64 (Md + 1)) (wrap64 (Da + 1)))=some (r1,r2):=by first|(rw [Ye];with_reducible exact H)|(have Qc:=(Option.bind_some _ _).symm.trans H;rw [Ye];with_reducible exact Qc)|(have Qc:=(Option.bind_some _ _).symm.trans H;with_reducible exact Qc)|with_reducible exact H|(rw [Ye];exact H)|exact H
     have Zi:=aa.mk Ye;clear Ye;have H':=aa.mk H;clear H;obtain ⟨Ao6,Dt,X3⟩:=Kd.Vb ee.out;subst X3;have p5:0 ≤ (Da:Int):=Ja;have q5:(Da:Int) < ((Wc.length:Int):Int):=Ja;obtain ⟨lf,A_,NS,gW,J9,cl5,nQ⟩:=Kd.qj ee.out (by omega);(first|cases NS|(injection NS with ej qv tv;(first|subst ej|(injection ej with ej;subst ej));subst tv;clear qv));have nO:=aa.mk gW;have GG5:=aa.mk nQ;clear gW J9 nQ;have wY:=aa.mk (show (Oi lf ∨ w.heap.size ≤ lf) from (ee.out.1 _ rfl));obtain ⟨oV,JV⟩:=Kd.Dg 0 ee.out (Da:Int) p5 q5;replace p5:=eq_true p5;replace q5:=eq_true q5;have HP7:=Kd.vk ee.out (Da:Int) Md;go_wp2_with (first|((with_reducible refine Ce (t:=3) (p:=15) rfl ?_);refine Sd (t:=3) (p:=15) (v:=?Maa) (w1:=(wr.setCell ⟨lf,(Da:Int).toNat,none⟩ (.int .i64 Md))) ?hg ?ho ?hn ?hr ?_;(case ho=>rfl);(case hg=>rfl);(case hn=>rfl);(case hr=>exact jaj);intro w8 hw;have hg:wr.grownBy w8 (some lf):=(by rw [hw];exact HP7.2);have Gj:Kd.R (Kd.int .i64) 3 w8 w0.heap.size (fun k_=>(Oi k_ ∨ w.heap.size ≤ k_)) (.slice (some ⟨lf,0,none⟩) Wc.length Dt) Re:=(by rw [hw,Zi.out];exact HP7.1);clear HP7;have Pb:=aa.mk (Gj);have Rb:=aa.mk ((by rw [hw];exact ta (HB.out) nO.out:Below w0.heap.size w0 w8));have Yb:=aa.mk (Kept.Af (S:=(fun k_=>Oi k_)) hg Daj (fun k_ e_=>(ee.out.1 k_ e_)));clear ee HB HK;have ee:=Pb;have HB:=Rb;have HK:=Yb;clear Pb Rb Yb hg hw Gj))
     go_roundg k1
     case measure=>have:=Kf.out;omega
     case rel=>exact ⟨(Re),(wrap64 (Md + 1)),(wrap64 (Da + 1)),raj,raj,H',⟨by have:=Kf.out;omega⟩,⟨hak⟩,⟨Kaj⟩,⟨qaj⟩⟩
    ·rw [if_neg c4] at H;exact absurd H (by simp)
   ·rw [if_neg c3] at H;have Ah:decide (Da < (Wc.length:Int))=false:=decide_eq_false c3;clear c3;simp only [Option.some.injEq,Prod.mk.injEq] at H;obtain ⟨rfl,rfl⟩:=H;obtain ⟨Ao9,co9,V3⟩:=Kd.Vb ee.out;subst V3;go_wp2;go_ret;exact ⟨taj,hak,qaj,Kaj⟩
def Ie.f (k:Nat):List Wd→Int→Option (Int × List Wd)
 | [],a=>some (a,[])
 | x :: l,a=>(Zb.f k x.f0 a).bind fun t=>(Ie.f k l (wrap64 (wrap64 (wrap64 (wrap64 (t.1 + 1) + 1) + 1) + 1))).bind fun u=>some (u.1,⟨t.2,t.1,wrap64 (t.1 + 1),wrap64 (wrap64 (t.1 + 1) + 1),wrap64 (wrap64 (wrap64 (t.1 + 1) + 1) + 1)⟩ :: u.2)
theorem EL {α:Type} {done l:List α} {j:Nat} (x y:α) (h:done.length=j):(done ++ x :: l).set j y=(done ++ [y]) ++ l:=by
 subst h;rw [List.set_append_right _ _ (Nat.le_refl _),Nat.sub_self,List.set_cons_zero,List.append_assoc]
 rfl
theorem Ie.calls (k:Nat) (Oi:Nat→Prop) (Xe:Value) (l0:List Wd) (a1:Int) (r1:Int) (r2:List Wd) (w0 w:World) (hB:Below w0.heap.size w0 w) (Rg:Kd.S Km 83 w w0.heap.size Oi Xe l0) (h:Ie.f k l0 a1=some (r1,r2)) :
  Calls Try.prog 84 #[Xe,.int .i64 a1] w fun e w'=>e = .returned (.int .i64 r1)∧Kd.S Km 83 w' w0.heap.size (fun k_=>(Oi k_ ∨ w.heap.size ≤ k_)) Xe r2∧Below w0.heap.size w0 w'∧Kept w w' (fun k_=>Oi k_):=by
 obtain ⟨A,c,rfl,Ru,hC⟩:=Kd.vN Rg;have hm:=hC.2.1;have HS:=aa.mk (Kd.wg Rg (cl:=fun k_=>Oi k_ ∨ w.heap.size ≤ k_) (fun k_ hk=>.inl hk));have HB:=aa.mk hB;have HK:=aa.mk (Kept.refl w (fun k_=>Oi k_));have HH:=aa.mk h;clear Rg hC hB h;go_enter Try.func84,Try.ntmps84;go_wp2
 go_loopg [1,5] l0.length (fun gg v1 v5 wr=>∃ (j:Nat) (a:Int) (done rest:List Wd),j ≤ l0.length∧l0.length - j ≤ gg∧v1 = .int .i64 a∧v5 = .int .i64 j∧aa (done.length=j∧Ie.f k (l0.drop j) a=some (r1,rest)∧r2=done ++ rest)∧aa (Kd.S Km 83 wr w0.heap.size (fun k_=>Oi k_ ∨ w.heap.size ≤ k_) (.slice A l0.length c) (done ++ l0.drop j))∧aa (Below w0.heap.size w0 wr)∧aa (Kept w wr (fun k_=>Oi k_)))
 case atStart=>exact ⟨0,a1,[],r2,Nat.zero_le _,by omega,rfl,rfl,⟨rfl,by simpa using HH.out,rfl⟩,⟨by simpa using HS.out⟩,HB,HK⟩
 case round =>
  clear HS HB HK HH;(try clear HD);(try clear HS);(try clear HB);(try clear HK);obtain ⟨j,a,done,rest,hj,hg,rfl,rfl,HD,HS,HB,HK⟩:=hrel
  by_cases hlt:j < l0.length
  ·have ek:decide ((j:Int) < (l0.length:Int))=true:=decide_eq_true (by omega);obtain ⟨d1,d2,d3⟩:=HD.out;have vF:l0.drop j=l0[j] :: l0.drop (j + 1):=List.drop_eq_getElem_cons hlt;rw [vF] at d2;unfold Ie.f at d2;obtain ⟨⟨a2,PB⟩,t1,d2⟩:=Option.bind_eq_some_iff.mp d2;obtain ⟨⟨r1',rest'⟩,u1,d2⟩:=Option.bind_eq_some_iff.mp d2
   obtain ⟨rfl,rfl⟩:r1' = r1∧(⟨PB,a2,wrap64 (a2 + 1),wrap64 (wrap64 (a2 + 1) + 1),wrap64 (wrap64 (wrap64 (a2 + 1) + 1) + 1)⟩:Wd) :: rest' = rest:=by
    have:=Option.some.inj d2;exact ⟨congrArg Prod.fst this,congrArg Prod.snd this⟩
   have hlen:(done ++ l0.drop j).length=l0.length:=by rw [List.length_append,List.length_drop,d1];omega
   obtain ⟨g,cap,e1,hbg,Oaf,cells,Vp⟩:=Kd.Pw HS.out (by rw [hlen];omega);obtain rfl:A=some ⟨g,0,none⟩:=by injection e1
   clear e1;have yV:=(Kd.sL HS.out).1 g rfl;obtain ⟨dm,cs,hcs,hM,yw,mP,Uy,hH⟩:=Kd.Bu HS.out iA (j:Int) (by omega) (by omega)
   have hx:(done ++ l0.drop j).getD (Int.toNat (j:Int)) iA=l0[j]:=by
    rw [vF,Int.toNat_natCast,List.getD_eq_getElem?_getD,List.getElem?_append_right (by omega),d1];simp [List.getElem?_eq_getElem hlt]
   rw [hx] at hM;obtain ⟨v0,rfl,hR⟩:=gu hM;obtain ⟨A5,c5,rfl⟩:=Kd.Vb hR;have y0:=yw 0 _ rfl;have Z4:=aa.mk (yw 1 _ rfl);have PU:=aa.mk (yw 2 _ rfl);have NH:=aa.mk (yw 3 _ rfl);have Y4:=aa.mk (yw 4 _ rfl);have HH:=aa.mk hH;have HR:=aa.mk hR;have HT:=aa.mk t1;have HU:=aa.mk u1;have jY:=aa.mk Uy;have HG:=aa.mk yV;have HX:=aa.mk Vp;have HD:=aa.mk (And.intro d1 d3);have HDR:=aa.mk vF;simp only [Int.toNat_natCast,show Km.sz=5 from rfl,Nat.add_zero] at y0 Z4 PU NH Y4;clear hH hR yw mP hM hx Uy yV Vp t1 u1 d1 d2 d3 vF hcs;go_wp2_with (first|(go_at_call 111;(with_reducible refine (Zb.calls k dm _ l0[j].f0 a a2 PB w0 wr HB.out HR.out HT.out).mono ?_);rintro e w1 ⟨rfl,hr,hb,hk⟩;have RP:=aa.mk hr;have Vo:=aa.mk hb;have Kf:=aa.mk hk;have KO:¬ dm g:=fun h=>(jY.out g h).2 rfl;have hblk:=jg HX.out hk KO;have z1:=Fq Z4.out hk KO;have z2:=Fq PU.out hk KO;have z3:=Fq NH.out hk KO;have z4:=Fq Y4.out hk KO;have z5:=za hblk (j * 5 + 1);have z6:=za hblk (j * 5 + 2);have z7:=za hblk (j * 5 + 3);have z8:=za hblk (j * 5 + 4);clear hr hb hk KO hblk));have HH1:=aa.mk (Kd.JT (Kd.fG HH.out) Kf.out (fun k_ _ hn hs=>hn (.inl hs)));obtain ⟨HS1,hgr⟩:=Kd.KP HH1.out (by omega) (by omega) (seg:=[.int .i64 a2,.int .i64 (wrap64 (a2 + 1)),.int .i64 (wrap64 (wrap64 (a2 + 1) + 1)),.int .i64 (wrap64 (wrap64 (wrap64 (a2 + 1) + 1) + 1))]) (j:=1) (show 1 + 4 ≤ 5 from by decide) (by intro q hq;simp at hq;rcases hq with rfl|rfl|rfl|rfl <;> rfl)
   go_roundg (l0.length - (j + 1))
   case measure=>omega
   case rel =>
    have hle:w.heap.size ≤ wr.heap.size:=HK.out.1;have KO:∀ k_,(dm k_ ∨ wr.heap.size ≤ k_)→k_ ≠ g:=fun k_ hk=>hk.elim (fun h=>(jY.out k_ h).2) (fun h=>by omega)
    have hin:=Kd.Kq RP.out hgr (fun k_ hk e=>KO k_ hk (by injection e));have hfin:=Kd.LK HS1 (x':=⟨PB,a2,wrap64 (a2 + 1),wrap64 (wrap64 (a2 + 1) + 1),wrap64 (wrap64 (wrap64 (a2 + 1) + 1) + 1)⟩) (Hy _ _ _ _ hin) (fun k_ hk=>hk.elim .inl (fun h=>.inr ⟨.inr (by omega),h⟩))
    have Ty:(done ++ l0.drop j).set (Int.toNat (j:Int)) (⟨PB,a2,wrap64 (a2 + 1),wrap64 (wrap64 (a2 + 1) + 1),wrap64 (wrap64 (wrap64 (a2 + 1) + 1) + 1)⟩:Wd)=(done ++ [⟨PB,a2,wrap64 (a2 + 1),wrap64 (wrap64 (a2 + 1) + 1),wrap64 (wrap64 (wrap64 (a2 + 1) + 1) + 1)⟩]) ++ l0.drop (j + 1):=by
     rw [HDR.out,Int.toNat_natCast];exact EL _ _ HD.out.1
    rw [Ty] at hfin;have hb4:=Vo.out.grown hgr Vo.out.size (fun k_ e=>by injection e with e;omega);have hk4:=Kept.Af hgr (HK.out.Lu Kf.out (fun k_ hk=>(jY.out k_ hk).1)) (fun k_ e=>by injection e with e;subst e;exact HG.out);exact ⟨j + 1,_,_,rest',by omega,by omega,rfl,by go_num,⟨by simp [HD.out.1],HU.out,by rw [HD.out.2];simp⟩,⟨hfin⟩,⟨hb4⟩,⟨hk4⟩⟩
  ·have ek:decide ((j:Int) < (l0.length:Int))=false:=decide_eq_false (by omega);obtain rfl:j=l0.length:=by omega
   obtain ⟨d1,d2,d3⟩:=HD.out;rw [List.drop_length] at d2;unfold Ie.f at d2
   obtain ⟨rfl,rfl⟩:a=r1∧[]=rest:=by
    have:=Option.some.inj d2;exact ⟨congrArg Prod.fst this,congrArg Prod.snd this⟩
   have HD:=aa.mk d3;clear d1 d2 d3;go_wp2;go_ret;refine ⟨rfl,?_,HB.out,HK.out⟩;have:=HS.out;rw [List.drop_length] at this;rw [HD.out];exact this
def dg.f (k:Nat) (Ma:List Int) (Oa:Int) (Pa:Int) (Na:Int) (oa:List Wd) (a1:Int):Option (Int × List Int × List Wd):=(jd.f k Ma a1).bind fun t=>(Ie.f k oa t.1).bind fun u=>some (u.1,t.2,u.2)
theorem dg.calls (k:Nat) (kC:Nat→Prop) (Xe:Value) (Ma:List Int) (Oa:Int) (Pa:Int) (Na:Int) (jC:Nat→Prop) (IC:Value) (oa:List Wd) (a1:Int) (r1:Int) (r2:List Int) (r3:List Wd) (w0 w:World) (hB:Below w0.heap.size w0 w) (aJ:Kd.R (Kd.int .i64) 3 w w0.heap.size kC Xe Ma) (ZI:Kd.S Km 83 w w0.heap.size jC IC oa) (h:dg.f k Ma Oa Pa Na oa a1=some (r1,r2,r3)) :
  Calls Try.prog 32 #[.agg #[Xe,.int .i64 Oa,.int .i64 Pa,.int .i64 Na,IC],.int .i64 a1] w fun e w'=>e = .returned (.int .i64 r1)∧Kd.R (Kd.int .i64) 3 w' w0.heap.size (fun k_=>((kC k_ ∨ jC k_) ∨ w.heap.size ≤ k_)) Xe r2∧Kd.S Km 83 w' w0.heap.size (fun k_=>((kC k_ ∨ jC k_) ∨ w.heap.size ≤ k_)) IC r3∧Below w0.heap.size w0 w'∧Kept w w' (fun k_=>kC k_ ∨ jC k_):=by
 obtain ⟨A0,c0,rfl⟩:=Kd.Vb aJ;obtain ⟨A4,c4,rfl⟩:=Kd.Jq ZI;unfold dg.f at h;obtain ⟨⟨b1,b2⟩,t1,h⟩:=Option.bind_eq_some_iff.mp h;obtain ⟨⟨b3,b4⟩,t2,h⟩:=Option.bind_eq_some_iff.mp h
 obtain ⟨rfl,rfl,rfl⟩:b3=r1∧b2=r2∧b4=r3:=by
  have:=Option.some.inj h;exact ⟨congrArg Prod.fst this,congrArg (fun x=>x.2.1) this,congrArg (fun x=>x.2.2) this⟩
 obtain ⟨W1,tf⟩:∃ W1,W1=w.alloc (.cells #[.slice A0 Ma.length c0,.int .i64 Oa,.int .i64 Pa,.int .i64 Na,.slice A4 oa.length c4] 45 (0,0)):=⟨_,rfl⟩;have HW:=aa.mk tf;have RV:Below w.heap.size w W1:=by rw [tf];exact ia (Below.refl _ _) _
 have o9:W1.heap[w.heap.size]? = some (.cells #[.slice A0 Ma.length c0,.int .i64 Oa,.int .i64 Pa,.int .i64 Na,.slice A4 oa.length c4] 45 (0,0)):=by rw [tf];exact ij _ _
 have H0:=aa.mk (Kd.We (Kd.ec aJ RV));have H4:=aa.mk (Kd.Ro (Kd.ki ZI RV));have HB:=aa.mk (hB.trans (RV.mono hB.size));have HK:=aa.mk (Kept.xj RV (fun k_=>kC k_ ∨ jC k_));have HT1:=aa.mk t1;have HT2:=aa.mk t2;have HX:=aa.mk o9;have hx0:=(ya o9 0).trans rfl;clear tf RV aJ ZI hB t1 t2 h o9;go_enter Try.func32,Try.ntmps32
 go_upto_region 1 with (fail)
 rw [← HW.out];clear HW;go_wp2_with (first|(go_at_call 20;(with_reducible refine (jd.calls k _ _ Ma a1 b1 b2 w0 W1 HB.out H0.out HT1.out).mono ?_);rintro e w2 ⟨rfl,hr,hb,hk⟩;have IU:=aa.mk hr;have Li:=aa.mk hb;have aj:=aa.mk hk;have AH:=aa.mk (jg HX.out hk (by rintro ⟨_,_,_,q,hq,cells,hc⟩;rw [HX.out] at hc;injection hc with hc;injection hc with _ hc;rw [← hc] at hq;simp [Kd.int,Kd.scalar] at hq));have hy4:=(ya AH.out 4).trans rfl;have HS2:=aa.mk (Kd.Sz H4.out aj.out (by rintro k_ ⟨_,_,_,q,hq,cells,hc⟩ ⟨_,_,_,q2,oL,mT,Lv⟩;rw [hc] at Lv;injection Lv with Lv;injection Lv with _ Lv;rw [← Lv] at oL;simp [Kd.int,Kd.scalar] at oL;rw [oL] at hq;revert hq;decide));clear hr hb hk)|(go_at_call 84;(with_reducible refine (Ie.calls k _ _ oa b1 b3 b4 w0 w2 Li.out HS2.out HT2.out).mono ?_);rintro e w3 ⟨rfl,hr,hb,hk⟩;have Q4:=aa.mk hr;have vo:=aa.mk hb;have BH:=aa.mk hk;clear hr hb hk));go_ret;refine ⟨rfl,?_,?_,vo.out,?_⟩
 ·refine Kd.Eb (Kd.gq IU.out BH.out ?_) (fun k_ hk=>hk.elim (fun h=>.inl (.inl h.1)) (fun h=>.inr (Nat.le_trans HK.out.1 h)));rintro k_ hk ⟨_,_,hlt,q2,oL,mT,Lv⟩
  rcases hk with ⟨_,_,_,q,hq,cells,hc⟩|hk
  ·rw [hc] at Lv;injection Lv with Lv
   injection Lv with _ Lv
   rw [← Lv] at oL;simp [Kd.int,Kd.scalar] at hq;rw [hq] at oL;revert oL
   decide
  ·omega
 ·exact Kd.wg Q4.out (fun k_ hk=>hk.elim (fun h=>.inl (.inr h.1)) (fun h=>.inr (Nat.le_trans HK.out.1 (Nat.le_trans aj.out.1 h))))
 ·exact (HK.out.Lu aj.out (fun k_ hk=>.inl (.inl hk.1))).Lu BH.out (fun k_ hk=>.inl (.inr hk.1))
section
variable {l0:List Int} {p v s:Int} {l4:List Wd}
theorem jN (l:List Wd) (b:Wd) (hb:b ∈ l):b.f0.length ≤ Rc l:=by
 unfold Rc;exact nw (List.mem_map.mpr ⟨b,hb,rfl⟩)
end
end Go.Proofs.Ytoomcmaifgkkfaa.P
end
section
namespace Go.Proofs.Ytoomcmaifgkkfaa.P
open Go.RowKit Go.Proofs.Aa.Db Go.Proofs.Aa.Tc Go.Proofs.Aa.ke
set_option linter.unusedVariables false
set_option linter.unusedSimpArgs false
attribute [local go_sem] fh bh Zh Yh mg lg dh ah
def Jd.l0:Nat→List Int→Int→Int→Option (Int)
 | 0,_,_,_=>none
 | k + 1,x0,x1,x5=>if x5 < (x0.length:Int) then (if 0 ≤ x5 then (if (rd x0 x5)=x1 then (Jd.l0 k x0 (wrap64 (x1 + 1)) (wrap64 (x5 + 1))) else (some (-1))) else (none)) else (some x1)
def Jd.f (k:Nat) (l0:List Int) (a1:Int):Option (Int):=Jd.l0 k l0 a1 0
theorem Jd.calls (k:Nat) (A0:Option Addr) (c0:Nat) (l0:List Int) (a1:Int) (r:Int) (w:World) (Hi:Kd.C (Kd.int .i64) w A0 l0.length l0) (hc0:l0.length ≤ c0) (h:Jd.f k l0 a1=some r) :
  Calls Try.prog 21 #[.slice A0 l0.length c0,.int .i64 a1] w fun e w'=>e = .returned (.int .i64 r)∧Sb w w':=by
 have ak:=aa.mk Hi;have oy:=aa.mk hc0;clear Hi hc0;have H:(Jd.l0 k l0 a1 0)=some r:=h;clear h;have H':=aa.mk H;clear H;go_enter Try.func21,Try.ntmps21;go_wp2
 go_loopg [1,5] k (fun kq v1 v5 w'=>∃ (Md:Int) (Da:Int),v1 = .int .i64 Md∧v5 = .int .i64 Da∧aa (Jd.l0 kq l0 Md Da=some r)∧aa (kq ≤ k)∧Sb w w')
 case atStart=>exact ⟨(a1),(0),raj,raj,H',⟨Nat.le_refl _⟩,xaj⟩
 case round =>
  clear H'
  try clear c2
  try clear p2
  (try clear HA);(try clear Kf);obtain ⟨Md,Da,rfl,rfl,HA,Kf,⟨m1,rfl⟩⟩:=hrel;cases gk with
  | zero=>exact absurd HA.out (by simp [Jd.l0])
  | succ k1 =>
   have H:=HA.out;clear HA;simp only [Jd.l0] at H
   by_cases c3:Da < (l0.length:Int)
   ·rw [if_pos c3] at H;have Ah:decide (Da < (l0.length:Int))=true:=decide_eq_true c3;clear c3
    by_cases c4:0 ≤ Da
    ·rw [if_pos c4] at H;have zm:decide (0 ≤ Da)=true:=decide_eq_true c4;clear c4
     by_cases c5:(rd l0 Da)=Md
     ·rw [if_pos c5] at H;have Rq:=beq_iff_eq.mpr c5;have LD:=bne_eq_false_iff_eq.mpr c5;clear c5;have H':=aa.mk H;clear H;have Mf:0 ≤ (Da:Int):=Ja;have Lf:Da < (l0.length:Int):=Ja;obtain ⟨Cm,Sj,Cf⟩:=Kd.Ld ak.out Da Mf Lf;cases Sj;replace Mf:=eq_true Mf;replace Lf:=eq_true Lf;go_wp2
      go_roundg k1
      case measure=>have:=Kf.out;omega
      case rel=>exact ⟨(wrap64 (Md + 1)),(wrap64 (Da + 1)),raj,raj,H',⟨by have:=Kf.out;omega⟩,xaj⟩
     ·rw [if_neg c5] at H;have Rq:=beq_eq_false_iff_ne.mpr c5;have LD:=bne_iff_ne.mpr c5;obtain rfl:=Option.some.inj H;have Mf:0 ≤ (Da:Int):=Ja;have Lf:Da < (l0.length:Int):=Ja;obtain ⟨Cm,Sj,Cf⟩:=Kd.Ld ak.out Da Mf Lf;cases Sj;replace Mf:=eq_true Mf;replace Lf:=eq_true Lf;go_wp2;go_ret;exact ⟨Naj,xaj⟩
    ·rw [if_neg c4] at H;exact absurd H (by simp)
   ·rw [if_neg c3] at H;have Ah:decide (Da < (l0.length:Int))=false:=decide_eq_false c3;clear c3;obtain rfl:=Option.some.inj H;go_wp2;go_ret;exact ⟨Naj,xaj⟩
theorem Tu (l:List Int) (m:Int) (hm:0 ≤ m) (hl:m + l.length ≤ 4611686018427387904):Ev (fun k=>jd.f k l m) (m + l.length,iota m l.length):=by
 have key:=oh (r:=(m + (l.length:Int),iota m l.length)) (n:=l.length) (fun i=>Ev (fun k=>jd.l0 k ((iota m l.length).take i ++ l.drop i) (m + i) (i:Int)) (m + (l.length:Int),iota m l.length)) ?_ ?_ 0 (by omega)
 ·refine Ev.congr (fun k=>?_) key;unfold jd.f;simp
 ·refine Ev.step (fun k=>by rw [jd.l0]) ?_;refine Ev.neg (by simp [si]) ?_;rw [List.drop_length,List.append_nil,List.take_of_length_le (by rw [si];omega)];exact Ev.now _
 ·intro i hi h;refine Ev.step (fun k=>by rw [jd.l0]) ?_;refine Ev.pos (by simp [si];omega) (Ev.pos (by omega) ?_);have h1:m + (i:Int)=(iota m l.length).getD i 0:=(Px hi).symm;rw [Ve hi (by omega),bg (by omega) (by omega),Int.toNat_natCast];rw [show ((iota m l.length).take i ++ l.drop i).set i (m + (i:Int))=(iota m l.length).take (i + 1) ++ l.drop (i + 1) from by rw [h1];exact JA (by rw [si]) (by rw [si];exact hi)];rw [show m + (i:Int) + 1=m + ((i + 1:Nat):Int) from by omega];exact h
theorem JB (m:Int) (n:Nat) (hm:0 ≤ m) (hl:m + n ≤ 4611686018427387904):Ev (fun k=>Jd.f k (iota m n) m) (m + n):=by
 have key:=oh (r:=m + (n:Int)) (n:=n) (fun i=>Ev (fun k=>Jd.l0 k (iota m n) (m + i) (i:Int)) (m + (n:Int))) ?_ ?_ 0 (by omega)
 ·refine Ev.congr (fun k=>?_) key;unfold Jd.f;simp
 ·refine Ev.step (fun k=>by rw [Jd.l0]) ?_;exact Ev.neg (by rw [si];omega) (Ev.now _)
 ·intro i hi h;refine Ev.step (fun k=>by rw [Jd.l0]) ?_;refine Ev.pos (by rw [si];omega) (Ev.pos (by omega) (Ev.pos (by rw [xy,Px hi]) ?_));rw [Ve hi (by omega),bg (by omega) (by omega)];rw [show m + (i:Int) + 1=m + ((i + 1:Nat):Int) from by omega];exact h
theorem Wq (a:Int):(strOfNums [a]).size=1:=by
 simp [strOfNums]
 rfl
theorem Fy (n:Int) (hn:n ≤ 4611686018427387904):∃ t,Ev (fun k=>nc.f k n) t:=by
 have key:∀ (d:Nat) (x:Int) (s:ByteArray),0 ≤ x→x < (10 ^ d:Nat)→x ≤ 4611686018427387904→s.size + d ≤ 1000000→∃ t,Ev (fun k=>nc.l0 k x s) t:=by
  intro d
  induction d with
  | zero =>
   intro x s h0 h1 _ hs;have h1':x < 1:=h1;refine ⟨_,Ev.step (fun k=>by rw [nc.l0]) (Ev.neg (by omega) (Ev.pos (by omega) (Ev.now _)))⟩
  | succ d ih =>
   intro x s h0 h1 h2 hs
   by_cases hx:x > 0
   ·have e1:Int.tdiv x 10=x / 10:=Int.tdiv_eq_ediv_of_nonneg h0;have e2:wrap64 (x / 10)=x / 10:=bg (by omega) (by omega)
    have h1':x / 10 < (10 ^ d:Nat):=by
     have:((10 ^ (d + 1):Nat):Int)=(10 ^ d:Nat) * 10:=by rw [Nat.pow_succ];simp
     rw [this] at h1;omega
    obtain ⟨t,ht⟩:=ih (x / 10) (strOfNums [(wrap64 (48 + (Int.tmod x 10))) % 256] ++ s) (by omega) h1' (by omega) (by rw [ByteArray.size_append,Wq];omega);refine ⟨t,Ev.step (fun k=>by rw [nc.l0]) (Ev.pos hx ?_)⟩;simp only [Option.bind_some];refine Ev.pos (by rw [Wq];omega) ?_;rw [e1,e2];exact ht
   ·exact ⟨_,Ev.step (fun k=>by rw [nc.l0]) (Ev.neg hx (Ev.pos (by omega) (Ev.now _)))⟩
 unfold nc.f
 by_cases h:n ≤ 0
 ·exact ⟨_,Ev.pos h (Ev.now _)⟩
 ·obtain ⟨t,ht⟩:=key 19 n ⟨#[]⟩ (by omega) (by omega) hn (by decide);exact ⟨t,Ev.neg h ht⟩
def zh (T:Nat→ByteArray) (m:Int) (n:Nat):List oc:=(List.range n).map fun (j:Nat)=>(⟨m + 7 * (j:Int),m + 7 * (j:Int) + 1,m + 7 * (j:Int) + 2,m + 7 * (j:Int) + 3,m + 7 * (j:Int) + 4,m + 7 * (j:Int) + 5,T j⟩:oc)
theorem yh (T:Nat→ByteArray) (m:Int) (n:Nat):(zh T m n).length=n:=by simp [zh]
theorem tw {T:Nat→ByteArray} {m:Int} {n j:Nat} (h:j < n):(zh T m n).getD j Qi=(⟨m + 7 * (j:Int),m + 7 * (j:Int) + 1,m + 7 * (j:Int) + 2,m + 7 * (j:Int) + 3,m + 7 * (j:Int) + 4,m + 7 * (j:Int) + 5,T j⟩:oc):=by simp [zh,List.getD_eq_getElem?_getD,h]
theorem uy {x:List oc} {i:Nat} (h:i < x.length) (a:oc):ua (x.set i a) (i:Int)=a:=by
 simp [ua,List.getD_eq_getElem?_getD,h]
theorem WU {a:Int} (h0:0 ≤ a) (h1:a + 7 ≤ 4611686018427387904):wrap64 (a + 1)=a + 1∧wrap64 (a + 1 + 1)=a + 2∧wrap64 (a + 2 + 1)=a + 3∧wrap64 (a + 3 + 1)=a + 4∧wrap64 (a + 4 + 1)=a + 5∧wrap64 (a + 5 + 1)=a + 6∧wrap64 (a + 6 + 1)=a + 7:=by
 refine ⟨?_,?_,?_,?_,?_,?_,?_⟩
 all_goals
  rw [bg (by omega) (by omega)]
  try omega
def FH (l:List Wd):Nat:=(l.map fun x=>7 * x.f0.length + 4).sum
theorem mw (x:Wd) (l:List Wd):FH (x :: l)=7 * x.f0.length + 4 + FH l:=by simp [FH]
theorem XU {a:Int} (h0:0 ≤ a) (h1:a + 4 ≤ 4611686018427387904):wrap64 (a + 1)=a + 1∧wrap64 (a + 1 + 1)=a + 2∧wrap64 (a + 2 + 1)=a + 3∧wrap64 (a + 3 + 1)=a + 4:=by
 refine ⟨?_,?_,?_,?_⟩
 all_goals
  rw [bg (by omega) (by omega)]
  try omega
theorem xx (l:List oc) (m:Int) (hm:0 ≤ m) (hl:m + 7 * l.length ≤ 4611686018427387904):∃ ms:List oc,Ev (fun k=>Zb.f k l m) (m + 7 * l.length,ms):=by
 have hT:∀ j:Nat,∃ t,j < l.length→Ev (fun k=>nc.f k (m + 7 * (j:Int) + 6)) t:=by
  intro j
  by_cases hj:j < l.length
  ·obtain ⟨t,ht⟩:=Fy (m + 7 * (j:Int) + 6) (by omega);exact ⟨t,fun _=>ht⟩
  ·exact ⟨⟨#[]⟩,fun h=>absurd h hj⟩
 obtain ⟨T,hT⟩:=Classical.axiomOfChoice hT;refine ⟨zh T m l.length,?_⟩
 ·have key:=oh (r:=(m + 7 * (l.length:Int),zh T m l.length)) (n:=l.length) (fun i=>Ev (fun k=>Zb.l0 k ((zh T m l.length).take i ++ l.drop i) (m + 7 * i) (i:Int)) (m + 7 * (l.length:Int),zh T m l.length)) ?_ ?_ 0 (by omega)
  ·refine Ev.congr (fun k=>?_) key;unfold Zb.f;simp
  ·refine Ev.step (fun k=>by rw [Zb.l0]) ?_;refine Ev.neg (by simp [yh]) ?_;rw [List.drop_length,List.append_nil,List.take_of_length_le (by rw [yh];omega)];exact Ev.now _
  ·intro i hi h;have hlen:((zh T m l.length).take i ++ l.drop i).length=l.length:=by simp [yh];omega
   have Ty:=JA (m:=zh T m l.length) (l:=l) (z:=Qi) (i:=i) (by rw [yh]) (by rw [yh];exact hi);rw [tw hi] at Ty;generalize hx:(zh T m l.length).take i ++ l.drop i=x at hlen Ty ⊢;refine Ev.step (fun k=>by rw [Zb.l0]) ?_;refine Ev.pos (by omega) (Ev.pos (by omega) ?_);simp only [Int.toNat_natCast,Option.bind_some];have hi1:i < x.length:=by omega
   simp only [uy hi1,List.set_set];obtain ⟨w1,w2,w3,w4,w5,w6,w7⟩:=WU (a:=m + 7 * (i:Int)) (by omega) (by omega);simp only [w1,w2,w3,w4,w5,w6,w7];refine Ev.bind (hT i hi) ?_;rw [Ve hi (by omega),show m + 7 * (i:Int) + 7=m + 7 * ((i + 1:Nat):Int) from by omega,Ty];exact h
theorem zx (l:List Wd):∀ (m:Int),0 ≤ m→m + FH l ≤ 4611686018427387904→∃ ms:List Wd,Ev (fun k=>Ie.f k l m) (m + FH l,ms):=by
 induction l with
 | nil =>
  intro m hm hl;refine ⟨[],?_⟩;unfold Ie.f;simp only [FH,List.map_nil,List.sum_nil,Int.natCast_zero,Int.add_zero];exact Ev.now _
 | cons x l ih =>
  intro m hm hl;rw [mw] at hl;obtain ⟨c,c1⟩:=xx x.f0 m hm (by omega);obtain ⟨ms,m1⟩:=ih (m + 7 * x.f0.length + 4) (by omega) (by omega);obtain ⟨w1,w2,w3,w4⟩:=XU (a:=m + 7 * (x.f0.length:Int)) (by omega) (by omega);have hv:m + ((7 * x.f0.length + 4 + FH l:Nat):Int)=m + 7 * (x.f0.length:Int) + 4 + FH l:=by omega
  rw [mw,hv];refine ⟨⟨c,m + 7 * x.f0.length,m + 7 * x.f0.length + 1,m + 7 * x.f0.length + 2,m + 7 * x.f0.length + 3⟩ :: ms,?_⟩;unfold Ie.f;refine Ev.bind c1 ?_;simp only [w1,w2,w3,w4];exact Ev.bind m1 (Ev.now _)
theorem yx (l0:List Int) (p v s:Int) (l4:List Wd) (m:Int) (hm:0 ≤ m) (hl:m + l0.length + FH l4 ≤ 4611686018427387904):∃ ms:List Wd,Ev (fun k=>dg.f k l0 p v s l4 m) (m + l0.length + FH l4,iota m l0.length,ms):=by
 obtain ⟨ms,m1⟩:=zx l4 (m + l0.length) (by omega) (by omega);refine ⟨ms,?_⟩;unfold dg.f;exact Ev.bind (Tu l0 m hm (by omega)) (Ev.bind m1 (Ev.now _))
theorem UQ (l:List Wd):FH l ≤ 7 * Rc l + 4 * l.length:=by
 induction l with
 | nil=>simp [FH]
 | cons x l ih =>
  have:Rc (x :: l)=x.f0.length + Rc l:=by simp [Rc]
  rw [mw,this,List.length_cons];omega
theorem MC (l:List nj):Rc (l.map Bf) ≤ DQ l:=by
 unfold Rc DQ;rw [List.map_map]
 have:∀ l:List nj,(l.map ((fun (x:Wd)=>x.f0.length) ∘ Bf)).sum ≤ (l.map fun x=>vG x.f0).sum:=by
  intro l
  induction l with
  | nil=>simp
  | cons a l ih =>
   rw [List.map_cons,List.map_cons,List.sum_cons,List.sum_cons]
   have:((fun (x:Wd)=>x.f0.length) ∘ Bf) a ≤ vG a.f0:=by
    simp [Bf,vG]
   omega
 have:=this l;omega
theorem rD (x:DU) (hf:PJ x):∃ t:Int,Ev (fun k=>jh.f k x.f0 x.f1 x.f2 x.f3 x.f4 1048576) t∧(¬ t < 0→x.f0.length ≤ 1048576∧(x.f4.map Bf).length ≤ 1048576∧Rc (x.f4.map Bf) ≤ 1048576 ∧
  Ev (fun k=>cg.f k x.f0 x.f1 x.f2 x.f3 x.f4) (x.f0,x.f1,x.f2,x.f3,x.f4.map Bf)∧Ev (fun k=>mh.f k x.f0 x.f1 x.f2 x.f3 (x.f4.map Bf) x.f0 x.f1 x.f2 x.f3 (x.f4.map Bf)) true ∧
  ∃ M:Int × List Int × List Wd,Ev (fun k=>dg.f k x.f0 x.f1 x.f2 x.f3 (x.f4.map Bf) 1) M∧0 ≤ M.1∧M.1 ≤ 4398046511104):=by
 obtain ⟨h0,_,_,_,h4⟩:=hf;obtain ⟨t,e1,e2,e3⟩:=wD x.f0 x.f1 x.f2 x.f3 x.f4 1048576 (by omega) (by omega) h0.1 h4.1 (fun y hy=>⟨(h4.2 y hy).1.1,fun z hz=>((h4.2 y hy).1.2 z hz).2.2.2.2.2.2⟩);refine ⟨t,e1,fun ht=>?_⟩;have e:=e3 (by omega);obtain ⟨hb4,hbc⟩:=CA (l:=x.f4) (n:=1048576) (by omega);have hl:(x.f4.map Bf).length ≤ 1048576:=by rw [List.length_map];exact hb4
 have hst:=MC x.f4;have hm:=UQ (x.f4.map Bf);obtain ⟨ms,m1⟩:=yx x.f0 x.f1 x.f2 x.f3 (x.f4.map Bf) 1 (by omega) (by omega)
 exact ⟨by omega,hl,by omega,vD x.f0 x.f1 x.f2 x.f3 x.f4 (by omega) hb4 hbc,xD x.f0 x.f1 x.f2 x.f3 (x.f4.map Bf) (by omega) (by omega) (fun y hy=>by
  have:=jN _ _ hy
  omega),_,m1,by simp only;omega,by simp only;omega⟩
theorem ot (k:Nat) (A:Option Addr) (c n:Nat) (l:List Int) (a r:Int) (w:World) (hn:l.length=n) (hr:Kd.C (Kd.int .i64) w A l.length l) (hc:n ≤ c) (h:Jd.f k l a=some r):Calls Try.prog 21 #[.slice A n c,.int .i64 a] w fun e w'=>e = .returned (.int .i64 r)∧Sb w w':=by
 subst hn;exact Jd.calls k A c l a r w hr hc h
end Go.Proofs.Ytoomcmaifgkkfaa.P
end
