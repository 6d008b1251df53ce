import Derived.Shelf.Abstract
import Derived.Outline
import Derived.RegionTactic
import Derived.StillTailTactics
import Derived.Test.YtkigbdceceeenaaQLiveIn1
import Derived.Test.YtkigbdceceeenaaQLiveIn6
import Derived.Test.YtkigbdceceeenaaQLiveIn9
import Derived.Test.YtkigbdceceeenaaQLiveIn5
import Derived.Test.YtkigbdceceeenaaQLiveIn4
import Derived.Test.YtkigbdceceeenaaQLiveIn3
set_option maxHeartbeats 8000000
set_option maxRecDepth 100000
section
namespace Go.Proofs.Ytkigbdceceeenaa.P
open Go.RowKit Go.Proofs.Sa.Wb Go.Proofs.Sa.je Go.Proofs.Sa.Qf
set_option linter.unusedVariables false
set_option linter.unusedSimpArgs false
noncomputable def Mh.f (Ra:List Int) (La:Int) (Ja:Int) (Ia:Int) (Fa:List (We)):Option (List (List Bool)):=open Classical in if 0 ≤ Ia∧sr Fa Ia.toNat then some (dm Fa Ia.toNat) else none
theorem Mh.calls (Za:Option Addr) (gb:Nat) (Ra:List Int) (La:Int) (Ja:Int) (Ia:Int) (Vb:Option Addr) (Lb:Nat) (Fa:List (We)) (r:List (List Bool)) (w:World) (Zd:Kd.C (Kd.int .i64) w Za Ra.length Ra) (Xd:Ra.length ≤ gb) (Tf:Kd.C Kp w Vb Fa.length Fa) (Kf:Fa.length ≤ Lb) (h:Mh.f Ra La Ja Ia Fa=some r) :
  Calls Try.prog 47 #[.agg #[.slice Za Ra.length gb,.int .i64 La,.int .i64 Ja,.int .i64 Ia,.slice Vb Fa.length Lb]] w fun e w'=>∃ Km:Value,e = .returned (Km)∧Kd.S (Kd.slice 4 Kd.bool) 60 w' w.heap.size (fun _=>True) Km r∧Below w.heap.size w w':=by
 unfold Mh.f at h
 by_cases hf:0 ≤ Ia∧sr Fa Ia.toNat
 case neg=>rw [if_neg hf] at h;cases h
 rw [if_pos hf] at h;obtain rfl:=Option.some.inj h;obtain ⟨hn0,hO⟩:=hf;obtain ⟨n,rfl⟩:∃ n:Nat,Ia=(n:Int):=⟨Ia.toNat,(Int.toNat_of_nonneg hn0).symm⟩;have Iat:=ja.mk (show dm Fa ((n:Int)).toNat=dm Fa n from by rw [Int.toNat_natCast]);rw [Int.toNat_natCast] at hO;clear h hn0;have HO:=ja.mk hO;have hn:n ≤ 1048576:=hO.2.1;have hm0:0 < Fa.length:=hO.1.1;have hm1:Fa.length ≤ 1048576:=hO.1.2.1;clear hO;obtain ⟨W1,Pf⟩:∃ W1,W1=((w.alloc (.cells #[.slice Za Ra.length gb,.int .i64 La,.int .i64 Ja,.int .i64 (n:Int),.slice Vb Fa.length Lb] 30 (0,0))).alloc (.cells #[] 60 (0,0))).alloc (.cells #[] 60 (0,0)):=⟨_,rfl⟩;have HW:=ja.mk Pf
 have HA:=ja.mk (show Vp w (gW Za Ra.length gb La Ja n Vb Fa.length Lb) (fun k=>k=w.heap.size + 1) (.slice (some ⟨w.heap.size + 1,0,none⟩) 0 0) (.slice (some ⟨w.heap.size + 2,0,none⟩) 0 0) [] [] W1 from by
  have z1:(w.alloc (.cells #[.slice Za Ra.length gb,.int .i64 La,.int .i64 Ja,.int .i64 (n:Int),.slice Vb Fa.length Lb] 30 (0,0))).heap.size=w.heap.size + 1:=by simp
  have b1:=cu w (.cells #[.slice Za Ra.length gb,.int .i64 La,.int .i64 Ja,.int .i64 (n:Int),.slice Vb Fa.length Lb] 30 (0,0));have e1:=qa (Below.refl w.heap.size w) (.cells #[.slice Za Ra.length gb,.int .i64 La,.int .i64 Ja,.int .i64 (n:Int),.slice Vb Fa.length Lb] 30 (0,0));rw [Pf];generalize w.alloc (.cells #[.slice Za Ra.length gb,.int .i64 La,.int .i64 Ja,.int .i64 (n:Int),.slice Vb Fa.length Lb] 30 (0,0))=u1 at z1 b1 e1 ⊢;have z2:(u1.alloc (.cells #[] 60 (0,0))).heap.size=w.heap.size + 2:=by simp [z1]
  have s1:=RH (Kd.slice 4 Kd.bool) 60 u1 w.heap.size (by omega);have e2:=qa (Below.refl u1.heap.size u1) (.cells #[] 60 (0,0));rw [z1] at s1;generalize u1.alloc (.cells #[] 60 (0,0))=u2 at z2 s1 e2 ⊢;have s2:=RH (Kd.slice 4 Kd.bool) 60 u2 w.heap.size (by omega);have e3:=qa (Below.refl u2.heap.size u2) (.cells #[] 60 (0,0));have z3:(u2.alloc (.cells #[] 60 (0,0))).heap.size=w.heap.size + 3:=by simp [z2]
  rw [z2] at s2
  exact ⟨Qa (Qa e1 e2) e3,Va (Va b1 e2) e3,Kd.Vh s1 e3,Kd.uj s2 (fun k hk=>⟨by omega,by omega⟩),fun k hk=>⟨by omega,by omega⟩⟩)
 have uX:=ja.mk Tf;have J2:=ja.mk Kf;clear Pf Zd Tf Xd Kf;go_enter Try.func47,Try.ntmps47
 go_upto_region 2 with (fail)
 rw [← HW.out];clear HW;have Qx:=gP HA.out;go_wp2;clear Qx
 go_loopg [3,4,19] Fa.length (fun gg v3 v4 v19 wr=>∃ (j:Nat) (PB:Nat→Prop),j ≤ Fa.length∧Fa.length - j ≤ gg∧v19 = .int .i64 j∧ja (Vp w (gW Za Ra.length gb La Ja n Vb Fa.length Lb) PB v3 v4 (List.replicate j (List.replicate n false)) (List.replicate j (List.replicate n false)) wr))
 case atStart=>exact ⟨0,_,Nat.zero_le _,by omega,rfl,HA⟩
 case round =>
  clear HA;(try clear PB);(try clear HA);obtain ⟨j,PB,hj,hgg,rfl,HA⟩:=hrel
  by_cases hlt:j < Fa.length
  ·have OS:decide ((j:Int) < (Fa.length:Int))=true:=decide_eq_true (by omega);have Zy:=fW HA.out;have h0n:(0:Int) ≤ (n:Int):=by omega
   have HMK:=ja.mk (show ((n:Int)).toNat * 1 ≤ 281474976710656 from by omega);have HLL:=ja.mk (show ((List.replicate j (List.replicate n false)).length + 1) * 24 ≤ 140737488355328 from by rw [List.length_replicate];omega)
   go_upto_region 5 with (first|((with_reducible refine xb (N:=24) rfl ?_);refine Kd.Qy Kd.bool (w0:=wr) wr.heap.size 4 rfl (N:=24) rfl 60 _ _ rfl (n:Int) rfl rfl Try.underlying60 (.bool false) 1 Yy rfl (by decide) (by omega) false (ok:=fun k=>wr.heap.size ≤ k) (Lh:=fun k=>wr.heap.size ≤ k) rfl (fun _ hk=>hk) (Nat.le_refl _) h0n HMK.out (Below.refl _ _) (Nat.le_refl _) ?_;intro v24 tO ho hb hg hat;rw [Int.toNat_natCast] at ho;obtain ⟨A24,jO,rfl⟩:=Kd.Ud ho;have zab:=ja.mk (cW ho HA.out.bl.size);simp only [List.length_replicate] at zab;have R2:=ja.mk hb;have jab:=ja.mk (Qa HA.out.bl hb);clear ho hb hg hat Zy)|((with_reducible refine xb (N:=26) rfl ?_);refine Kd.QB (Kd.slice 4 Kd.bool) (w0:=w) w.heap.size rfl (.tmp 21) (.tmp 25) 55 60 (.slice none 0 0) 24 rfl Try.underlying55 QI rfl (by decide) (by omega) _ (List.replicate j (List.replicate n false)) (List.replicate n false) _ (fun k=>PB k ∨ wr.heap.size ≤ k) (fun k=>wr.heap.size ≤ k) rfl rfl zab.out HA.out.neX (HA.out.frX R2.out) (HA.out.okX R2.out) jab.out jab.out.size HLL.out ?_;intro v26 Wm hs hb hg hat;have T2:=ja.mk (HA.out.gam R2.out hs hb hg);clear hs hb hg hat))
   have Zy:=fW T2.out
   go_upto_region 6 with (first|((with_reducible refine xb (N:=30) rfl ?_);refine Kd.Qy Kd.bool (w0:=Wm) Wm.heap.size 4 rfl (N:=30) rfl 60 _ _ rfl (n:Int) rfl rfl Try.underlying60 (.bool false) 1 Yy rfl (by decide) (by omega) false (ok:=fun k=>Wm.heap.size ≤ k) (Lh:=fun k=>Wm.heap.size ≤ k) rfl (fun _ hk=>hk) (Nat.le_refl _) h0n HMK.out (Below.refl _ _) (Nat.le_refl _) ?_;intro v30 rC ho hb hg hat;rw [Int.toNat_natCast] at ho;obtain ⟨Zu,BC,rfl⟩:=Kd.Ud ho;have yab:=ja.mk (cW ho T2.out.bl.size);simp only [List.length_replicate] at yab;have Q2:=ja.mk hb;have iab:=ja.mk (Qa T2.out.bl hb);clear ho hb hg hat Zy)|((with_reducible refine xb (N:=32) rfl ?_);refine Kd.QB (Kd.slice 4 Kd.bool) (w0:=w) w.heap.size rfl (.tmp 27) (.tmp 31) 55 60 (.slice none 0 0) 24 rfl Try.underlying55 QI rfl (by decide) (by omega) _ (List.replicate j (List.replicate n false)) (List.replicate n false) _ _ (fun k=>Wm.heap.size ≤ k) rfl rfl yab.out T2.out.neY (T2.out.frY Q2.out) (T2.out.okY Q2.out) iab.out iab.out.size HLL.out ?_;intro v32 sO hs hb hg hat;have HA2:=ja.mk (T2.out.fam Q2.out hs hb hg);clear hs hb hg hat))
   go_wp2
   go_roundg (Fa.length - (j + 1))
   case measure=>omega
   case rel =>
    have h2:=HA2.out;rw [← List.replicate_succ'] at h2;exact ⟨j + 1,_,by omega,by omega,by go_num,⟨h2⟩⟩
  ·have OS:decide ((j:Int) < (Fa.length:Int))=false:=decide_eq_false (by omega);have hje:j=Fa.length:=by omega
   have ha:=HA.out;rw [hje] at ha;obtain ⟨gX,cX,gY,cY,rfl,rfl⟩:=ha.forms hm0;clear HA;have HA:=ja.mk ha;clear ha hje hgg hj;have HV:=ja.mk (mC.start Fa n);generalize List.replicate Fa.length (List.replicate n false)=X0 at HA HV;have HM0:=ja.mk HV.out.cnt;go_wp2;clear hlt OS
   go_loopg [5] (n * Fa.length + 1) (fun gg v5 wr=>∃ (X Y:List (List Bool)) (a:Bool),v5 = .bool a∧n * Fa.length - Io Y + (if a=true then 1 else 0) ≤ gg∧ja (mC Fa n X Y)∧ja (a=false→∀ i,i < Fa.length→StE Fa X Y i)∧ja (Vp w (gW Za Ra.length gb La Ja n Vb Fa.length Lb) PB (.slice (some ⟨gX,0,none⟩) Fa.length cX) (.slice (some ⟨gY,0,none⟩) Fa.length cY) X Y wr))
   case atStart=>exact ⟨X0,X0,true,rfl,by rw [if_pos rfl];omega,HV,⟨fun e=>by cases e⟩,HA⟩
   case round =>
    clear HV HA HM0;(try clear X);(try clear Y);(try clear HV);(try clear HST);(try clear HA);obtain ⟨X,Y,a,rfl,hgg,HV,HST,HA⟩:=hrel;cases a with
    | false =>
     have HDN:=ja.mk (HV.out.done HO.out (HST.out rfl));go_wp2;go_ret;exact ⟨_,rfl,by rw [← HDN.out];exact Kd.uj HA.out.x (fun _ _=>trivial),HA.out.bl⟩
    | true =>
     have O5:=hgg;rw [if_pos rfl] at O5;have HS:=ja.mk (show LvS Fa X Y (Io Y) false Fa.length from ⟨Nat.le_refl _,(fun e=>by cases e),(fun _ k h1 h2=>by omega)⟩);clear HST hgg;generalize Io Y=C at HS O5;have Qx:=gP HA.out;have I4:wrap64 ((Fa.length:Int) - 1)=(Fa.length:Int) - 1:=by unfold wrap64;omega
     have HWR:=ja.mk I4;clear I4;go_wp2;clear Qx
     go_loopg [5,6] Fa.length (fun g3 v5 v6 wr=>∃ (z:Int) (q:Nat) (X Y:List (List Bool)) (a:Bool),v5 = .bool a∧v6 = .int .i64 z∧z + 1=(q:Int)∧q ≤ Fa.length∧q ≤ g3∧ja (mC Fa n X Y)∧ja (LvS Fa X Y C a q)∧ja (Vp w (gW Za Ra.length gb La Ja n Vb Fa.length Lb) PB (.slice (some ⟨gX,0,none⟩) Fa.length cX) (.slice (some ⟨gY,0,none⟩) Fa.length cY) X Y wr))
     case atStart=>exact ⟨(Fa.length:Int) - 1,Fa.length,X,Y,false,rfl,by first|rfl|(go_simp;done)|exact congrArg _ HWR.out|go_num,by omega,Nat.le_refl _,Nat.le_refl _,HV,HS,HA⟩
     case round =>
      clear HV HS HA;(try clear X);(try clear Y);(try clear HV);(try clear HS);(try clear HA);obtain ⟨z,q,X,Y,a,rfl,rfl,hz,hq,lI,HV,HS,HA⟩:=hrel
      by_cases hz0:0 ≤ z
      ·obtain ⟨i,rfl⟩:∃ i:Nat,z=(i:Int):=⟨z.toNat,(Int.toNat_of_nonneg hz0).symm⟩;obtain rfl:q=i + 1:=by omega
       have hi:i < Fa.length:=by omega
       have hzb:decide ((i:Int) ≥ 0)=true:=decide_eq_true (by omega);obtain ⟨ag,Ac,cc,e1,hc0,Rx,DG,wO,hc4,jC,hcC⟩:=Bi uX.out (i:Int) (by omega) (by omega);subst e1;have Qx:=gP HA.out;simp only [Int.toNat_natCast] at hc0 Rx DG wO hc4;have HCC:=ja.mk hcC;have HCL:=ja.mk jC;replace hc0:=zi hc0 (Kept.Dk HA.out.bl (fun _=>False)) id;replace Rx:=zi Rx (Kept.Dk HA.out.bl (fun _=>False)) id;replace DG:=zi DG (Kept.Dk HA.out.bl (fun _=>False)) id;replace wO:=zi wO (Kept.Dk HA.out.bl (fun _=>False)) id;replace hc4:=zi hc4 (Kept.Dk HA.out.bl (fun _=>False)) id;have q1:0 ≤ (i:Int):=by omega
       have q2:(i:Int) < (Fa.length:Int):=by omega
       have wab:=ja.mk (show jk.f (Oa Fa (i:Int)).f0 (Oa Fa (i:Int)).f1 (Oa Fa (i:Int)).f2 (Oa Fa (i:Int)).f3 (Oa Fa (i:Int)).f4=some (Ip Fa i) from CN _);clear hcC jC
       go_upto_region 14 with (fail)
       have wZ:=qa (Below.refl wr.heap.size wr) (.cells #[.slice Ac (Oa Fa (i:Int)).f0.length cc,.int .i64 (Oa Fa (i:Int)).f1,.int .i64 (Oa Fa (i:Int)).f2,.int .i64 (Oa Fa (i:Int)).f3,.int .i64 (Oa Fa (i:Int)).f4] 59 (0,0));have QY:=cu wr (.cells #[.slice Ac (Oa Fa (i:Int)).f0.length cc,.int .i64 (Oa Fa (i:Int)).f1,.int .i64 (Oa Fa (i:Int)).f2,.int .i64 (Oa Fa (i:Int)).f3,.int .i64 (Oa Fa (i:Int)).f4] 59 (0,0));generalize wr.alloc (.cells #[.slice Ac (Oa Fa (i:Int)).f0.length cc,.int .i64 (Oa Fa (i:Int)).f1,.int .i64 (Oa Fa (i:Int)).f2,.int .i64 (Oa Fa (i:Int)).f3,.int .i64 (Oa Fa (i:Int)).f4] 59 (0,0))=gC at wZ QY ⊢;have XV:=ja.mk (HA.out.below wZ);have WH:=ja.mk QY;have HPQ:=ja.mk (show ¬ PB wr.heap.size from fun e=>by have:=(HA.out.pb _ e).2;omega);have HCD:=ja.mk (Kd.Mb HCC.out XV.out.bl);clear wZ QY HA Qx hc0 Rx DG wO hc4 q1 q2 hzb hz0;generalize wr.heap.size=q7 at WH HPQ ⊢;have q_:=(ga WH.out 0).trans rfl;have h71:=(ga WH.out 1).trans rfl;have h72:=(ga WH.out 2).trans rfl;have h73:=(ga WH.out 3).trans rfl;have h74:=(ga WH.out 4).trans rfl;have htl:(Ip Fa i).length ≤ 2:=qH _;go_wp2_with (first|(go_at_call 78;(with_reducible refine (jk.calls Ac cc (Oa Fa (i:Int)).f0 (Oa Fa (i:Int)).f1 (Oa Fa (i:Int)).f2 (Oa Fa (i:Int)).f3 (Oa Fa (i:Int)).f4 (Ip Fa i) gC HCD.out HCL.out wab.out).mono ?_);rintro e Xp ⟨v15,rfl,ho,hb⟩;obtain ⟨An,cn,rfl⟩:=Kd.Ud ho;have qab:=ja.mk ho;have bI:=ja.mk hb;clear ho hb q_ h71 h72 h73 h74));have Wab:=ja.mk (XV.out.below bI.out);have kab:=ja.mk (Va WH.out bI.out);have HNC:=ja.mk (Kd.aC (S:=PB) (Kd.ze (Kd.Pg qab.out) (fun k hk=>hk.2.1)) (fun k hk e=>by have:=(XV.out.pb k e).2;omega));have HR:=ja.mk (show K1 Fa n X Y i X from ⟨HV.out,fun _ _=>rfl⟩);have HT:=ja.mk (show WR (Ip Fa i) 0 Y X i from fun t ht=>by simp at ht);clear XV qab bI HCD WH wab
       go_loopg [51] (Ip Fa i).length (fun g4 v51 wr=>∃ (j:Nat) (X':List (List Bool)),v51 = .int .i64 j∧j ≤ (Ip Fa i).length∧(Ip Fa i).length - j ≤ g4∧ja (K1 Fa n X Y i X')∧ja (WR (Ip Fa i) j Y X' i)∧ja (Vp w (gW Za Ra.length gb La Ja n (some ag) Fa.length Lb) PB (.slice (some ⟨gX,0,none⟩) Fa.length cX) (.slice (some ⟨gY,0,none⟩) Fa.length cY) X' Y wr)∧ja (Kept Xp wr PB))
       case atStart=>exact ⟨0,X,rfl,Nat.zero_le _,by omega,HR,HT,Wab,⟨Kept.refl _ _⟩⟩
       case round =>
        clear HR HT Wab;(try clear X);(try clear HR);(try clear HT);(try clear HA);(try clear HK);obtain ⟨j,X',rfl,hj,bH,HR,HT,HA,HK⟩:=hrel
        by_cases hjt:j < (Ip Fa i).length
        ·have XY:decide ((j:Int) < ((Ip Fa i).length:Int))=true:=decide_eq_true (by omega);have r1:0 ≤ (j:Int):=by omega
         have r2:(j:Int) < ((Ip Fa i).length:Int):=by omega
         obtain ⟨an,tn,e1,ht,htn,hx⟩:=CS HO.out.1 hi hjt (HNC.out wr HK.out);subst e1;have HTN:=ja.mk ht;have HTM:=ja.mk (List.getElem_mem hjt);obtain ⟨Ay,cy,hcy,hfy,hly,hCy,hKy⟩:=HA.out.mS htn;have OV:=ja.mk hKy;have HYN:=ja.mk (HV.out.yr tn htn);have hyn:(Ve Y tn).length ≤ 1048576:=by have:=HYN.out;omega
         have t1:0 ≤ (tn:Int):=by omega
         have t2:(tn:Int) < (Fa.length:Int):=by omega
         have L3:=ja.mk (show TkS tn 0 Y X' i from fun u hu=>by omega);clear ht hCy hKy hfy;go_wp2;clear hcy hx t1 t2 r1 r2 XY
         go_loopg [60] (Ve Y tn).length (fun g5 v60 wr=>∃ (s:Nat) (zO:List (List Bool)),v60 = .int .i64 s∧s ≤ (Ve Y tn).length∧(Ve Y tn).length - s ≤ g5∧ja (K1 Fa n X Y i zO)∧ja (WR (Ip Fa i) j Y zO i)∧ja (TkS tn s Y zO i)∧ja (Vp w (gW Za Ra.length gb La Ja n (some ag) Fa.length Lb) PB (.slice (some ⟨gX,0,none⟩) Fa.length cX) (.slice (some ⟨gY,0,none⟩) Fa.length cY) zO Y wr)∧ja (Kept Xp wr PB)∧ja (∀ W,Kept wr W PB→Kd.C Kd.bool W Ay (Ve Y tn).length (Ve Y tn)))
         case atStart=>exact ⟨0,X',rfl,Nat.zero_le _,by omega,HR,HT,L3,HA,HK,OV⟩
         case round =>
          clear HR HT L3 HA HK OV;(try clear X);(try clear HR);(try clear HT);(try clear L3);(try clear HA);(try clear HK);(try clear OV);obtain ⟨s,zO,rfl,hs,hg5,HR,HT,L3,HA,HK,OV⟩:=hrel
          by_cases hst:s < (Ve Y tn).length
          ·have dak:decide ((s:Int) < ((Ve Y tn).length:Int))=true:=decide_eq_true (by omega);have s1:0 ≤ (s:Int):=by omega
           have s2:(s:Int) < ((Ve Y tn).length:Int):=by omega
           have hxl:(Ve zO i).length=(Ve Y tn).length:=by rw [HYN.out,HR.out.inv.xr i hi]
           have s3:(s:Int) < ((Ve zO i).length:Int):=by omega
           have HXL:=ja.mk hxl;have i1:0 ≤ (i:Int):=by omega
           have i2:(i:Int) < (Fa.length:Int):=by omega
           obtain ⟨ay,e2,hy⟩:=DS (OV.out wr (Kept.refl _ _)) hst;subst e2;obtain ⟨gi,ci,E3,hce,hfz,hpg,hput⟩:=(HA.out.below (Wq (Below.refl wr.heap.size wr))).Maj hi (show s < (Ve zO i).length by omega);have gV:wr.cell? ⟨gX,i,none⟩=some (.slice (some ⟨gi,0,none⟩) (Ve zO i).length ci):=E3;have iV:wr.cell? ⟨gi,s,none⟩=some (.bool (seen (Ve zO i) s)):=hce;obtain ⟨Nr,D3,C3⟩:=HR.out.step HO.out.1 hi HTM.out HTN.out (by have:=HYN.out;omega) HT.out L3.out;have HPG:=ja.mk hpg;clear hxl hpg;cases hold:seen (Ve zO i) s with
           | true =>
            rw [hold,Bool.true_or] at Nr D3 C3;rw [hold] at iV hce;have HP:=ja.mk (hput true);have T1:=ja.mk (And.intro Nr (And.intro D3 C3));have HCE:=ja.mk (And.intro hce hfz);clear Nr D3 C3 hput E3 hce hfz hold
            go_upto_region 20 with (fail)
            go_still_tail 16,(by kernel_rfl)
            have qg:=ja.mk ((HK.out.drew).setCell (p:=⟨gi,s,none⟩) (Or.inl HPG.out) (.bool true));have CR:=ja.mk (Kd.ez OV.out (((Kept.refl wr PB).drew).setCell (p:=⟨gi,s,none⟩) (Or.inl HPG.out) (.bool true)));obtain ⟨hce,hfz⟩:=HCE.out;have HCE:=ja.mk hce;clear gV iV hy HA HK OV
            change wpList _ _ _ _ _ wr.drew
            generalize wr.drew=wd at HP qg CR hce hfz ⊢;go_wp2
            go_roundg ((Ve Y tn).length - (s + 1))
            case measure=>omega
            case rel=>exact ⟨s + 1,_,by go_num,by omega,by omega,⟨T1.out.1⟩,⟨T1.out.2.1⟩,⟨T1.out.2.2⟩,HP,qg,CR⟩
           | false =>
            rw [hold,Bool.false_or] at Nr D3 C3;rw [hold] at iV hce;have HP:=ja.mk (hput (seen (Ve Y tn) s));have T1:=ja.mk (And.intro Nr (And.intro D3 C3));have HCE:=ja.mk (And.intro hce hfz);clear Nr D3 C3 hput E3 hce hfz hold
            go_upto_region 20 with (fail)
            go_still_tail 16,(by kernel_rfl)
            have qg:=ja.mk ((HK.out.drew).setCell (p:=⟨gi,s,none⟩) (Or.inl HPG.out) (.bool (seen (Ve Y tn) s)));have CR:=ja.mk (Kd.ez OV.out (((Kept.refl wr PB).drew).setCell (p:=⟨gi,s,none⟩) (Or.inl HPG.out) (.bool (seen (Ve Y tn) s))));obtain ⟨hce,hfz⟩:=HCE.out;have HCE:=ja.mk hce;clear gV iV hy HA HK OV
            change wpList _ _ _ _ _ wr.drew
            generalize wr.drew=wd at HP qg CR hce hfz ⊢;go_wp2
            go_roundg ((Ve Y tn).length - (s + 1))
            case measure=>omega
            case rel=>exact ⟨s + 1,_,by go_num,by omega,by omega,⟨T1.out.1⟩,⟨T1.out.2.1⟩,⟨T1.out.2.2⟩,HP,qg,CR⟩
          ·have dak:decide ((s:Int) < ((Ve Y tn).length:Int))=false:=decide_eq_false (by omega);have HTJ:=ja.mk (HT.out.next hjt HTN.out (by have h2:=L3.out;rwa [show s=(Ve Y tn).length by omega] at h2));go_wp2
           go_roundg ((Ip Fa i).length - (j + 1))
           case measure=>omega
           case rel=>exact ⟨j + 1,zO,by go_num,by omega,by omega,HR,HTJ,HA,HK⟩
        ·have XY:decide ((j:Int) < ((Ip Fa i).length:Int))=false:=decide_eq_false (by omega);have HTJ:=ja.mk (show WR (Ip Fa i) (Ip Fa i).length Y X' i by have h2:=HT.out;rwa [show j=(Ip Fa i).length by omega] at h2);obtain ⟨wk,rfl⟩:∃ wk,wk=wr:=⟨_,rfl⟩;have HQK:=ja.mk (Ko kab.out HK.out HPQ.out);have HQL:=ja.mk (Rc HQK.out);have HLR:=ja.mk (HR.out.inv.xr i hi);obtain ⟨Ax,cx,E3,hCx,hlx⟩:=HA.out.Haj hi;have HBE:=ja.mk (qa (Below.refl wk.heap.size wk) (.cells #[] 4 (0,0)));have HCX:=ja.mk (Kd.Mb hCx HBE.out);have HEM:=ja.mk (ZM Kd.bool 4 wk wk.heap.size (Nat.le_refl _));have HLN:=ja.mk (show (([]:List Bool).length + (Ve X' i).length) * 1 ≤ 140737488355328 from by have:=HLR.out;simp;omega);have gV:=zi E3 (Kept.Dk HBE.out (fun _=>False)) id;have i1:0 ≤ (i:Int):=by omega
         have i2:(i:Int) < (Fa.length:Int):=by omega
         clear hCx HK HNC HT kab
         go_upto_region 24 with (first|((with_reducible refine xb (N:=88) rfl ?_);refine Kd.Ai Kd.bool (w0:=wk) wk.heap.size rfl (.tmp 83) (.tmp 87) 60 4 (.bool false) 1 rfl Try.underlying60 Yy rfl (by decide) (by omega) (.slice (some ⟨wk.heap.size,0,none⟩) 0 0) [] (Ve X' i) Ax (Ve X' i).length cx (fun _=>True) (fun _=>False) rfl rfl HEM.out HCX.out (fun _ _ h=>h) (fun _ hk=>hk.elim) (fun _ _=>trivial) HBE.out HBE.out.size HLN.out ?_;intro v12 dr ho wz CG hat;rw [List.nil_append] at ho;obtain ⟨As,cs,rfl⟩:=Kd.Ud ho;have KV:=ja.mk ho;have sG:=ja.mk wz;clear ho wz CG hat E3 gV))
         clear HBE HCX HEM HLN hlx hjt XY hj bH i1 i2;have HBK:=ja.mk (Fu HO.out hi);have oO:=ja.mk (Va HQK.out sG.out);have h71:dr.cell? ⟨q7,1,none⟩=some (.int .i64 (Oa Fa (i:Int)).f1):=(ga oO.out 1).trans rfl
         by_cases cU:(Oa Fa (i:Int)).f1=0
         case' pos =>
          have V7:((Oa Fa (i:Int)).f1 == 0)=true:=beq_iff_eq.2 cU;have hfb:((Oa Fa (i:Int)).f1 != 0)=false:=by rw [cU];rfl
          have nO:=ja.mk (show Kd.R Kd.bool 4 dr wk.heap.size (fun _=>True) (.slice As (Ve X' i).length cs) (Ep (Oa Fa (i:Int)) (Ve X' i)) from by rw [show Ep (Oa Fa (i:Int)) (Ve X' i)=Ve X' i from if_pos cU];exact KV.out);have GR:=sG;have wR:=oO
          go_upto_region 26 with (fail)
          clear h71 V7 hfb KV sG oO cU;generalize dr=Wm at nO GR wR ⊢
         case' neg =>
          have V7:((Oa Fa (i:Int)).f1 == 0)=false:=beq_eq_false_iff_ne.2 cU;have hfb:((Oa Fa (i:Int)).f1 != 0)=true:=bne_iff_ne.2 cU;obtain ⟨f20,f21⟩:=HBK.out.2.1 cU;obtain ⟨u,hu⟩:∃ u:Nat,(Oa Fa (i:Int)).f2=(u:Int):=⟨(Oa Fa (i:Int)).f2.toNat,(Int.toNat_of_nonneg f20).symm⟩;have hul:u < (Ve X' i).length:=by have:=HLR.out;omega
          have Zaj:(u:Int) < ((Ve X' i).length:Int):=by omega
          have hu0:0 ≤ (u:Int):=by omega
          have h72:dr.cell? ⟨q7,2,none⟩=some (.int .i64 (u:Int)):=by rw [← hu];exact (ga oO.out 2).trans rfl
          obtain ⟨gs,e3,hgs,hcs,hfs,hput⟩:=E1 KV.out hul;obtain ⟨hr,hg⟩:=hput true;have nO:=ja.mk (show Kd.R Kd.bool 4 (dr.setCell ⟨gs,u,none⟩ (.bool true)) wk.heap.size (fun _=>True) (.slice As (Ve X' i).length cs) (Ep (Oa Fa (i:Int)) (Ve X' i)) from by rw [show Ep (Oa Fa (i:Int)) (Ve X' i)=(Ve X' i).set u true from by unfold Ep;rw [if_neg cU,hu,Int.toNat_natCast]];exact hr);have GR:=ja.mk (sG.out.grown hg sG.out.size (fun k e=>by injection e with e;omega));have wR:=ja.mk (ud oO.out hg (fun e=>by injection e with e;have:=HQL.out;omega));subst e3;clear hr hg hput f20 f21 hu hul
          go_upto_region 26 with (fail)
          clear h71 h72 V7 hfb KV sG oO cU hcs hfs hgs Zaj hu0;generalize dr.setCell ⟨gs,u,none⟩ (.bool true)=Wm at nO GR wR ⊢;generalize (some ⟨gs,0,none⟩:Option Addr)=As at nO ⊢
         all_goals
          have q_:Wm.cell? ⟨q7,0,none⟩=some (.slice Ac (Oa Fa (i:Int)).f0.length cc):=(ga wR.out 0).trans rfl;have jC:(Oa Fa (i:Int)).f0.length ≤ 1048576:=HBK.out.1;have I4:wrap64 (((Oa Fa (i:Int)).f0.length:Int) - 1)=((Oa Fa (i:Int)).f0.length:Int) - 1:=by unfold wrap64;omega
          have HWR:=ja.mk I4;clear I4;go_wp2;clear q_
          go_loopg [13] (Oa Fa (i:Int)).f0.length (fun g6 v13 wr=>∃ (z:Int) (q:Nat),v13 = .int .i64 z∧z + 1=(q:Int)∧q ≤ (Oa Fa (i:Int)).f0.length∧q ≤ g6∧ja (Kd.R Kd.bool 4 wr wk.heap.size (fun _=>True) (.slice As (Ve X' i).length cs) (nI (Oa Fa (i:Int)).f0 q (Ep (Oa Fa (i:Int)) (Ve X' i))))∧ja (Below wk.heap.size wk wr))
          case atStart=>exact ⟨((Oa Fa (i:Int)).f0.length:Int) - 1,(Oa Fa (i:Int)).f0.length,by first|rfl|(go_simp;done)|exact congrArg _ HWR.out|go_num,by omega,Nat.le_refl _,Nat.le_refl _,⟨by rw [iG];exact nO.out⟩,GR⟩
          case round =>
           clear nO GR wR;(try clear HS6);(try clear FR);obtain ⟨z,q,rfl,hz6,hq6,hg6,HS6,FR⟩:=hrel
           by_cases hz0:0 ≤ z
           ·obtain ⟨p,rfl⟩:∃ p:Nat,z=(p:Int):=⟨z.toNat,(Int.toNat_of_nonneg hz0).symm⟩;obtain rfl:q=p + 1:=by omega
            have hp:p < (Oa Fa (i:Int)).f0.length:=by omega
            have hzb:decide ((p:Int) ≥ 0)=true:=decide_eq_true (by omega);have p1:0 ≤ (p:Int):=by omega
            have p2:(p:Int) < ((Oa Fa (i:Int)).f0.length:Int):=by omega
            have q_:wr.cell? ⟨q7,0,none⟩=some (.slice Ac (Oa Fa (i:Int)).f0.length cc):=(ga (Va HQK.out FR.out) 0).trans rfl;obtain ⟨aI,e5,k0,k1,k2,k3,k4,k5,k6⟩:=Hp (Kd.Mb HCC.out (Qa HA.out.bl FR.out)) (p:Int) (by omega) (by omega);subst e5;simp only [Int.toNat_natCast] at k0 k1 k2 k3 k4 k5 k6;obtain ⟨kb,hkb⟩:=Ev.rounds (KM (nI (Oa Fa (i:Int)).f0 (p + 1) (Ep (Oa Fa (i:Int)) (Ve X' i))) (Ca (Oa Fa (i:Int)).f0 (p:Int)) (by rw [gG,Er,HLR.out];exact KI HBK.out hp));have HKB:=ja.mk hkb;have hwp:wrap64 ((p:Int) - 1)=(p:Int) - 1:=by unfold wrap64;omega
            have HWP:=ja.mk hwp;clear hkb hwp hz0;go_wp2_with (first|(go_at_call 79;(with_reducible refine (Ed.calls kb (fun _=>True) (.slice As (Ve X' i).length cs) (nI (Oa Fa (i:Int)).f0 (p + 1) (Ep (Oa Fa (i:Int)) (Ve X' i))) (Ca (Oa Fa (i:Int)).f0 (p:Int)).f0 (Ca (Oa Fa (i:Int)).f0 (p:Int)).f1 (Ca (Oa Fa (i:Int)).f0 (p:Int)).f2 (Ca (Oa Fa (i:Int)).f0 (p:Int)).f3 (Ca (Oa Fa (i:Int)).f0 (p:Int)).f4 (Ca (Oa Fa (i:Int)).f0 (p:Int)).f5 (Ca (Oa Fa (i:Int)).f0 (p:Int)).f6 _ wk wr FR.out HS6.out HKB.out).mono ?_);rintro e TJ ⟨rfl,ho,hb,-⟩;have HS7:=ja.mk ho;have YR:=ja.mk hb;clear ho hb q_ k0 k1 k2 k3 k4 k5 k6))
            go_roundg p
            case measure=>omega
            case rel=>exact ⟨(p:Int) - 1,p,by first|rfl|(go_simp;done)|exact congrArg _ HWP.out|go_num,by omega,by omega,Nat.le_refl _,⟨by rw [OB hp];exact Kd.ze HS7.out (fun _ _=>trivial)⟩,YR⟩
           ·have hzb:decide (z ≥ 0)=false:=decide_eq_false (by omega);obtain rfl:q=0:=by omega
            have HSI:=ja.mk (show Kd.R Kd.bool 4 wr wk.heap.size (fun _=>True) (.slice As (Ve X' i).length cs) (zv (Oa Fa (i:Int)) (Ve X' i)) from HS6.out);obtain ⟨Ay,cy,hcy,hfy,hly,hCy,-⟩:=(HA.out.below FR.out).mS hi;obtain ⟨HN1,HN2⟩:=HS.out.next HO.out hi HR.out HTJ.out;have HN1:=ja.mk HN1;have HN2:=ja.mk HN2;obtain ⟨ke,hke⟩:=Ev.rounds (IZ (zv (Oa Fa (i:Int)) (Ve X' i)) (Ve Y i) (by rw [Wo,HLR.out];omega));have hEQ:=Ob.calls ke As cs (zv (Oa Fa (i:Int)) (Ve X' i)) Ay cy (Ve Y i) _ wr (Kd.dc HSI.out).2.2 (by have:=(Kd.dc HSI.out).2.1;rw [Wo];exact this) hCy hly hke;rw [Wo] at hEQ;have HEQ:=ja.mk hEQ;have i1:0 ≤ (i:Int):=by omega
            have i2:(i:Int) < (Fa.length:Int):=by omega
            clear hEQ hke hCy hfy hly;cases a with
            | true =>
             go_upto_region 31 with (fail)
             clear hcy;have YR:=FR;have HP:=ja.mk (HA.out.q4 YR.out hi HSI.out);obtain ⟨Az,cz,hcz,hfz,-⟩:=(HA.out.below YR.out).mS hi;have hwi:wrap64 ((i:Int) - 1)=(i:Int) - 1:=by unfold wrap64;omega
             have HWI:=ja.mk hwi;have i1:0 ≤ (i:Int):=by omega
             have i2:(i:Int) < (Fa.length:Int):=by omega
             clear hwi;go_wp2
             go_roundg i
             case measure=>omega
             case rel=>exact ⟨(i:Int) - 1,i,X',_,_,by first|rfl|(rw [Bool.true_or]),by first|rfl|(go_simp;done)|exact congrArg _ HWI.out|go_num,by omega,by omega,Nat.le_refl _,HN1,HN2,HP⟩
            | false =>
             go_upto_region 31 with (first|(go_at_call 80;(with_reducible refine HEQ.out.mono ?_);rintro e jD ⟨rfl,hd⟩;have Lab:=ja.mk hd.below;clear hd hcy))
             have YR:=ja.mk (Qa FR.out Lab.out);have HP:=ja.mk (HA.out.q4 YR.out hi (Kd.yd HSI.out Lab.out));obtain ⟨Az,cz,hcz,hfz,-⟩:=(HA.out.below YR.out).mS hi;have hwi:wrap64 ((i:Int) - 1)=(i:Int) - 1:=by unfold wrap64;omega
             have HWI:=ja.mk hwi;have i1:0 ≤ (i:Int):=by omega
             have i2:(i:Int) < (Fa.length:Int):=by omega
             clear hwi;go_wp2
             go_roundg i
             case measure=>omega
             case rel=>exact ⟨(i:Int) - 1,i,X',_,_,by first|rfl|(rw [Bool.false_or]),by first|rfl|(go_simp;done)|exact congrArg _ HWI.out|go_num,by omega,by omega,Nat.le_refl _,HN1,HN2,HP⟩
      ·have hzb:decide (z ≥ 0)=false:=decide_eq_false (by omega);obtain rfl:q=0:=by omega
       have h1:=HS.out.le;have h2:=HS.out.lt;have h3:=HV.out.cnt
       have HM:=ja.mk (show n * Fa.length - Io Y + (if a=true then 1 else 0) < n * Fa.length - C + 1 from by
        cases a with
        | false=>rw [if_neg (by simp)];omega
        | true=>have:=h2 rfl;rw [if_pos rfl];omega)
       clear h1 h2 h3;go_wp2
       go_roundg (n * Fa.length - Io Y + (if a=true then 1 else 0))
       case measure=>have:=HM.out;omega
       case rel=>exact ⟨X,Y,a,rfl,Nat.le_refl _,HV,⟨fun e i hi=>HS.out.so e i (Nat.zero_le _) hi⟩,HA⟩
attribute [local go_sem] ei ai Tj Sj Yg Xg di Zh
noncomputable def zd.j0:Nat→Int→Bool→List Int→Int→Int→Int→List (We)→Option (List Int)
 | 0,_,_,_,_,_,_,_=>none
 | k + 1,x1,x16,jc,Ec,tc,oc,Rb=>if x16=true then (some ([]:List Int)) else ((Mh.f jc Ec tc oc Rb).bind fun t104=>((ie.f k jc Ec tc oc Rb t104 x1).bind fun t107=>((Yc.f k t107).bind fun t110=>(some t110))))
noncomputable def zd.f (k:Nat) (Ra:List Int) (La:Int) (Ja:Int) (Ia:Int) (Fa:List (We)) (a1:Int):Option (List Int):=(Xb.f k Ra La Ja Ia Fa).bind fun t102=>(if t102=true then ((Zf.f a1 0 (wrap64 ((Fa.length:Int) - 1))).bind fun t103=>(zd.j0 k a1 (!t103) Ra La Ja Ia Fa)) else (zd.j0 k a1 true Ra La Ja Ia Fa))
theorem zd.calls (k:Nat) (Za:Option Addr) (gb:Nat) (Ra:List Int) (La:Int) (Ja:Int) (Ia:Int) (Vb:Option Addr) (Lb:Nat) (Fa:List (We)) (a1:Int) (r:List Int) (w:World) (Zd:Kd.C (Kd.int .i64) w Za Ra.length Ra) (Xd:Ra.length ≤ gb) (Tf:Kd.C Kp w Vb Fa.length Fa) (Kf:Fa.length ≤ Lb) (h:zd.f k Ra La Ja Ia Fa a1=some r) :
  Calls Try.prog 16 #[.agg #[.slice Za Ra.length gb,.int .i64 La,.int .i64 Ja,.int .i64 Ia,.slice Vb Fa.length Lb],.int .i64 a1] w fun e w'=>∃ Km:Value,e = .returned (Km)∧Kd.R (Kd.int .i64) 3 w' w.heap.size (fun _=>True) Km r∧Below w.heap.size w w':=by
 have vC:=Try.underlying30;have He:=ja.mk Zd;have Me:=ja.mk Xd;clear Zd Xd;have Uf:=ja.mk Tf;have Ug:=ja.mk Kf;clear Tf Kf;have HB:=ja.mk (Below.refl w.heap.size w);have H:((Xb.f k Ra La Ja Ia Fa).bind fun t102=>(if t102=true then ((Zf.f a1 0 (wrap64 ((Fa.length:Int) - 1))).bind fun t103=>(zd.j0 k a1 (!t103) Ra La Ja Ia Fa)) else (zd.j0 k a1 true Ra La Ja Ia Fa)))=some r:=h;clear h;have qO:=ja.mk H;clear H;go_enter Try.func16,Try.ntmps16
 go_upto_region 1 with (first|((with_reducible refine xb (N:=2) rfl ?_);(try (refine ug (by rfl) ?_;dsimp only));refine Fb ?hg (N:=2) ?hd (cs:=#[.slice Za Ra.length gb,.int .i64 La,.int .i64 Ja,.int .i64 Ia,.slice Vb Fa.length Lb]) (t:=30) ?hr ?_;(case hd=>rfl);(case hg=>rfl);(case hr=>first|(go_simp;done)|(go_simp;rfl));intro ya hg w4 Pb hb;have Bb:=ja.mk (Qa (by repeat (first|(with_reducible first|exact HB.out|apply qa|apply ia|apply ta)|exact HB.out)) hb);have Gb:=ja.mk (Pb);have Nb:=ja.mk ((by rw [hg];exact (Ka (by repeat (first|(with_reducible first|exact HB.out|apply qa|apply ia|apply ta)|exact HB.out))):w.heap.size ≤ ya));have Dc:=ja.mk ((by rw [hg];exact (Ka (by repeat (first|(with_reducible first|exact HB.out|apply qa|apply ia|apply ta)|exact HB.out))):w.heap.size ≤ ya));clear HB;have HB:=Bb;have oa:=Gb;have Ad:=Nb;have Ta:=Dc;clear Bb Gb Nb Dc hb Pb hg))
 (try simp only [Act.put,List.setIfInBounds_toArray,List.set_cons_zero,List.set_cons_succ])
 go_cut [16] (fun v16 wc=>∃ (kq:Nat) (SJ:Bool),v16 = .bool SJ∧ja (zd.j0 kq a1 SJ Ra La Ja Ia Fa=some r)∧ja (kq ≤ k)∧ja (wc.heap[ya]? = some (.cells #[(.slice Za Ra.length gb),.int .i64 La,.int .i64 Ja,.int .i64 Ia,(.slice Vb Fa.length Lb)] 30 (0,0)))∧ja (Below w.heap.size w wc))
 case first =>
  have H:=qO.out;clear qO;replace H:=Option.bind_eq_some_iff.mp H;obtain ⟨t102,SX,H⟩:=H;replace H:(if t102=true then ((Zf.f a1 0 (wrap64 ((Fa.length:Int) - 1))).bind fun t103=>(zd.j0 k a1 (!t103) Ra La Ja Ia Fa)) else (zd.j0 k a1 true Ra La Ja Ia Fa))=some r:=H;have A5:=ja.mk SX;clear SX
  by_cases c6:t102=true
  ·subst c6;have H1:((Zf.f a1 0 (wrap64 ((Fa.length:Int) - 1))).bind fun t103=>(zd.j0 k a1 (!t103) Ra La Ja Ia Fa))=some r:=by rw [if_pos rfl] at H;exact H
   clear H;have H:=H1;clear H1;replace H:=Option.bind_eq_some_iff.mp H;obtain ⟨t103,uG,H⟩:=H;replace H:(zd.j0 k a1 (!t103) Ra La Ja Ia Fa)=some r:=H;have A7:=ja.mk uG;clear uG;have H':=ja.mk H;clear H;have Qu:w4.cell? ⟨ya,0,none⟩=some (.slice Za Ra.length gb):=(ga oa.out 0).trans rfl;have Pu:w4.cell? ⟨ya,1,none⟩=some (.int .i64 La):=(ga oa.out 1).trans rfl;have Ou:w4.cell? ⟨ya,2,none⟩=some (.int .i64 Ja):=(ga oa.out 2).trans rfl;have Nu:w4.cell? ⟨ya,3,none⟩=some (.int .i64 Ia):=(ga oa.out 3).trans rfl;have Mu:w4.cell? ⟨ya,4,none⟩=some (.slice Vb Fa.length Lb):=(ga oa.out 4).trans rfl;have Lu:=aa oa.out 0;have Ku:=aa oa.out 1;have Ju:=aa oa.out 2;have Iu:=aa oa.out 3;have Hu:=aa oa.out 4;go_wp2_with (first|((with_reducible refine qb (f:=46) rfl ?_);refine Mc (some 6) rfl rfl Try.func46 (by kernel_rfl) rfl #[.agg #[.slice Za Ra.length gb,.int .i64 La,.int .i64 Ja,.int .i64 Ia,.slice Vb Fa.length Lb]] rfl (by (try simp only [List.map_toArray,List.map_cons,List.map_nil]);first|done|rfl|(simp only [List.length_drop,List.length_take];rfl)) ?_;(with_reducible refine (Xb.calls k _ _ Ra La Ja Ia _ _ Fa true _ ?Jc ?Ic ?Qd ?Pd A5.out).mono ?_);(case Jc=>repeat (first|exact (Kd.Mb He.out HB.out)|(with_reducible refine Kd.Tb ?_ _)|(with_reducible refine Kd.Sb ?_ _)|(with_reducible refine Kd.qc ?_)));(case Ic=>exact Me.out);(case Qd=>repeat (first|exact (Kd.Mb Uf.out HB.out)|(with_reducible refine Kd.Tb ?_ _)|(with_reducible refine Kd.Sb ?_ _)|(with_reducible refine Kd.qc ?_)));(case Pd=>exact Ug.out);rintro e w9 ⟨rfl,hb⟩;refine ⟨_,rfl,?_⟩;have Bb:=ja.mk (Va (g:=ya) (o:=.cells #[.slice Za Ra.length gb,.int .i64 La,.int .i64 Ja,.int .i64 Ia,.slice Vb Fa.length Lb] 30 (0,0)) (by (with_reducible repeat (first|refine Aa ?_ _|refine Da ?_|refine Ba ?_ _));exact oa.out) hb);have Gb:=ja.mk (Qa (by repeat (first|(with_reducible first|exact HB.out|apply qa|apply ia|apply ta|refine ua ?_ Ta.out)|exact HB.out)) hb);clear oa HB;have oa:=Bb;have HB:=Gb;clear Bb Gb;(try clear hb);(try clear si);(try clear hk);(try clear hi);have uh:w9.cell? ⟨ya,0,none⟩=some (.slice Za Ra.length gb):=(ga oa.out 0).trans rfl;have th:w9.cell? ⟨ya,1,none⟩=some (.int .i64 La):=(ga oa.out 1).trans rfl;have qh:w9.cell? ⟨ya,2,none⟩=some (.int .i64 Ja):=(ga oa.out 2).trans rfl;have oh:w9.cell? ⟨ya,3,none⟩=some (.int .i64 Ia):=(ga oa.out 3).trans rfl;have nh:w9.cell? ⟨ya,4,none⟩=some (.slice Vb Fa.length Lb):=(ga oa.out 4).trans rfl;have mh:=aa oa.out 0;have jh:=aa oa.out 1;have gh:=aa oa.out 2;have fh:=aa oa.out 3;have dh:=aa oa.out 4)|(go_at_call 55;(with_reducible refine (Zf.calls a1 0 (wrap64 ((Fa.length:Int) - 1)) t103 _ A7.out).mono ?_);rintro e w' ⟨rfl,⟨nd,rfl⟩⟩))
   go_meet
   case rel=>exact ⟨_,(!t103),(by first|rfl|(simp;done)|(simp [*];done)),H',⟨by first|omega|exact Nat.le_refl _⟩,⟨by (with_reducible repeat (first|refine Aa ?_ _|refine Da ?_|refine Ba ?_ _));exact oa.out⟩,⟨by repeat (first|(with_reducible first|exact HB.out|apply qa|apply ia|apply ta|refine ua ?_ Ta.out)|exact HB.out)⟩⟩
  ·replace c6:=Bool.eq_false_iff.mpr c6;subst c6;have H1:(zd.j0 k a1 true Ra La Ja Ia Fa)=some r:=by rw [if_neg (show ¬ (false=true) by decide)] at H;exact H
   clear H;have H:=H1;clear H1;have H':=ja.mk H;clear H;have eo:w4.cell? ⟨ya,0,none⟩=some (.slice Za Ra.length gb):=(ga oa.out 0).trans rfl;have Zn:w4.cell? ⟨ya,1,none⟩=some (.int .i64 La):=(ga oa.out 1).trans rfl;have Yn:w4.cell? ⟨ya,2,none⟩=some (.int .i64 Ja):=(ga oa.out 2).trans rfl;have Xn:w4.cell? ⟨ya,3,none⟩=some (.int .i64 Ia):=(ga oa.out 3).trans rfl;have Wn:w4.cell? ⟨ya,4,none⟩=some (.slice Vb Fa.length Lb):=(ga oa.out 4).trans rfl;have Vn:=aa oa.out 0;have Un:=aa oa.out 1;have Tn:=aa oa.out 2;have Sn:=aa oa.out 3;have Rn:=aa oa.out 4;go_wp2_with (first|((with_reducible refine qb (f:=46) rfl ?_);refine Mc (some 6) rfl rfl Try.func46 (by kernel_rfl) rfl #[.agg #[.slice Za Ra.length gb,.int .i64 La,.int .i64 Ja,.int .i64 Ia,.slice Vb Fa.length Lb]] rfl (by (try simp only [List.map_toArray,List.map_cons,List.map_nil]);first|done|rfl|(simp only [List.length_drop,List.length_take];rfl)) ?_;(with_reducible refine (Xb.calls k _ _ Ra La Ja Ia _ _ Fa false _ ?Jc ?Ic ?Qd ?Pd A5.out).mono ?_);(case Jc=>repeat (first|exact (Kd.Mb He.out HB.out)|(with_reducible refine Kd.Tb ?_ _)|(with_reducible refine Kd.Sb ?_ _)|(with_reducible refine Kd.qc ?_)));(case Ic=>exact Me.out);(case Qd=>repeat (first|exact (Kd.Mb Uf.out HB.out)|(with_reducible refine Kd.Tb ?_ _)|(with_reducible refine Kd.Sb ?_ _)|(with_reducible refine Kd.qc ?_)));(case Pd=>exact Ug.out);rintro e dr ⟨rfl,hb⟩;refine ⟨_,rfl,?_⟩;have Bb:=ja.mk (Va (g:=ya) (o:=.cells #[.slice Za Ra.length gb,.int .i64 La,.int .i64 Ja,.int .i64 Ia,.slice Vb Fa.length Lb] 30 (0,0)) (by (with_reducible repeat (first|refine Aa ?_ _|refine Da ?_|refine Ba ?_ _));exact oa.out) hb);have Gb:=ja.mk (Qa (by repeat (first|(with_reducible first|exact HB.out|apply qa|apply ia|apply ta|refine ua ?_ Ta.out)|exact HB.out)) hb);clear oa HB;have oa:=Bb;have HB:=Gb;clear Bb Gb;(try clear hb);(try clear si);(try clear hk);(try clear hi)))
   go_meet
   case rel=>exact ⟨_,(true),(by first|rfl|(simp;done)|(simp [*];done)),H',⟨by first|omega|exact Nat.le_refl _⟩,⟨by (with_reducible repeat (first|refine Aa ?_ _|refine Da ?_|refine Ba ?_ _));exact oa.out⟩,⟨by repeat (first|(with_reducible first|exact HB.out|apply qa|apply ia|apply ta|refine ua ?_ Ta.out)|exact HB.out)⟩⟩
 case rest =>
  clear qO
  try clear c1
  try clear p2
  try clear c4
  try clear c6
  try clear p6
  try clear uh
  try clear th
  try clear qh
  try clear oh
  try clear nh
  try clear eo
  try clear Zn
  try clear Yn
  try clear Xn
  try clear Wn
  try clear Qu
  try clear Pu
  try clear Ou
  try clear Nu
  try clear Mu
  try clear mh
  try clear jh
  try clear gh
  try clear fh
  try clear dh
  try clear Vn
  try clear Un
  try clear Tn
  try clear Sn
  try clear Rn
  try clear Lu
  try clear Ku
  try clear Ju
  try clear Iu
  try clear Hu
  obtain ⟨kq,SJ,rfl,HA,HJ2,oa,HB⟩:=hcut;cases kq with
  | zero=>exact absurd HA.out (by simp [zd.j0])
  | succ BG =>
   have H:=HA.out;clear HA;simp only [zd.j0] at H
   by_cases kC:SJ=true
   ·subst kC;have H1:(some ([]:List Int))=some r:=by rw [if_pos rfl] at H;exact H
    clear H;have H:=H1;clear H1;obtain rfl:=Option.some.inj H;go_wp2;go_ret;exact ⟨_,by first|rfl|(simp [Na,Ma] <;> rfl)|(simp [*,Na,Ma] <;> rfl),by first|exact Kd.WC _ _ _ _ _|exact Kd.mX _ _ _ _ _|exact Kd.fX _ _ _ _ _|exact Kd.kX _ _ _ _ _|exact Kd.jX _ _ _ _ _,by repeat (first|(with_reducible first|exact HB.out|apply qa|apply ia|apply ta|refine ua ?_ Ta.out)|exact HB.out)⟩
   ·replace kC:=Bool.eq_false_iff.mpr kC;subst kC;have H1:((Mh.f Ra La Ja Ia Fa).bind fun t104=>((ie.f BG Ra La Ja Ia Fa t104 a1).bind fun t107=>((Yc.f BG t107).bind fun t110=>(some t110))))=some r:=by rw [if_neg (show ¬ (false=true) by decide)] at H;exact H
    clear H;have H:=H1;clear H1;replace H:=Option.bind_eq_some_iff.mp H;obtain ⟨t104,bC,H⟩:=H;replace H:((ie.f BG Ra La Ja Ia Fa t104 a1).bind fun t107=>((Yc.f BG t107).bind fun t110=>(some t110)))=some r:=H;have Z2:=ja.mk bC;clear bC;replace H:=Option.bind_eq_some_iff.mp H;obtain ⟨t107,eI,H⟩:=H;replace H:((Yc.f BG t107).bind fun t110=>(some t110))=some r:=H;have VX:=ja.mk eI;clear eI;replace H:=Option.bind_eq_some_iff.mp H;obtain ⟨t110,kac,H⟩:=H;replace H:(some t110)=some r:=H;have A16:=ja.mk kac;clear kac;obtain rfl:=Option.some.inj H
    try go_wp2
    have Bb:=ja.mk (Da oa.out);have Gb:=ja.mk (ta HB.out);clear oa HB;have oa:=Bb;have HB:=Gb;clear Bb Gb;refine mm (n:=7) (S:=fun w'=>w'.cell? ⟨ya,0,none⟩=some (.slice Za Ra.length gb)∧w'.cell? ⟨ya,1,none⟩=some (.int .i64 La)∧w'.cell? ⟨ya,2,none⟩=some (.int .i64 Ja)∧w'.cell? ⟨ya,3,none⟩=some (.int .i64 Ia)∧w'.cell? ⟨ya,4,none⟩=some (.slice Vb Fa.length Lb)) (ds:=[]) #[false,false,false,false,false,false,false] (by kernel_rfl) rfl rfl ⟨(ga oa.out 0).trans rfl,(ga oa.out 1).trans rfl,(ga oa.out 2).trans rfl,(ga oa.out 3).trans rfl,(ga oa.out 4).trans rfl⟩ (fun hHeld=>?_);generalize wc.drew=kr at oa HB hHeld ⊢;refine Zc (i:=3) (N:=some 20) (v:=?_) (a':=?_) #[false,false,false,true,false,false,false] rfl rfl (by kernel_rfl) (fun _ _ _ h=>h) (Or.inl ⟨by rfl,?_⟩) ?_ ?_;rotate_left
    ·intro w';go_simp;with_reducible rfl
    rotate_left
    ·simp only [Act.put,List.setIfInBounds_toArray,List.set_cons_zero,List.set_cons_succ,Yb,Zb]
     rfl
    refine yg (i:=0) (N:=some 17) (v:=?_) (a':=?_) #[true,false,false,true,false,false,false] rfl rfl (by kernel_rfl) (fun _ _ _ h=>h) (Or.inl ⟨by rfl,?_⟩) hHeld ?_ ?_;rotate_left
    ·rintro w' ⟨s0,s1,s2,s3,s4⟩;go_simp;with_reducible rfl
    rotate_left
    ·simp only [Act.put,List.setIfInBounds_toArray,List.set_cons_zero,List.set_cons_succ,Yb,Zb]
     rfl
    refine yg (i:=1) (N:=some 18) (v:=?_) (a':=?_) #[true,true,false,true,false,false,false] rfl rfl (by kernel_rfl) (fun _ _ _ h=>h) (Or.inl ⟨by rfl,?_⟩) hHeld ?_ ?_;rotate_left
    ·rintro w' ⟨s0,s1,s2,s3,s4⟩;go_simp;with_reducible rfl
    rotate_left
    ·simp only [Act.put,List.setIfInBounds_toArray,List.set_cons_zero,List.set_cons_succ,Yb,Zb]
     rfl
    refine ku (i:=2) (N:=some 19) #[true,true,true,true,false,false,false] rfl rfl (by kernel_rfl) (by decide) (fun K hK=>?_);refine dn Try.func47 (by kernel_rfl) rfl #[.agg #[.slice Za Ra.length gb,.int .i64 La,.int .i64 Ja,.int .i64 Ia,.slice Vb Fa.length Lb]] (by rfl) rfl rfl (by (try simp only [List.map_toArray,List.map_cons,List.map_nil]);first|done|rfl|(simp only [List.length_drop,List.length_take];rfl)) ?_;with_reducible refine (Mh.calls _ _ Ra La Ja Ia _ _ Fa t104 _ ?Jc ?Ic ?Qd ?Pd Z2.out).mono ?_
    (case Jc=>repeat (first|exact (Kd.Mb He.out HB.out)|(with_reducible refine Kd.Tb ?_ _)|(with_reducible refine Kd.Sb ?_ _)|(with_reducible refine Kd.qc ?_)))
    (case Ic=>exact Me.out)
    (case Qd=>repeat (first|exact (Kd.Mb Uf.out HB.out)|(with_reducible refine Kd.Tb ?_ _)|(with_reducible refine Kd.Sb ?_ _)|(with_reducible refine Kd.qc ?_)))
    (case Pd=>exact Ug.out)
    rintro e vN ⟨KO,rfl,ri,hb⟩;refine ⟨_,rfl,?_⟩;have Bb:=ja.mk (Kd.fu ri (Ka (by repeat (first|(with_reducible first|exact HB.out|apply qa|apply ia|apply ta|refine ua ?_ Ta.out)|exact HB.out))));have Gb:=ja.mk (Va (g:=ya) (o:=.cells #[.slice Za Ra.length gb,.int .i64 La,.int .i64 Ja,.int .i64 Ia,.slice Vb Fa.length Lb] 30 (0,0)) (by (with_reducible repeat (first|refine Aa ?_ _|refine Da ?_|refine Ba ?_ _));exact oa.out) hb);have Nb:=ja.mk (Qa (by repeat (first|(with_reducible first|exact HB.out|apply qa|apply ia|apply ta|refine ua ?_ Ta.out)|exact HB.out)) hb);clear oa HB;have xj:=Bb;have oa:=Gb;have HB:=Nb;clear Bb Gb Nb;(try clear hb);(try clear si);(try clear hk);(try clear hi);(try clear ri);obtain ⟨Pam,RZ,FQ⟩:=Kd.fo xj.out;(first|subst FQ|(injection FQ with BQ GZ AQ;have FZ:=BQ.symm;have EZ:=AQ.symm;clear BQ GZ AQ;subst FZ;subst EZ));refine hK.out _ _ ⟨(ga oa.out 0).trans rfl,(ga oa.out 1).trans rfl,(ga oa.out 2).trans rfl,(ga oa.out 3).trans rfl,(ga oa.out 4).trans rfl⟩ (fun hHeld=>?_);clear hK K;refine bn (a':=?_) ?_ ?_;rotate_left
    ·show Act.put _ (some 19) _=_
     simp only [Act.put,List.setIfInBounds_toArray,List.set_cons_zero,List.set_cons_succ,Yb,Zb]
     rfl
    refine ku (i:=4) (N:=some 21) #[true,true,true,true,true,false,false] rfl rfl (by kernel_rfl) (by decide) (fun K hK=>?_);refine dn Try.func49 (by kernel_rfl) rfl #[.agg #[.slice Za Ra.length gb,.int .i64 La,.int .i64 Ja,.int .i64 Ia,.slice Vb Fa.length Lb],.slice Pam t104.length RZ,.int .i64 a1] (by rfl) rfl rfl (by (try simp only [List.map_toArray,List.map_cons,List.map_nil]);first|done|rfl|(simp only [List.length_drop,List.length_take];rfl)) ?_;with_reducible refine (ie.calls BG _ _ Ra La Ja Ia _ _ Fa _ _ t104 a1 t107 _ ?Jc ?Ic ?Qd ?Pd ?Br ?Ar VX.out).mono ?_
    (case Jc=>repeat (first|exact (Kd.Mb He.out HB.out)|(with_reducible refine Kd.Tb ?_ _)|(with_reducible refine Kd.Sb ?_ _)|(with_reducible refine Kd.qc ?_)))
    (case Ic=>exact Me.out)
    (case Qd=>repeat (first|exact (Kd.Mb Uf.out HB.out)|(with_reducible refine Kd.Tb ?_ _)|(with_reducible refine Kd.Sb ?_ _)|(with_reducible refine Kd.qc ?_)))
    (case Pd=>exact Ug.out)
    (case Br=>repeat (first|exact (Kd.Ue xj.out).2.2|(with_reducible refine Kd.Tb ?_ _)|(with_reducible refine Kd.Sb ?_ _)|(with_reducible refine Kd.qc ?_)))
    (case Ar=>exact (Kd.Ue xj.out).2.1)
    rintro e w20 ⟨Gaj,rfl,ri,hb⟩;refine ⟨_,rfl,?_⟩;have Bb:=ja.mk (Kd.Sr (by (with_reducible repeat (first|apply Kd.Nf|apply Kd.Mf|apply Kd.pg));exact xj.out) (Kd.Tr ri) hb);have Gb:=ja.mk (Kd.Dd ri (Ka (by repeat (first|(with_reducible first|exact HB.out|apply qa|apply ia|apply ta|refine ua ?_ Ta.out)|exact HB.out))));have Nb:=ja.mk (Va (g:=ya) (o:=.cells #[.slice Za Ra.length gb,.int .i64 La,.int .i64 Ja,.int .i64 Ia,.slice Vb Fa.length Lb] 30 (0,0)) (by (with_reducible repeat (first|refine Aa ?_ _|refine Da ?_|refine Ba ?_ _));exact oa.out) hb);have Dc:=ja.mk (Qa (by repeat (first|(with_reducible first|exact HB.out|apply qa|apply ia|apply ta|refine ua ?_ Ta.out)|exact HB.out)) hb);clear xj oa HB;have xj:=Bb;have Mx:=Gb;have oa:=Nb;have HB:=Dc;clear Bb Gb Nb Dc;(try clear hb);(try clear si);(try clear hk);(try clear hi);(try clear ri);obtain ⟨Oam,Wal,G_⟩:=Kd.Ud Mx.out;(first|subst G_|(injection G_ with BQ GZ AQ;have FZ:=BQ.symm;have EZ:=AQ.symm;clear BQ GZ AQ;subst FZ;subst EZ));refine hK.out _ _ ⟨(ga oa.out 0).trans rfl,(ga oa.out 1).trans rfl,(ga oa.out 2).trans rfl,(ga oa.out 3).trans rfl,(ga oa.out 4).trans rfl⟩ (fun hHeld=>?_);clear hK K;refine bn (a':=?_) ?_ ?_;rotate_left
    ·show Act.put _ (some 21) _=_
     simp only [Act.put,List.setIfInBounds_toArray,List.set_cons_zero,List.set_cons_succ,Yb,Zb]
     rfl
    refine ku (i:=5) (N:=some 22) #[true,true,true,true,true,true,false] rfl rfl (by kernel_rfl) (by decide) (fun K hK=>?_);refine dn Try.func48 (by kernel_rfl) rfl #[.slice Oam t107.length Wal] (by rfl) rfl rfl (by (try simp only [List.map_toArray,List.map_cons,List.map_nil]);first|done|rfl|(simp only [List.length_drop,List.length_take];rfl)) ?_;with_reducible refine (Yc.calls BG _ _ t107 t110 _ ?Jc ?Ic A16.out).mono ?_
    (case Jc=>repeat (first|exact (Kd.dc Mx.out).2.2|(with_reducible refine Kd.Tb ?_ _)|(with_reducible refine Kd.Sb ?_ _)|(with_reducible refine Kd.qc ?_)))
    (case Ic=>exact (Kd.dc Mx.out).2.1)
    rintro e fC ⟨Tar,rfl,ri,hb⟩;refine ⟨_,rfl,?_⟩;have Bb:=ja.mk (Kd.Vh (by (with_reducible repeat (first|apply Kd.Nf|apply Kd.Mf|apply Kd.pg));exact xj.out) hb);have Gb:=ja.mk (Kd.yd (by (with_reducible repeat (first|apply Kd.zb|apply Kd.yb|apply Kd.Ib));exact Mx.out) hb);have Nb:=ja.mk (Kd.Dd ri (Ka (by repeat (first|(with_reducible first|exact HB.out|apply qa|apply ia|apply ta|refine ua ?_ Ta.out)|exact HB.out))));have Dc:=ja.mk (Va (g:=ya) (o:=.cells #[.slice Za Ra.length gb,.int .i64 La,.int .i64 Ja,.int .i64 Ia,.slice Vb Fa.length Lb] 30 (0,0)) (by (with_reducible repeat (first|refine Aa ?_ _|refine Da ?_|refine Ba ?_ _));exact oa.out) hb);have Jf:=ja.mk (Qa (by repeat (first|(with_reducible first|exact HB.out|apply qa|apply ia|apply ta|refine ua ?_ Ta.out)|exact HB.out)) hb);clear xj Mx oa HB;have xj:=Bb;have Mx:=Gb;have vab:=Nb;have oa:=Dc;have HB:=Jf;clear Bb Gb Nb Dc Jf;(try clear hb);(try clear si);(try clear hk);(try clear hi);(try clear ri);refine hK.out _ _ ⟨(ga oa.out 0).trans rfl,(ga oa.out 1).trans rfl,(ga oa.out 2).trans rfl,(ga oa.out 3).trans rfl,(ga oa.out 4).trans rfl⟩ (fun hHeld=>?_);clear hK K;refine bn (a':=?_) ?_ ?_;rotate_left
    ·show Act.put _ (some 22) _=_
     simp only [Act.put,List.setIfInBounds_toArray,List.set_cons_zero,List.set_cons_succ,Yb,Zb]
     rfl
    refine Zc (i:=6) (N:=some 4) (v:=?_) (a':=?_) #[true,true,true,true,true,true,true] rfl rfl (by kernel_rfl) (fun _ _ _ h=>h) (Or.inl ⟨by rfl,?_⟩) ?_ ?_;rotate_left
    ·intro w';go_simp;with_reducible rfl
    rotate_left
    ·simp only [Act.put,List.setIfInBounds_toArray,List.set_cons_zero,List.set_cons_succ,Yb,Zb]
     rfl
    refine Np (by kernel_rfl) ?_
    try go_wp2
    go_ret;exact ⟨_,by first|rfl|(simp [Na,Ma] <;> rfl)|(simp [*,Na,Ma] <;> rfl),by (with_reducible repeat (first|apply Kd.zb|apply Kd.yb|apply Kd.Ib));exact vab.out,by repeat (first|(with_reducible first|exact HB.out|apply qa|apply ia|apply ta|refine ua ?_ Ta.out)|exact HB.out)⟩
theorem jm {i:Nat} (h:i ≤ 1048576):wrap64 ((i:Int) - 1)=(i:Int) - 1:=by unfold wrap64;omega
theorem succ_pred (i:Nat):((i + 1:Nat):Int) - 1=(i:Int):=by omega
theorem mD (X:List (List Bool)) (i:Nat):Rd X (i:Int)=Ve X i:=by unfold Rd Ve;rw [Int.toNat_natCast]
def Vo (s:List Bool) (m:Nat):List Int:=((List.range m).filter (fun i=>seen s i)).map (fun (i:Nat)=>(i:Int))
theorem IC {s:List Bool} {m:Nat} (h:seen s m=true):Vo s (m + 1)=Vo s m ++ [(m:Int)]:=by
 unfold Vo;rw [List.range_succ,List.filter_append,List.map_append];simp [h]
theorem JC {s:List Bool} {m:Nat} (h:¬ seen s m=true):Vo s (m + 1)=Vo s m:=by
 unfold Vo;rw [List.range_succ,List.filter_append,List.map_append];simp [h]
theorem dy (s:List Bool) (m:Nat):(Vo s m).length ≤ m:=by
 unfold Vo;rw [List.length_map];exact Nat.le_trans (List.length_filter_le _ _) (Nat.le_of_eq List.length_range)
theorem wC (s:List Bool) (hm:s.length ≤ 1048576):∀ (d i:Nat),i + d=s.length→Ev (fun k=>Yc.l0 k (Vo s i) s (s.length:Int) (i:Int)) (Vo s s.length):=by
 intro d
 induction d with
 | zero =>
  intro i hi;obtain rfl:i=s.length:=by omega
  refine Ev.step (fun k=>by rw [Yc.l0]) ?_;exact Ev.neg (by omega) (Ev.now _)
 | succ d ih =>
  intro i hi;have hl:=dy s i;have h:=ih (i + 1) (by omega);refine Ev.step (fun k=>by rw [Yc.l0]) ?_;refine Ev.pos (by omega) (Ev.pos (by omega) (Ev.pos (by omega) ?_));rw [vv,Ke (show i < s.length by omega) (by omega)]
  by_cases hs:seen s i=true
  ·rw [IC hs] at h;exact Ev.pos hs (Ev.pos (by omega) h)
  ·rw [JC hs] at h;exact Ev.neg hs h
theorem bJ (s:List Bool) (hm:s.length ≤ 1048576):Ev (fun k=>Yc.f k s) (Vo s s.length):=wC s hm s.length 0 (by omega)
theorem YF (s:List Bool) (hm:s.length ≤ 1048576) (l0:List Int) (p v:Int) (bs:List We):∀ (d i:Nat),i + d=s.length→Ev (fun k=>Ub.l0 k (Vo s i) s (i:Int) l0 p v (s.length:Int) bs) (Vo s s.length):=by
 intro d
 induction d with
 | zero =>
  intro i hi;obtain rfl:i=s.length:=by omega
  refine Ev.step (fun k=>by rw [Ub.l0]) ?_;exact Ev.neg (by omega) (Ev.now _)
 | succ d ih =>
  intro i hi;have hl:=dy s i;have h:=ih (i + 1) (by omega);refine Ev.step (fun k=>by rw [Ub.l0]) ?_;refine Ev.pos (by omega) (Ev.pos (by omega) (Ev.pos (by omega) ?_));rw [vv,Ke (show i < s.length by omega) (by omega)]
  by_cases hs:seen s i=true
  ·rw [IC hs] at h;exact Ev.pos hs (Ev.pos (by omega) h)
  ·rw [JC hs] at h;exact Ev.neg hs h
theorem xH (b:We) (s:List Bool) (hb:zu s.length b) (x:List Bool) (hx:x.length=s.length):∀ (q:Nat),q ≤ b.f0.length→Ev (fun k=>xe.l0 k (nI b.f0 q x) ((q:Int) - 1) b.f0 b.f1 b.f2 b.f3 b.f4) (nI b.f0 0 x):=by
 intro q
 induction q with
 | zero =>
  intro _;refine Ev.step (fun k=>by rw [xe.l0]) ?_;exact Ev.neg (by omega) (Ev.now _)
 | succ q ih =>
  intro hq;have h1:=hb.1;have he:=CQ (nI b.f0 (q + 1) x) (Ca b.f0 (q:Int)) (by rw [gG,hx];exact KI hb (by omega));rw [← OB (by omega)] at he;refine Ev.step (fun k=>by rw [xe.l0]) ?_;rw [succ_pred];refine Ev.pos (by omega) (Ev.pos (by omega) (Ev.pos (by omega) (Ev.bind he ?_)));rw [jm (by omega)];exact ih (by omega)
theorem yH (b:We) (s:List Bool) (hb:zu s.length b) (hs:s.length ≤ 1048576):Ev (fun k=>xe.f k b.f0 b.f1 b.f2 b.f3 b.f4 s) (zv b s):=by
 have hl:=xH b s hb (Ep b s) (Er b s) b.f0.length (Nat.le_refl _);rw [iG,MH] at hl;have h1:=hb.1
 have he:Lg.f b.f0 b.f1 b.f2 b.f3 b.f4 s=some (Ep b s):=by
  unfold Lg.f Ep;rw [Option.bind_some,if_pos (by simp;omega),Option.bind_some,List.nil_append]
  by_cases hf:b.f1=0
  ·rw [if_pos hf,if_pos hf]
  ·have:=hb.2.1 hf;rw [if_neg hf,if_neg hf,if_pos (by omega),if_pos (by omega)]
 unfold xe.f;refine Ev.bind (Ev.here he) ?_;rw [jm h1];exact hl
theorem XF (b:We) (s:List Bool) (hb:zu s.length b) (x:List Bool) (hx:x.length=s.length):∀ (q:Nat),q ≤ b.f0.length→Ev (fun k=>ie.l0 k (nI b.f0 q x) b.f0 ((q:Int) - 1)) (nI b.f0 0 x):=by
 intro q
 induction q with
 | zero =>
  intro _;refine Ev.step (fun k=>by rw [ie.l0]) ?_;exact Ev.neg (by omega) (Ev.now _)
 | succ q ih =>
  intro hq;have h1:=hb.1;have he:=KM (nI b.f0 (q + 1) x) (Ca b.f0 (q:Int)) (by rw [gG,hx];exact KI hb (by omega));rw [← OB (by omega)] at he;refine Ev.step (fun k=>by rw [ie.l0]) ?_;rw [succ_pred];refine Ev.pos (by omega) (Ev.pos (by omega) (Ev.pos (by omega) (Ev.bind he ?_)));rw [jm (by omega)];exact ih (by omega)
theorem LI {bs:List We} {n i:Nat} (hO:sr bs n) (hi:i < bs.length) (X:List (List Bool)) (hX:X.length=bs.length) (hr:(Ve X i).length=n) (l0:List Int) (p v s:Int):Rh.f l0 p v s bs X (i:Int)=some (Ep (Oa bs (i:Int)) (Ve X i)):=by
 have hb:=Fu hO hi;have hn:=hO.2.1;unfold Rh.f Ep;rw [mD,Option.bind_some,if_pos (by omega),if_pos (by omega),if_pos (by simp;omega),Option.bind_some,List.nil_append,if_pos (by omega)]
 by_cases hf:(Oa bs (i:Int)).f1=0
 ·rw [if_pos hf,if_pos hf]
 ·have:=hb.2.1 hf;rw [if_neg hf,if_neg hf,if_pos (by omega),if_pos (by omega)]
theorem cO {bs:List We} {n i:Nat} (hO:sr bs n) (hi:i < bs.length) (X:List (List Bool)) (hX:X.length=bs.length) (hr:(Ve X i).length=n) (l0:List Int) (p v s:Int):Ev (fun k=>ie.f k l0 p v s bs X (i:Int)) (zv (Oa bs (i:Int)) (Ve X i)):=by
 have hb:=Fu hO hi;have hl:=XF (Oa bs (i:Int)) (Ve X i) (by rw [hr];exact hb) (Ep (Oa bs (i:Int)) (Ve X i)) (Er _ _) _ (Nat.le_refl _);rw [iG,MH] at hl;unfold ie.f;refine Ev.bind (Ev.here (LI hO hi X hX hr l0 p v s)) ?_;refine Ev.pos (by omega) (Ev.pos (by omega) ?_);rw [jm hb.1];exact hl
structure fR (bs:List We) (n:Nat) (X:List (List Bool)):Prop where
 len:X.length=bs.length
 row:∀ i,i < bs.length→(Ve X i).length=n
 so:∀ i u,i < bs.length→seen (Ve X i) u=true→LB bs u i
def StS (bs:List We) (X:List (List Bool)) (i:Nat):Prop:=∀ t ∈ Ip bs i,∀ u,seen (zv (Oa bs t) (Ve X t.toNat)) u=true→seen (Ve X i) u=true
structure xV (bs:List We) (n:Nat) (X0 X:List (List Bool)) (a:Bool):Prop where
 inv:fR bs n X
 le:Io X0 ≤ Io X
 lt:a=true→Io X0 < Io X
 eq:a=false→X=X0
section
variable {bs:List We} {n:Nat} {X0 X:List (List Bool)} {a:Bool}
theorem fR.D4 (h:fR bs n X) (hO:sr bs n) {i:Nat} {t:Int} (hi:i < bs.length) (ht:t ∈ Ip bs i) {u:Nat} (hu:seen (zv (Oa bs t) (Ve X t.toNat)) u=true):LB bs u i:=by
 obtain ⟨t0,t1⟩:=hO.1.2.2 i hi t ht;have htn:t.toNat < bs.length:=by omega
 have hb:=Fu hO htn;rw [Int.toNat_of_nonneg t0] at hb;rw [Gr (by rw [h.row _ htn];exact hb)] at hu;cases hc:seen (Ve X t.toNat) u with
 | false=>rw [hc] at hu;exact LB.gen ht hu
 | true=>rw [hc] at hu;exact LB.step ht hu (h.so _ u htn hc)
theorem xV.put (h:xV bs n X0 X a) {i s:Nat} (hi:i < bs.length) (hs:s < n) (hb:LB bs s i) (hns:¬ seen (Ve X i) s=true):xV bs n X0 (X.set i ((Ve X i).set s true)) true:=by
 have hil:i < X.length:=by rw [h.inv.len];exact hi
 have sK:s < (Ve X i).length:=by rw [h.inv.row i hi];exact hs
 have h1:=FB X i ((Ve X i).set s true) hil
 have h2:=(qJ (Ve X i) ((Ve X i).set s true) (by rw [List.length_set]) (fun u hu=>by
  rw [qi sK]
  by_cases e:s=u
  ·rw [if_pos e]
  ·rw [if_neg e];exact hu)).2 (fun e=>hns (by rw [e,qi sK,if_pos rfl]))
 have h3:=h.le;refine ⟨⟨by rw [List.length_set];exact h.inv.len,fun k hk=>?_,fun k u hk hu=>?_⟩,by omega,fun _=>by omega,fun e=>by cases e⟩
 ·rw [Cp hil]
  by_cases e:i=k
  ·rw [if_pos e,List.length_set];exact h.inv.row i hi
  ·rw [if_neg e];exact h.inv.row k hk
 ·rw [Cp hil] at hu
  by_cases e:i=k
  ·subst e;rw [if_pos rfl,qi sK] at hu
   by_cases e2:s=u
   ·subst e2;exact hb
   ·rw [if_neg e2] at hu;exact h.inv.so i u hk hu
  ·rw [if_neg e] at hu;exact h.inv.so k u hk hu
theorem fR.done (h:fR bs n X) (hO:sr bs n) (hst:∀ i,i < bs.length→StS bs X i):X=dm bs n:=by
 have hE:=hO.1
 have key:∀ u i,LB bs u i→i < bs.length→seen (Ve X i) u=true:=by
  intro u i hl
  have turn:∀ (i:Nat) (t:Int),i < bs.length→t ∈ Ip bs i→TR u (Oa bs t) (seen (Ve X t.toNat) u)=true→seen (Ve X i) u=true:=by
   intro i t hi ht h1;obtain ⟨t0,t1⟩:=hE.2.2 i hi t ht;have htn:t.toNat < bs.length:=by omega
   have hb:=Fu hO htn;rw [Int.toNat_of_nonneg t0] at hb;refine hst i hi t ht u ?_;rw [Gr (by rw [h.row _ htn];exact hb)];exact h1
  induction hl with
  | @gen i t ht h1 =>
   intro hi;exact turn i t hi ht (Hr (fun hf=>by cases hf) h1)
  | @step i t ht h1 _ ih =>
   intro hi;obtain ⟨t0,t1⟩:=hE.2.2 i hi t ht;exact turn i t hi ht (Hr (fun _=>ih (by omega)) h1)
 apply List.ext_getElem
 ·rw [h.len,Es]
 ·intro i h1 h2;have hi:i < bs.length:=by rw [← h.len];exact h1
  have e1:X[i]=Ve X i:=by simp [Ve,List.getD_eq_getElem?_getD,h1]
  have e2:(dm bs n)[i]=Nh bs n i:=by simp [dm]
  rw [e1,e2];refine MG (by rw [h.row i hi,Mm]) (fun u=>?_)
  constructor
  ·intro hu;have hun:u < n:=by have:=Zr hu;rw [h.row i hi] at this;exact this
   exact (pn hun).2 (h.so i u hi hu)
  ·intro hu;have hun:u < n:=by have:=Zr hu;rw [Mm] at this;exact this
   exact key u i ((pn hun).1 hu) hi
theorem fR.start (bs:List We) (n:Nat):fR bs n (List.replicate bs.length (List.replicate n false)) :=
 ⟨(mC.start bs n).xl,(mC.start bs n).xr,(mC.start bs n).xs⟩
theorem fR.cnt (h:fR bs n X):Io X ≤ n * bs.length:=by
 have:=bG (m:=n) X (fun i hi=>by rw [h.row i (by rw [← h.len];exact hi)];exact Nat.le_refl _)
 rwa [h.len] at this
end
section
variable {bs:List We} {n:Nat} (l0:List Int) (p v:Int) {R:List (List Bool)} {X0:List (List Bool)}
theorem hJ {Q:Prop} {i j:Nat} {ts:List Int} {t:List Bool} (hO:sr bs n) (hi:i < bs.length) (htl:t.length=n) (hso:∀ u,seen t u=true→LB bs u i)
  (hK:∀ X a,xV bs n X0 X a→(a=false→Q)→(a=false→∀ u,u < n→seen t u=true→seen (Ve X0 i) u=true)→Ev (fun k=>Ya.l3 k X a (i:Int) ts (wrap64 ((j:Int) + 1)) l0 p v (n:Int) bs) R) :
  ∀ (d s:Nat) (X:List (List Bool)) (a:Bool),s + d=n→xV bs n X0 X a→(a=false→Q)→(a=false→∀ u,u < s→seen t u=true→seen (Ve X0 i) u=true)→Ev (fun k=>Ya.l4 k X a (i:Int) ts (j:Int) t (s:Int) l0 p v (n:Int) bs) R:=by
 intro d
 induction d with
 | zero =>
  intro s X a hs hP hQ hD;obtain rfl:s=n:=by omega
  refine Ev.step (fun k=>by rw [Ya.l4]) ?_;exact Ev.neg (by omega) (hK X a hP hQ hD)
 | succ d ih =>
  intro s X a hs hP hQ hD;have hsn:s < n:=by omega
  have hn:=hO.2.1;have hxl:=hP.inv.len;have hxr:=hP.inv.row i hi;refine Ev.step (fun k=>by rw [Ya.l4]) ?_;refine Ev.pos (by omega) (Ev.pos (by omega) (Ev.pos (by omega) ?_));rw [vv,Ke hsn (by omega),mD,vv,Int.toNat_natCast,Int.toNat_natCast]
  by_cases hts:seen t s=true
  ·refine Ev.pos hts (Ev.pos (by omega) (Ev.pos (by omega) (Ev.pos (by omega) ?_)))
   by_cases hx:seen (Ve X i) s=true
   ·refine Ev.pos hx (ih (s + 1) X a (by omega) hP hQ (fun ha u hu hu2=>?_))
    by_cases e:u=s
    ·subst e;rw [← hP.eq ha];exact hx
    ·exact hD ha u (by omega) hu2
   ·exact Ev.neg hx (ih (s + 1) _ true (by omega) (hP.put hi hsn (hso s hts) hx) (fun ha=>by cases ha) (fun ha=>by cases ha))
  ·refine Ev.neg hts (ih (s + 1) X a (by omega) hP hQ (fun ha u hu hu2=>?_))
   by_cases e:u=s
   ·subst e;exact absurd hu2 hts
   ·exact hD ha u (by omega) hu2
theorem iJ {Q:Prop} {i:Nat} (hO:sr bs n) (hi:i < bs.length)
  (hK:∀ X a,xV bs n X0 X a→(a=false→Q)→(a=false→StS bs X0 i)→Ev (fun k=>Ya.l2 k X a (wrap64 ((i:Int) - 1)) l0 p v (n:Int) bs) R) :
  ∀ (d j:Nat) (X:List (List Bool)) (a:Bool),j + d=(Ip bs i).length→xV bs n X0 X a→(a=false→Q)→(a=false→∀ t ∈ (Ip bs i).take j,∀ u,seen (zv (Oa bs t) (Ve X0 t.toNat)) u=true→seen (Ve X0 i) u=true)→Ev (fun k=>Ya.l3 k X a (i:Int) (Ip bs i) (j:Int) l0 p v (n:Int) bs) R:=by
 have h2:(Ip bs i).length ≤ 2:=qH _;intro d
 induction d with
 | zero =>
  intro j X a hj hP hQ hD;obtain rfl:j=(Ip bs i).length:=by omega
  refine Ev.step (fun k=>by rw [Ya.l3]) ?_;refine Ev.neg (by omega) (hK X a hP hQ (fun ha t ht=>hD ha t (by rw [List.take_length];exact ht)))
 | succ d ih =>
  intro j X a hj hP hQ hD;have hjl:j < (Ip bs i).length:=by omega
  have hn:=hO.2.1;have htm:=List.getElem_mem hjl;obtain ⟨t0,t1⟩:=hO.1.2.2 i hi _ htm;have hxl:=hP.inv.len;obtain ⟨tn,htn⟩:∃ tn:Nat,(Ip bs i)[j]=(tn:Int):=⟨_,(Int.toNat_of_nonneg t0).symm⟩;have htb:tn < bs.length:=by omega
  have hb:=Fu hO htb;have hr:=hP.inv.row tn htb;refine Ev.step (fun k=>by rw [Ya.l3]) ?_;rw [bq hjl,htn,mD];refine Ev.pos (by omega) (Ev.pos (by omega) (Ev.pos (by omega) (Ev.pos (by omega) (Ev.pos (by omega) (Ev.bind (yH _ (Ve X tn) (by rw [hr];exact hb) (by omega)) ?_)))));refine hJ l0 p v (X0:=X0) (Q:=a=false) hO hi (by rw [Wo];exact hr) (fun u hu=>hP.inv.D4 hO hi htm (by rw [htn,Int.toNat_natCast];exact hu)) (fun X' a' mV hQ' p_=>?_) n 0 X a (by omega) hP id (fun ha u hu=>by omega);rw [Ke hjl (by omega)];refine ih (j + 1) X' a' (by omega) mV (fun ha=>hQ (hQ' ha)) (fun ha t ht u hu=>?_);have hX:=hP.eq (hQ' ha);rw [List.take_succ_eq_append_getElem hjl,List.mem_append,List.mem_singleton] at ht
  rcases ht with ht|ht
  ·exact hD (hQ' ha) t ht u hu
  ·rw [ht,htn,Int.toNat_natCast,← hX] at hu;have hun:u < n:=by have:=Zr hu;rw [Wo,hr] at this;exact this
   exact p_ ha u hun hu
theorem jJ (hO:sr bs n)
  (hK:∀ X a,xV bs n X0 X a→(a=false→∀ i,i < bs.length→StS bs X0 i)→Ev (fun k=>Ya.l1 k X a l0 p v (n:Int) bs) R) :
  ∀ (q:Nat) (X:List (List Bool)) (a:Bool),q ≤ bs.length→xV bs n X0 X a→(a=false→∀ i,q ≤ i→i < bs.length→StS bs X0 i)→Ev (fun k=>Ya.l2 k X a ((q:Int) - 1) l0 p v (n:Int) bs) R:=by
 intro q
 induction q with
 | zero =>
  intro X a hq hP hD;refine Ev.step (fun k=>by rw [Ya.l2]) ?_;exact Ev.neg (by omega) (hK X a hP (fun ha i hi=>hD ha i (Nat.zero_le _) hi))
 | succ q ih =>
  intro X a hq hP hD;have hb:=hO.1.2.1;refine Ev.step (fun k=>by rw [Ya.l2]) ?_;rw [succ_pred];refine Ev.pos (by omega) (Ev.pos (by omega) (Ev.pos (by omega) (Ev.bind (Ev.here (BN (Oa bs (q:Int)))) ?_)));refine iJ l0 p v (X0:=X0) (Q:=a=false) hO (show q < bs.length by omega) (fun X' a' mV hQ' p_=>?_) _ 0 X a (Nat.zero_add _) hP id (fun _ t ht=>by simp at ht);rw [jm (by omega)];refine ih X' a' (by omega) mV (fun ha i hi1 hi2=>?_)
  by_cases e:i=q
  ·subst e;exact p_ ha
  ·exact hD (hQ' ha) i (by omega) hi2
theorem kJ (hO:sr bs n):∀ (m:Nat) (X:List (List Bool)) (a:Bool),n * bs.length - Io X + (if a=true then 1 else 0) ≤ m→fR bs n X→(a=false→∀ i,i < bs.length→StS bs X i)→Ev (fun k=>Ya.l1 k X a l0 p v (n:Int) bs) (dm bs n):=by
 intro m
 induction m with
 | zero =>
  intro X a hm hI hD;cases a with
  | true=>rw [if_pos rfl] at hm;omega
  | false =>
   rw [← hI.done hO (hD rfl)];refine Ev.step (fun k=>by rw [Ya.l1]) ?_;exact Ev.neg (by simp) (Ev.now _)
 | succ m ih =>
  intro X a hm hI hD;cases a with
  | false =>
   rw [← hI.done hO (hD rfl)];refine Ev.step (fun k=>by rw [Ya.l1]) ?_;exact Ev.neg (by simp) (Ev.now _)
  | true =>
   rw [if_pos rfl] at hm;refine Ev.step (fun k=>by rw [Ya.l1]) ?_;refine Ev.pos rfl ?_;rw [jm hO.1.2.1];refine jJ l0 p v (X0:=X) hO (fun X' a' mV p_=>?_) _ X false (Nat.le_refl _) ⟨hI,Nat.le_refl _,(fun e=>by cases e),(fun _=>rfl)⟩ (fun _ i h1 h2=>by omega);have hc:=mV.inv.cnt;refine ih X' a' ?_ mV.inv (fun ha=>?_)
   ·cases a' with
    | true=>have:=mV.lt rfl;rw [if_pos rfl];omega
    | false=>have:=mV.le;rw [if_neg (by simp)];omega
   ·rw [mV.eq ha];exact p_ ha
theorem lJ (hO:sr bs n):∀ (d j:Nat),j + d=bs.length→Ev (fun k=>Ya.l0 k (List.replicate j (List.replicate n false)) (j:Int) l0 p v (n:Int) bs) (dm bs n):=by
 have hb:=hO.1.2.1;have hn:=hO.2.1;intro d
 induction d with
 | zero =>
  intro j hj;obtain rfl:j=bs.length:=by omega
  refine Ev.step (fun k=>by rw [Ya.l0]) ?_;exact Ev.neg (by omega) (kJ l0 p v hO _ _ true (Nat.le_refl _) (fR.start bs n) (fun e=>by cases e))
 | succ d ih =>
  intro j hj;have h:=ih (j + 1) (by omega);rw [List.replicate_succ'] at h;refine Ev.step (fun k=>by rw [Ya.l0]) ?_;rw [Int.toNat_natCast,Ke (show j < bs.length by omega) (by omega)];exact Ev.pos (by omega) (Ev.pos (by omega) (Ev.pos (by omega) (Ev.pos (by rw [List.length_replicate];omega) h)))
theorem cJ (hO:sr bs n):Ev (fun k=>Ya.f k l0 p v (n:Int) bs) (dm bs n):=lJ l0 p v hO bs.length 0 (by omega)
end
end Go.Proofs.Ytkigbdceceeenaa.P
end
section
namespace Go.Proofs.Ytkigbdceceeenaa.P
open Go.RowKit Go.Proofs.Sa.Wb Go.Proofs.Sa.je Go.Proofs.Sa.Qf
set_option linter.unusedVariables false
set_option linter.unusedSimpArgs false
section
variable {l0:List Int} {p v s:Int} {l4:List We}
theorem xx (h:Tl l0 p v s l4=true):xy l0 p v s l4.length=true∧(∀ b ∈ l4,Lo l0 s l4 b=true)∧Jd l4 ≤ 1000:=by
 unfold Tl at h;simp only [Bool.and_eq_true,Bool.not_eq_true',List.any_eq_false,decide_eq_true_eq] at h;exact ⟨h.1,fun b hb=>by have:=h.2.1 b hb;simpa using this,h.2.2⟩
theorem MM (l:List We) (b:We) (hb:b ∈ l):b.f0.length ≤ Jd l:=by
 unfold Jd;exact mB (List.mem_map.mpr ⟨b,hb,rfl⟩)
end
end Go.Proofs.Ytkigbdceceeenaa.P
end
section
namespace Go.Proofs.Ytkigbdceceeenaa.P
open Go.RowKit Go.Proofs.Sa.Wb Go.Proofs.Sa.je Go.Proofs.Sa.Qf
set_option linter.unusedVariables false
set_option linter.unusedSimpArgs false
theorem FY {n0 n:Nat} {x:ye} (h:wm n0 (n:Int) x=true):rB n x:=by
 unfold wm Gk at h;unfold rB
 by_cases o0:x.f0=0
 ·rw [gv (by omega) (by omega) (by omega)];simp [o0,Dj] at h ⊢;omega
 by_cases o1:x.f0=1
 ·rw [oo (Or.inl o1)];simp [o1,Dj] at h ⊢;omega
 by_cases o2:x.f0=2
 ·rw [Vx o2];simp [o2,Dj] at h ⊢;omega
 by_cases o3:x.f0=3
 ·by_cases ha:0 ≤ x.f2
  ·rw [UA ha (Or.inl o3) (by omega)];simp [o3,Dj] at h ⊢;omega
  ·rw [SA ha (Or.inl o3) (by omega)];simp [o3,Dj] at h ⊢;omega
 by_cases o4:x.f0=4
 ·by_cases ha:0 ≤ x.f2
  ·rw [VA ha o4];simp [o4,Dj] at h ⊢;omega
  ·rw [TA ha o4];simp [o4,Dj] at h ⊢;omega
 by_cases o5:x.f0=5
 ·rw [gv (by omega) (by omega) (by omega)];simp [o5,Dj] at h ⊢;omega
 by_cases o6:x.f0=6
 ·rw [oo (Or.inr o6)];simp [o6,Dj] at h ⊢;omega
 simp [o0,o1,o2,o3,o4,o5,o6] at h
theorem YQ {n0 n n4:Nat} {b:We} (h:ij n0 (n:Int) n4 b.f0 b.f1 b.f2 b.f3 b.f4=true) (hl:b.f0.length ≤ 1048576):zu n b:=by
 unfold ij at h;simp only [Bool.and_eq_true,Bool.not_eq_true',List.any_eq_false] at h;obtain ⟨⟨h1,_⟩,h2⟩:=h;refine ⟨hl,fun hf=>?_,fun x hx=>FY (n0:=n0) (by have:=h1 x hx;simpa using this)⟩;rw [if_neg hf] at h2
 by_cases h3:b.f1=1
 ·rw [if_pos h3] at h2;simp [Dj] at h2;omega
 ·rw [if_neg h3] at h2
  by_cases h4:b.f1=2
  ·rw [if_pos h4] at h2;simp [Dj] at h2;omega
  ·rw [if_neg h4] at h2;cases h2
theorem ES {l0:List Int} {p v:Int} {n:Nat} {bs:List We} (h:Tl l0 p v (n:Int) bs=true) (ht:Jd bs ≤ 1048576):sr bs n:=by
 obtain ⟨h1,h2,_⟩:=xx h;have hh:=uy h1;exact ⟨pJ h,by omega,fun b hb=>YQ (h2 b hb) (Nat.le_trans (MM bs b hb) ht)⟩
theorem dO (l0:List Int) (p v s:Int) (bs:List We) (b:Int) (h0:l0.length ≤ 1048576) (hl:bs.length ≤ 1048576) (ht:Jd bs ≤ 1048576) :
  ∃ r:List Int,Ev (fun k=>Ub.f k l0 p v s bs b) r∧Ev (fun k=>zd.f k l0 p v s bs b) r∧r.length ≤ 1048576:=by
 have hw:wrap64 ((bs.length:Int) - 1)=(bs.length:Int) - 1:=jm hl
 by_cases hok:Tl l0 p v s bs=true
 ·have hh:=uy (xx hok).1;obtain ⟨n,rfl⟩:∃ n:Nat,s=(n:Int):=⟨s.toNat,by omega⟩;have hO:=ES hok ht
  by_cases hb:Nj b 0 ((bs.length:Int) - 1)=true
  ·have si:=hb;unfold Nj at si;simp only [Bool.and_eq_true,decide_eq_true_eq] at si;obtain ⟨i,rfl⟩:∃ i:Nat,b=(i:Int):=⟨b.toNat,by omega⟩;have hi:i < bs.length:=by omega
   have VI:=Fu hO hi
   have hrw:Ve (dm bs n) i=Nh bs n i:=by
    unfold Ve dm;rw [List.getD_eq_getElem?_getD];simp [hi]
   have hrl:(Nh bs n i).length=n:=Mm bs n i;have sK:(zv (Oa bs (i:Int)) (Nh bs n i)).length=n:=by rw [Wo,hrl]
   refine ⟨Vo (zv (Oa bs (i:Int)) (Nh bs n i)) n,?_,?_,by have:=dy (zv (Oa bs (i:Int)) (Nh bs n i)) n;have:=hO.2.1;omega⟩
   ·unfold Ub.f;refine Ev.val (Ev.bind (Su h0 hl ht) (Ev.pos hok ?_));rw [hw];refine Ev.bind (Ev.here (qB (i:Int) 0 ((bs.length:Int) - 1))) ?_;rw [hb];refine Ev.step (fun k=>by rw [Ub.j0]) ?_;refine Ev.neg (by simp) (Ev.pos (by omega) (Ev.pos (by omega) (Ev.bind (cJ l0 p v hO) (Ev.pos (by rw [Es];omega) ?_))));rw [mD,hrw];refine Ev.bind (yH _ (Nh bs n i) (by rw [hrl];exact VI) (by rw [hrl];exact hO.2.1)) ?_;have h:=YF (zv (Oa bs (i:Int)) (Nh bs n i)) (by rw [sK];exact hO.2.1) l0 p v bs _ 0 (Nat.zero_add _);rw [sK] at h;exact h
   ·unfold zd.f;refine Ev.bind (Ru h0 hl ht) (Ev.pos hok ?_);rw [hw];refine Ev.bind (Ev.here (Av (i:Int) 0 ((bs.length:Int) - 1))) ?_;rw [hb];refine Ev.step (fun k=>by rw [zd.j0]) ?_
    have e1:Mh.f l0 p v (n:Int) bs=some (dm bs n):=by
     unfold Mh.f;rw [if_pos ⟨by omega,by rw [Int.toNat_natCast];exact hO⟩,Int.toNat_natCast]
    refine Ev.neg (by simp) (Ev.bind (Ev.here e1) ?_);have h1:=cO hO hi (dm bs n) (Es bs n) (by rw [hrw];exact hrl) l0 p v (n:Int);rw [hrw] at h1;have h2:=bJ (zv (Oa bs (i:Int)) (Nh bs n i)) (by rw [sK];exact hO.2.1);rw [sK] at h2;exact Ev.bind h1 (Ev.bind h2 (Ev.now _))
  ·refine ⟨[],?_,?_,by simp⟩
   ·unfold Ub.f;refine Ev.val (Ev.bind (Su h0 hl ht) (Ev.pos hok ?_));rw [hw];refine Ev.bind (Ev.here (qB b 0 ((bs.length:Int) - 1))) ?_;rw [Bool.eq_false_iff.2 hb];refine Ev.step (fun k=>by rw [Ub.j0]) ?_;exact Ev.pos rfl (Ev.now _)
   ·unfold zd.f;refine Ev.bind (Ru h0 hl ht) (Ev.pos hok ?_);rw [hw];refine Ev.bind (Ev.here (Av b 0 ((bs.length:Int) - 1))) ?_;rw [Bool.eq_false_iff.2 hb];refine Ev.step (fun k=>by rw [zd.j0]) ?_;exact Ev.pos rfl (Ev.now _)
 ·refine ⟨[],?_,?_,by simp⟩
  ·unfold Ub.f;refine Ev.val (Ev.bind (Su h0 hl ht) (Ev.neg hok ?_));refine Ev.step (fun k=>by rw [Ub.j0]) ?_;exact Ev.pos rfl (Ev.now _)
  ·unfold zd.f;refine Ev.bind (Ru h0 hl ht) (Ev.neg hok ?_);refine Ev.step (fun k=>by rw [zd.j0]) ?_;exact Ev.pos rfl (Ev.now _)
attribute [local go_sem] ei ai Tj Sj Yg Xg di Zh
def Ld.l0:Nat→List Int→Int→Int→Option (Int × List Int)
 | 0,_,_,_=>none
 | k + 1,x0,x1,x5=>if x5 < (x0.length:Int) then (if 0 ≤ x5 then (Ld.l0 k (x0.set (x5:Int).toNat x1) (wrap64 (x1 + 1)) (wrap64 (x5 + 1))) else (none)) else (some (x1,x0))
def Ld.f (k:Nat) (l0:List Int) (a1:Int):Option (Int × List Int):=Ld.l0 k l0 a1 0
theorem Ld.calls (k:Nat) (nj:Nat→Prop) (Ef:Value) (l0:List Int) (a1:Int) (r1:Int) (r2:List Int) (w0 w:World) (hB:Below w0.heap.size w0 w) (ri:Kd.R (Kd.int .i64) 3 w w0.heap.size nj Ef l0) (h:Ld.f k l0 a1=some (r1,r2)) :
  Calls Try.prog 19 #[Ef,.int .i64 a1] w fun e w'=>e = .returned (.int .i64 r1)∧Kd.R (Kd.int .i64) 3 w' w0.heap.size (fun k_=>(nj k_ ∨ w.heap.size ≤ k_)) Ef r2∧Below w0.heap.size w0 w'∧Kept w w' (fun k_=>nj k_):=by
 have aD:=ja.mk (show Kd.R (Kd.int .i64) 3 w w0.heap.size (fun k_=>(nj k_ ∨ w.heap.size ≤ k_)) Ef l0 from Kd.ze ri (fun k_ hk=>(.inl hk)));have HK:=ja.mk (Kept.refl w (fun k_=>nj k_));have HW0:=ja.mk hB.size;have HB:=ja.mk hB;clear hB;have H:(Ld.l0 k l0 a1 0)=some (r1,r2):=h;clear h;have H':=ja.mk H;clear H;go_enter Try.func19,Try.ntmps19;go_wp2
 go_loopg [1,5] k (fun kq v1 v5 w'=>∃ (me:List Int) (Wd:Int) (Ea:Int),v1 = .int .i64 Wd∧v5 = .int .i64 Ea∧ja (Ld.l0 kq me Wd Ea=some (r1,r2))∧ja (kq ≤ k)∧ja (Kd.R (Kd.int .i64) 3 w' w0.heap.size (fun k_=>(nj k_ ∨ w.heap.size ≤ k_)) Ef me)∧ja (Kept w w' (fun k_=>nj k_))∧ja (Below w0.heap.size w0 w'))
 case atStart=>exact ⟨(l0),(a1),(0),(by first|rfl|(simp;done)|(simp [*];done)),(by first|rfl|(simp;done)|(simp [*];done)),H',⟨Nat.le_refl _⟩,⟨by (with_reducible repeat (first|apply Kd.zb|apply Kd.yb|apply Kd.Ib));exact aD.out⟩,⟨by repeat (first|(with_reducible first|exact HK.out|apply Kept.alloc|apply Kept.drewN|apply Kept.drew)|exact HK.out)⟩,⟨by repeat (first|(with_reducible first|exact HB.out|apply qa|apply ia|apply ta)|exact HB.out)⟩⟩
 case round =>
  clear H'
  try clear c1
  try clear p2
  (try clear HA);(try clear qg);(try clear Be);(try clear HK);(try clear HB);obtain ⟨me,Wd,Ea,rfl,rfl,HA,qg,Be,HK,HB⟩:=hrel;cases gk with
  | zero=>exact absurd HA.out (by simp [Ld.l0])
  | succ k1 =>
   have H:=HA.out;clear HA;simp only [Ld.l0] at H
   by_cases c3:Ea < (me.length:Int)
   ·rw [if_pos c3] at H;have Wg:decide (Ea < (me.length:Int))=true:=decide_eq_true c3;clear c3
    by_cases c4:0 ≤ Ea
    ·rw [if_pos c4] at H;have tj:decide (0 ≤ Ea)=true:=decide_eq_true c4;clear c4;obtain ⟨tf,Af⟩:∃ y_:List Int,y_=(me.set (Ea:Int).toNat Wd):=⟨_,rfl⟩;replace H:(Ld.l0 k1 tf (wrap64 (Wd + 1)) (wrap64 (Ea + 1)))=some (r1,r2):=by first|(rw [Af];with_reducible exact H)|(have Gd:=(Option.bind_some _ _).symm.trans H;rw [Af];with_reducible exact Gd)|(have Gd:=(Option.bind_some _ _).symm.trans H;with_reducible exact Gd)|with_reducible exact H|(rw [Af];exact H)|exact H
     have Qj:=ja.mk Af;clear Af;have H':=ja.mk H;clear H;obtain ⟨Ao6,co6,eo6⟩:=Kd.Ud Be.out;subst eo6;have p5:0 ≤ (Ea:Int):=Ua;have q5:(Ea:Int) < ((me.length:Int):Int):=Ua;obtain ⟨Lf,co5,KZ,t_,gl5,cl5,MX⟩:=Kd.Wl Be.out (by omega);(first|cases KZ|(injection KZ with ck xz yz;(first|subst ck|(injection ck with ck;subst ck));subst yz;clear xz));have YV:=ja.mk t_;have GG5:=ja.mk MX;clear t_ gl5 MX;have xab:=ja.mk (show (nj Lf ∨ w.heap.size ≤ Lf) from (Be.out.1 _ rfl));obtain ⟨G4,X7⟩:=Kd.Ej 0 Be.out (Ea:Int) p5 q5;replace p5:=eq_true p5;replace q5:=eq_true q5;have HP7:=Kd.Mo Be.out (Ea:Int) Wd;go_wp2_with (first|((with_reducible refine gf (t:=3) (p:=15) rfl ?_);refine De (t:=3) (p:=15) (v:=?han) (w1:=(wr.setCell ⟨Lf,(Ea:Int).toNat,none⟩ (.int .i64 Wd))) ?hg ?ho ?hn ?hr ?_;(case ho=>rfl);(case hg=>rfl);(case hn=>rfl);(case hr=>first|(go_simp;done)|(go_simp;rfl));intro w8 hw;have hg:wr.grownBy w8 (some Lf):=(by rw [hw];exact HP7.2);have Qm:Kd.R (Kd.int .i64) 3 w8 w0.heap.size (fun k_=>(nj k_ ∨ w.heap.size ≤ k_)) (.slice (some ⟨Lf,0,none⟩) me.length co6) tf:=(by rw [hw,Qj.out];exact HP7.1);clear HP7;have Bb:=ja.mk (Qm);have Gb:=ja.mk ((by rw [hw];exact ua (HB.out) YV.out:Below w0.heap.size w0 w8));have Nb:=ja.mk (Kept.Zg (S:=(fun k_=>nj k_)) hg (by repeat (first|(with_reducible first|exact HK.out|apply Kept.alloc|apply Kept.drewN|apply Kept.drew)|exact HK.out)) (fun k_ e_=>(Be.out.1 k_ e_)));clear Be HB HK;have Be:=Bb;have HB:=Gb;have HK:=Nb;clear Bb Gb Nb hg hw Qm))
     go_roundg k1
     case measure=>have:=qg.out;omega
     case rel=>exact ⟨(tf),(wrap64 (Wd + 1)),(wrap64 (Ea + 1)),(by first|rfl|(simp;done)|(simp [*];done)),(by first|rfl|(simp;done)|(simp [*];done)),H',⟨by have:=qg.out;omega⟩,⟨by (with_reducible repeat (first|apply Kd.zb|apply Kd.yb|apply Kd.Ib));exact Be.out⟩,⟨by repeat (first|(with_reducible first|exact HK.out|apply Kept.alloc|apply Kept.drewN|apply Kept.drew)|exact HK.out)⟩,⟨by repeat (first|(with_reducible first|exact HB.out|apply qa|apply ia|apply ta)|exact HB.out)⟩⟩
    ·rw [if_neg c4] at H;exact absurd H (by simp)
   ·rw [if_neg c3] at H;have Wg:decide (Ea < (me.length:Int))=false:=decide_eq_false c3;clear c3;simp only [Option.some.injEq,Prod.mk.injEq] at H;obtain ⟨rfl,rfl⟩:=H;obtain ⟨Ao9,co9,eo9⟩:=Kd.Ud Be.out;subst eo9;go_wp2;go_ret;exact ⟨by first|rfl|(simp [Na,Ma] <;> rfl)|(simp [*,Na,Ma] <;> rfl),by (with_reducible repeat (first|apply Kd.zb|apply Kd.yb|apply Kd.Ib));exact Be.out,by repeat (first|(with_reducible first|exact HB.out|apply qa|apply ia|apply ta)|exact HB.out),by repeat (first|(with_reducible first|exact HK.out|apply Kept.alloc|apply Kept.drewN|apply Kept.drew)|exact HK.out)⟩
def Vc.l0:Nat→Int→ByteArray→Option (ByteArray)
 | 0,_,_=>none
 | k + 1,x0,x3=>if x0 > 0 then ((some (([(wrap64 (48 + (Int.tmod x0 10))) % 256]:List Int):List Int)).bind fun tf=>(if (strOfNums tf).size + x3.size ≤ 9223372036854775807 then (Vc.l0 k (wrap64 (Int.tdiv x0 10)) ((strOfNums tf) ++ x3)) else (none))) else (if 1 + x3.size ≤ 9223372036854775807 then (some ((⟨#[109]⟩:ByteArray) ++ x3)) else (none))
def Vc.f (k:Nat) (a0:Int):Option (ByteArray):=if a0 ≤ 0 then (some (⟨#[109,48]⟩:ByteArray)) else (Vc.l0 k a0 (⟨#[]⟩:ByteArray))
theorem Vc.calls (k:Nat) (a0:Int) (r:ByteArray) (w:World) (h:Vc.f k a0=some r) :
  Calls Try.prog 106 #[.int .i64 a0] w fun e w'=>e = .returned (.string r)∧Below w.heap.size w w':=by
 have HB:=ja.mk (Below.refl w.heap.size w);have H:(if a0 ≤ 0 then (some (⟨#[109,48]⟩:ByteArray)) else (Vc.l0 k a0 (⟨#[]⟩:ByteArray)))=some r:=h;clear h
 by_cases c2:a0 ≤ 0
 ·rw [if_pos c2] at H;have nu:decide (a0 ≤ 0)=true:=decide_eq_true c2;clear c2;obtain rfl:=Option.some.inj H;go_enter Try.func106,Try.ntmps106;go_wp2;go_ret;exact ⟨by first|rfl|(simp [Na,Ma] <;> rfl)|(simp [*,Na,Ma] <;> rfl),by repeat (first|(with_reducible first|exact HB.out|apply qa|apply ia|apply ta)|exact HB.out)⟩
 ·rw [if_neg c2] at H;have nu:decide (a0 ≤ 0)=false:=decide_eq_false c2;clear c2;have H':=ja.mk H;clear H;go_enter Try.func106,Try.ntmps106;go_wp2
  go_loopg [0,3] k (fun kq v0 v3 w'=>∃ (me:Int) (Od:ByteArray),v0 = .int .i64 me∧v3 = .string Od∧ja (Vc.l0 kq me Od=some r)∧ja (kq ≤ k)∧ja (Below w.heap.size w w'))
  case atStart=>exact ⟨(a0),((⟨#[]⟩:ByteArray)),(by first|rfl|(simp;done)|(simp [*];done)),(by first|rfl|(simp;done)|(simp [*];done)),H',⟨Nat.le_refl _⟩,⟨by repeat (first|(with_reducible first|exact HB.out|apply qa|apply ia|apply ta)|exact HB.out)⟩⟩
  case round =>
   clear H'
   try clear c1
   try clear c2
   try clear nu
   try clear p2
   (try clear HA);(try clear qg);(try clear HB);obtain ⟨me,Od,rfl,rfl,HA,qg,HB⟩:=hrel;cases gk with
   | zero=>exact absurd HA.out (by simp [Vc.l0])
   | succ k1 =>
    have H:=HA.out;clear HA;simp only [Vc.l0] at H
    by_cases c3:me > 0
    ·rw [if_pos c3] at H;have Wg:decide (0 < me)=true:=decide_eq_true c3;clear c3;obtain ⟨tf,Af⟩:∃ y_:List Int,y_=(([(wrap64 (48 + (Int.tmod me 10))) % 256]:List Int)):=⟨_,rfl⟩;replace H:(if (strOfNums tf).size + Od.size ≤ 9223372036854775807 then (Vc.l0 k1 (wrap64 (Int.tdiv me 10)) ((strOfNums tf) ++ Od)) else (none))=some r:=by first|(rw [Af];with_reducible exact H)|(have Gd:=(Option.bind_some _ _).symm.trans H;rw [Af];with_reducible exact Gd)|(have Gd:=(Option.bind_some _ _).symm.trans H;with_reducible exact Gd)|with_reducible exact H|(rw [Af];exact H)|exact H
     have Qj:=ja.mk Af;clear Af
     by_cases c4:(strOfNums tf).size + Od.size ≤ 9223372036854775807
     ·rw [if_pos c4] at H;have tj:=eq_true c4;have rV:decide ((strOfNums tf).size + Od.size ≤ 9223372036854775807)=true:=decide_eq_true c4
      try have vat:(9223372036854775807 < (strOfNums tf).size + Od.size)=False:=eq_false (Nat.not_lt.2 c4)
      have H':=ja.mk H;clear H;go_wp2_with (first|((with_reducible refine xb (N:=12) rfl ?_);refine Kd.ni (Kd.int .u8) _ 5 ?hg (N:=12) ?hd (xs:=([(wrap64 (48 + (Int.tmod me 10))) % 256]:List Int)) (inner:=[.int .u8 ((wrap64 (48 + (Int.tmod me 10))) % 256)]) (ok:=fun _=>True) (Lh:=fun _=>True) ?hr ?hp (fun _ hk=>hk) trivial (Below.refl _ _) (Nat.le_refl _) (by simp) ?_;(case hd=>rfl);(case hg=>rfl);(case hr=>first|(go_simp;done)|(go_simp;rfl));(case hp=>exact (td.one (show Kd.M (Kd.int .u8) _ _ _ ((wrap64 (48 + (Int.tmod me 10))) % 256) [.int .u8 ((wrap64 (48 + (Int.tmod me 10))) % 256)] from rfl) (td.none _ _)));intro IG w5 uB hb om Le;clear om Le;(first|rw [← Qj.out] at uB|(simp only [Int.reduceToNat] at uB;rw [← Qj.out] at uB));have Bb:=ja.mk (Kd.Dd uB (Ka (by repeat (first|(with_reducible first|exact HB.out|apply qa|apply ia|apply ta)|exact HB.out))));have Gb:=ja.mk (Qa (by repeat (first|(with_reducible first|exact HB.out|apply qa|apply ia|apply ta)|exact HB.out)) hb);clear HB;have Wp:=Bb;have HB:=Gb;clear Bb Gb hb uB;have Das:=JI (P:=Try.prog) Try.underlying140 Try.underlying5 Try.underlying9 (Kd.iB Wp.out)))
      go_roundg k1
      case measure=>have:=qg.out;omega
      case rel=>exact ⟨(wrap64 (Int.tdiv me 10)),((strOfNums tf) ++ Od),(by first|rfl|(simp;done)|(simp [*];done)),(by first|rfl|(simp;done)|(simp [*];done)),H',⟨by have:=qg.out;omega⟩,⟨by repeat (first|(with_reducible first|exact HB.out|apply qa|apply ia|apply ta)|exact HB.out)⟩⟩
     ·rw [if_neg c4] at H;exact absurd H (by simp)
    ·rw [if_neg c3] at H;have Wg:decide (0 < me)=false:=decide_eq_false c3;clear c3
     by_cases c8:1 + Od.size ≤ 9223372036854775807
     ·rw [if_pos c8] at H;have Gp:=eq_true c8;have FH:decide (1 + Od.size ≤ 9223372036854775807)=true:=decide_eq_true c8
      try have T_:(9223372036854775807 < 1 + Od.size)=False:=eq_false (Nat.not_lt.2 c8)
      obtain rfl:=Option.some.inj H;go_wp2;go_ret;exact ⟨by first|rfl|(simp [Na,Ma] <;> rfl)|(simp [*,Na,Ma] <;> rfl),by repeat (first|(with_reducible first|exact HB.out|apply qa|apply ia|apply ta)|exact HB.out)⟩
     ·rw [if_neg c8] at H;exact absurd H (by simp)
def Pc.l0:Nat→List (ye)→Int→Int→Option (Int × (List (ye)))
 | 0,_,_,_=>none
 | k + 1,x0,x1,x5=>if x5 < (x0.length:Int) then (if 0 ≤ x5 then ((some (x0.set (x5:Int).toNat (⟨x1,(Ca x0 x5).f1,(Ca x0 x5).f2,(Ca x0 x5).f3,(Ca x0 x5).f4,(Ca x0 x5).f5,(Ca x0 x5).f6⟩:ye):List (ye))).bind fun tf=>((some (tf.set (x5:Int).toNat (⟨(Ca tf x5).f0,wrap64 (x1 + 1),(Ca tf x5).f2,(Ca tf x5).f3,(Ca tf x5).f4,(Ca tf x5).f5,(Ca tf x5).f6⟩:ye):List (ye))).bind fun Uc=>((some (Uc.set (x5:Int).toNat (⟨(Ca Uc x5).f0,(Ca Uc x5).f1,wrap64 ((wrap64 (x1 + 1)) + 1),(Ca Uc x5).f3,(Ca Uc x5).f4,(Ca Uc x5).f5,(Ca Uc x5).f6⟩:ye):List (ye))).bind fun Df=>((some (Df.set (x5:Int).toNat (⟨(Ca Df x5).f0,(Ca Df x5).f1,(Ca Df x5).f2,wrap64 ((wrap64 ((wrap64 (x1 + 1)) + 1)) + 1),(Ca Df x5).f4,(Ca Df x5).f5,(Ca Df x5).f6⟩:ye):List (ye))).bind fun Cf=>((some (Cf.set (x5:Int).toNat (⟨(Ca Cf x5).f0,(Ca Cf x5).f1,(Ca Cf x5).f2,(Ca Cf x5).f3,wrap64 ((wrap64 ((wrap64 ((wrap64 (x1 + 1)) + 1)) + 1)) + 1),(Ca Cf x5).f5,(Ca Cf x5).f6⟩:ye):List (ye))).bind fun xd=>((some (xd.set (x5:Int).toNat (⟨(Ca xd x5).f0,(Ca xd x5).f1,(Ca xd x5).f2,(Ca xd x5).f3,(Ca xd x5).f4,wrap64 ((wrap64 ((wrap64 ((wrap64 ((wrap64 (x1 + 1)) + 1)) + 1)) + 1)) + 1),(Ca xd x5).f6⟩:ye):List (ye))).bind fun Cd=>((Vc.f k (wrap64 ((wrap64 ((wrap64 ((wrap64 ((wrap64 ((wrap64 (x1 + 1)) + 1)) + 1)) + 1)) + 1)) + 1))).bind fun t107=>(Pc.l0 k (Cd.set (x5:Int).toNat (⟨(Ca Cd x5).f0,(Ca Cd x5).f1,(Ca Cd x5).f2,(Ca Cd x5).f3,(Ca Cd x5).f4,(Ca Cd x5).f5,t107⟩:ye)) (wrap64 ((wrap64 ((wrap64 ((wrap64 ((wrap64 ((wrap64 ((wrap64 (x1 + 1)) + 1)) + 1)) + 1)) + 1)) + 1)) + 1)) (wrap64 (x5 + 1)))))))))) else (none)) else (some (x1,x0))
def Pc.f (k:Nat) (l0:List (ye)) (a1:Int):Option (Int × (List (ye))):=Pc.l0 k l0 a1 0
theorem Pc.calls (k:Nat) (nj:Nat→Prop) (Ef:Value) (l0:List (ye)) (a1:Int) (r1:Int) (r2:List (ye)) (w0 w:World) (hB:Below w0.heap.size w0 w) (ri:Kd.R Gi 65 w w0.heap.size nj Ef l0) (h:Pc.f k l0 a1=some (r1,r2)) :
  Calls Try.prog 83 #[Ef,.int .i64 a1] w fun e w'=>e = .returned (.int .i64 r1)∧Kd.R Gi 65 w' w0.heap.size (fun k_=>(nj k_ ∨ w.heap.size ≤ k_)) Ef r2∧Below w0.heap.size w0 w'∧Kept w w' (fun k_=>nj k_):=by
 have aD:=ja.mk (show Kd.R Gi 65 w w0.heap.size (fun k_=>(nj k_ ∨ w.heap.size ≤ k_)) Ef l0 from Kd.ze ri (fun k_ hk=>(.inl hk)));have HK:=ja.mk (Kept.refl w (fun k_=>nj k_));have HW0:=ja.mk hB.size;have HB:=ja.mk hB;clear hB;have H:(Pc.l0 k l0 a1 0)=some (r1,r2):=h;clear h;have H':=ja.mk H;clear H;go_enter Try.func83,Try.ntmps83;go_wp2
 go_loopg [1,5] k (fun kq v1 v5 w'=>∃ (me:List (ye)) (Wd:Int) (Ea:Int),v1 = .int .i64 Wd∧v5 = .int .i64 Ea∧ja (Pc.l0 kq me Wd Ea=some (r1,r2))∧ja (kq ≤ k)∧ja (Kd.R Gi 65 w' w0.heap.size (fun k_=>(nj k_ ∨ w.heap.size ≤ k_)) Ef me)∧ja (Kept w w' (fun k_=>nj k_))∧ja (Below w0.heap.size w0 w'))
 case atStart=>exact ⟨(l0),(a1),(0),(by first|rfl|(simp;done)|(simp [*];done)),(by first|rfl|(simp;done)|(simp [*];done)),H',⟨Nat.le_refl _⟩,⟨by (with_reducible repeat (first|apply Kd.zb|apply Kd.yb|apply Kd.Ib));exact aD.out⟩,⟨by repeat (first|(with_reducible first|exact HK.out|apply Kept.alloc|apply Kept.drewN|apply Kept.drew)|exact HK.out)⟩,⟨by repeat (first|(with_reducible first|exact HB.out|apply qa|apply ia|apply ta)|exact HB.out)⟩⟩
 case round =>
  clear H'
  try clear p2
  (try clear HA);(try clear qg);(try clear Be);(try clear HK);(try clear HB);obtain ⟨me,Wd,Ea,rfl,rfl,HA,qg,Be,HK,HB⟩:=hrel;cases gk with
  | zero=>exact absurd HA.out (by simp [Pc.l0])
  | succ k1 =>
   have H:=HA.out;clear HA;simp only [Pc.l0] at H
   by_cases c3:Ea < (me.length:Int)
   ·rw [if_pos c3] at H;have Wg:decide (Ea < (me.length:Int))=true:=decide_eq_true c3;clear c3
    by_cases c4:0 ≤ Ea
    ·rw [if_pos c4] at H;have tj:decide (0 ≤ Ea)=true:=decide_eq_true c4;clear c4;obtain ⟨tf,Af⟩:∃ y_:List (ye),y_=(me.set (Ea:Int).toNat (⟨Wd,(Ca me Ea).f1,(Ca me Ea).f2,(Ca me Ea).f3,(Ca me Ea).f4,(Ca me Ea).f5,(Ca me Ea).f6⟩:ye)):=⟨_,rfl⟩;replace H:((some (tf.set (Ea:Int).toNat (⟨(Ca tf Ea).f0,wrap64 (Wd + 1),(Ca tf Ea).f2,(Ca tf Ea).f3,(Ca tf Ea).f4,(Ca tf Ea).f5,(Ca tf Ea).f6⟩:ye):List (ye))).bind fun Uc=>((some (Uc.set (Ea:Int).toNat (⟨(Ca Uc Ea).f0,(Ca Uc Ea).f1,wrap64 ((wrap64 (Wd + 1)) + 1),(Ca Uc Ea).f3,(Ca Uc Ea).f4,(Ca Uc Ea).f5,(Ca Uc Ea).f6⟩:ye):List (ye))).bind fun Df=>((some (Df.set (Ea:Int).toNat (⟨(Ca Df Ea).f0,(Ca Df Ea).f1,(Ca Df Ea).f2,wrap64 ((wrap64 ((wrap64 (Wd + 1)) + 1)) + 1),(Ca Df Ea).f4,(Ca Df Ea).f5,(Ca Df Ea).f6⟩:ye):List (ye))).bind fun Cf=>((some (Cf.set (Ea:Int).toNat (⟨(Ca Cf Ea).f0,(Ca Cf Ea).f1,(Ca Cf Ea).f2,(Ca Cf Ea).f3,wrap64 ((wrap64 ((wrap64 ((wrap64 (Wd + 1)) + 1)) + 1)) + 1),(Ca Cf Ea).f5,(Ca Cf Ea).f6⟩:ye):List (ye))).bind fun xd=>((some (xd.set (Ea:Int).toNat (⟨(Ca xd Ea).f0,(Ca xd Ea).f1,(Ca xd Ea).f2,(Ca xd Ea).f3,(Ca xd Ea).f4,wrap64 ((wrap64 ((wrap64 ((wrap64 ((wrap64 (Wd + 1)) + 1)) + 1)) + 1)) + 1),(Ca xd Ea).f6⟩:ye):List (ye))).bind fun Cd=>((Vc.f k1 (wrap64 ((wrap64 ((wrap64 ((wrap64 ((wrap64 ((wrap64 (Wd + 1)) + 1)) + 1)) + 1)) + 1)) + 1))).bind fun t107=>(Pc.l0 k1 (Cd.set (Ea:Int).toNat (⟨(Ca Cd Ea).f0,(Ca Cd Ea).f1,(Ca Cd Ea).f2,(Ca Cd Ea).f3,(Ca Cd Ea).f4,(Ca Cd Ea).f5,t107⟩:ye)) (wrap64 ((wrap64 ((wrap64 ((wrap64 ((wrap64 ((wrap64 ((wrap64 (Wd + 1)) + 1)) + 1)) + 1)) + 1)) + 1)) + 1)) (wrap64 (Ea + 1)))))))))=some (r1,r2):=by first|(rw [Af];with_reducible exact H)|(have Gd:=(Option.bind_some _ _).symm.trans H;rw [Af];with_reducible exact Gd)|(have Gd:=(Option.bind_some _ _).symm.trans H;with_reducible exact Gd)|with_reducible exact H|(rw [Af];exact H)|exact H
     have Qj:=ja.mk Af;clear Af;obtain ⟨Uc,Re⟩:∃ y_:List (ye),y_=(tf.set (Ea:Int).toNat (⟨(Ca tf Ea).f0,wrap64 (Wd + 1),(Ca tf Ea).f2,(Ca tf Ea).f3,(Ca tf Ea).f4,(Ca tf Ea).f5,(Ca tf Ea).f6⟩:ye)):=⟨_,rfl⟩;replace H:((some (Uc.set (Ea:Int).toNat (⟨(Ca Uc Ea).f0,(Ca Uc Ea).f1,wrap64 ((wrap64 (Wd + 1)) + 1),(Ca Uc Ea).f3,(Ca Uc Ea).f4,(Ca Uc Ea).f5,(Ca Uc Ea).f6⟩:ye):List (ye))).bind fun Df=>((some (Df.set (Ea:Int).toNat (⟨(Ca Df Ea).f0,(Ca Df Ea).f1,(Ca Df Ea).f2,wrap64 ((wrap64 ((wrap64 (Wd + 1)) + 1)) + 1),(Ca Df Ea).f4,(Ca Df Ea).f5,(Ca Df Ea).f6⟩:ye):List (ye))).bind fun Cf=>((some (Cf.set (Ea:Int).toNat (⟨(Ca Cf Ea).f0,(Ca Cf Ea).f1,(Ca Cf Ea).f2,(Ca Cf Ea).f3,wrap64 ((wrap64 ((wrap64 ((wrap64 (Wd + 1)) + 1)) + 1)) + 1),(Ca Cf Ea).f5,(Ca Cf Ea).f6⟩:ye):List (ye))).bind fun xd=>((some (xd.set (Ea:Int).toNat (⟨(Ca xd Ea).f0,(Ca xd Ea).f1,(Ca xd Ea).f2,(Ca xd Ea).f3,(Ca xd Ea).f4,wrap64 ((wrap64 ((wrap64 ((wrap64 ((wrap64 (Wd + 1)) + 1)) + 1)) + 1)) + 1),(Ca xd Ea).f6⟩:ye):List (ye))).bind fun Cd=>((Vc.f k1 (wrap64 ((wrap64 ((wrap64 ((wrap64 ((wrap64 ((wrap64 (Wd + 1)) + 1)) + 1)) + 1)) + 1)) + 1))).bind fun t107=>(Pc.l0 k1 (Cd.set (Ea:Int).toNat (⟨(Ca Cd Ea).f0,(Ca Cd Ea).f1,(Ca Cd Ea).f2,(Ca Cd Ea).f3,(Ca Cd Ea).f4,(Ca Cd Ea).f5,t107⟩:ye)) (wrap64 ((wrap64 ((wrap64 ((wrap64 ((wrap64 ((wrap64 ((wrap64 (Wd + 1)) + 1)) + 1)) + 1)) + 1)) + 1)) + 1)) (wrap64 (Ea + 1))))))))=some (r1,r2):=by first|(rw [Re];with_reducible exact H)|(have Gd:=(Option.bind_some _ _).symm.trans H;rw [Re];with_reducible exact Gd)|(have Gd:=(Option.bind_some _ _).symm.trans H;with_reducible exact Gd)|with_reducible exact H|(rw [Re];exact H)|exact H
     have yh:=ja.mk Re;clear Re;obtain ⟨Df,Pm⟩:∃ y_:List (ye),y_=(Uc.set (Ea:Int).toNat (⟨(Ca Uc Ea).f0,(Ca Uc Ea).f1,wrap64 ((wrap64 (Wd + 1)) + 1),(Ca Uc Ea).f3,(Ca Uc Ea).f4,(Ca Uc Ea).f5,(Ca Uc Ea).f6⟩:ye)):=⟨_,rfl⟩;replace H:((some (Df.set (Ea:Int).toNat (⟨(Ca Df Ea).f0,(Ca Df Ea).f1,(Ca Df Ea).f2,wrap64 ((wrap64 ((wrap64 (Wd + 1)) + 1)) + 1),(Ca Df Ea).f4,(Ca Df Ea).f5,(Ca Df Ea).f6⟩:ye):List (ye))).bind fun Cf=>((some (Cf.set (Ea:Int).toNat (⟨(Ca Cf Ea).f0,(Ca Cf Ea).f1,(Ca Cf Ea).f2,(Ca Cf Ea).f3,wrap64 ((wrap64 ((wrap64 ((wrap64 (Wd + 1)) + 1)) + 1)) + 1),(Ca Cf Ea).f5,(Ca Cf Ea).f6⟩:ye):List (ye))).bind fun xd=>((some (xd.set (Ea:Int).toNat (⟨(Ca xd Ea).f0,(Ca xd Ea).f1,(Ca xd Ea).f2,(Ca xd Ea).f3,(Ca xd Ea).f4,wrap64 ((wrap64 ((wrap64 ((wrap64 ((wrap64 (Wd + 1)) + 1)) + 1)) + 1)) + 1),(Ca xd Ea).f6⟩:ye):List (ye))).bind fun Cd=>((Vc.f k1 (wrap64 ((wrap64 ((wrap64 ((wrap64 ((wrap64 ((wrap64 (Wd + 1)) + 1)) + 1)) + 1)) + 1)) + 1))).bind fun t107=>(Pc.l0 k1 (Cd.set (Ea:Int).toNat (⟨(Ca Cd Ea).f0,(Ca Cd Ea).f1,(Ca Cd Ea).f2,(Ca Cd Ea).f3,(Ca Cd Ea).f4,(Ca Cd Ea).f5,t107⟩:ye)) (wrap64 ((wrap64 ((wrap64 ((wrap64 ((wrap64 ((wrap64 ((wrap64 (Wd + 1)) + 1)) + 1)) + 1)) + 1)) + 1)) + 1)) (wrap64 (Ea + 1)))))))=some (r1,r2):=by first|(rw [Pm];with_reducible exact H)|(have Gd:=(Option.bind_some _ _).symm.trans H;rw [Pm];with_reducible exact Gd)|(have Gd:=(Option.bind_some _ _).symm.trans H;with_reducible exact Gd)|with_reducible exact H|(rw [Pm];exact H)|exact H
     have UH:=ja.mk Pm;clear Pm;obtain ⟨Cf,aH⟩:∃ y_:List (ye),y_=(Df.set (Ea:Int).toNat (⟨(Ca Df Ea).f0,(Ca Df Ea).f1,(Ca Df Ea).f2,wrap64 ((wrap64 ((wrap64 (Wd + 1)) + 1)) + 1),(Ca Df Ea).f4,(Ca Df Ea).f5,(Ca Df Ea).f6⟩:ye)):=⟨_,rfl⟩;replace H:((some (Cf.set (Ea:Int).toNat (⟨(Ca Cf Ea).f0,(Ca Cf Ea).f1,(Ca Cf Ea).f2,(Ca Cf Ea).f3,wrap64 ((wrap64 ((wrap64 ((wrap64 (Wd + 1)) + 1)) + 1)) + 1),(Ca Cf Ea).f5,(Ca Cf Ea).f6⟩:ye):List (ye))).bind fun xd=>((some (xd.set (Ea:Int).toNat (⟨(Ca xd Ea).f0,(Ca xd Ea).f1,(Ca xd Ea).f2,(Ca xd Ea).f3,(Ca xd Ea).f4,wrap64 ((wrap64 ((wrap64 ((wrap64 ((wrap64 (Wd + 1)) + 1)) + 1)) + 1)) + 1),(Ca xd Ea).f6⟩:ye):List (ye))).bind fun Cd=>((Vc.f k1 (wrap64 ((wrap64 ((wrap64 ((wrap64 ((wrap64 ((wrap64 (Wd + 1)) + 1)) + 1)) + 1)) + 1)) + 1))).bind fun t107=>(Pc.l0 k1 (Cd.set (Ea:Int).toNat (⟨(Ca Cd Ea).f0,(Ca Cd Ea).f1,(Ca Cd Ea).f2,(Ca Cd Ea).f3,(Ca Cd Ea).f4,(Ca Cd Ea).f5,t107⟩:ye)) (wrap64 ((wrap64 ((wrap64 ((wrap64 ((wrap64 ((wrap64 ((wrap64 (Wd + 1)) + 1)) + 1)) + 1)) + 1)) + 1)) + 1)) (wrap64 (Ea + 1))))))=some (r1,r2):=by first|(rw [aH];with_reducible exact H)|(have Gd:=(Option.bind_some _ _).symm.trans H;rw [aH];with_reducible exact Gd)|(have Gd:=(Option.bind_some _ _).symm.trans H;with_reducible exact Gd)|with_reducible exact H|(rw [aH];exact H)|exact H
     have Iaa:=ja.mk aH;clear aH;obtain ⟨xd,Qe⟩:∃ y_:List (ye),y_=(Cf.set (Ea:Int).toNat (⟨(Ca Cf Ea).f0,(Ca Cf Ea).f1,(Ca Cf Ea).f2,(Ca Cf Ea).f3,wrap64 ((wrap64 ((wrap64 ((wrap64 (Wd + 1)) + 1)) + 1)) + 1),(Ca Cf Ea).f5,(Ca Cf Ea).f6⟩:ye)):=⟨_,rfl⟩;replace H:((some (xd.set (Ea:Int).toNat (⟨(Ca xd Ea).f0,(Ca xd Ea).f1,(Ca xd Ea).f2,(Ca xd Ea).f3,(Ca xd Ea).f4,wrap64 ((wrap64 ((wrap64 ((wrap64 ((wrap64 (Wd + 1)) + 1)) + 1)) + 1)) + 1),(Ca xd Ea).f6⟩:ye):List (ye))).bind fun Cd=>((Vc.f k1 (wrap64 ((wrap64 ((wrap64 ((wrap64 ((wrap64 ((wrap64 (Wd + 1)) + 1)) + 1)) + 1)) + 1)) + 1))).bind fun t107=>(Pc.l0 k1 (Cd.set (Ea:Int).toNat (⟨(Ca Cd Ea).f0,(Ca Cd Ea).f1,(Ca Cd Ea).f2,(Ca Cd Ea).f3,(Ca Cd Ea).f4,(Ca Cd Ea).f5,t107⟩:ye)) (wrap64 ((wrap64 ((wrap64 ((wrap64 ((wrap64 ((wrap64 ((wrap64 (Wd + 1)) + 1)) + 1)) + 1)) + 1)) + 1)) + 1)) (wrap64 (Ea + 1)))))=some (r1,r2):=by first|(rw [Qe];with_reducible exact H)|(have Gd:=(Option.bind_some _ _).symm.trans H;rw [Qe];with_reducible exact Gd)|(have Gd:=(Option.bind_some _ _).symm.trans H;with_reducible exact Gd)|with_reducible exact H|(rw [Qe];exact H)|exact H
     have Hj:=ja.mk Qe;clear Qe;obtain ⟨Cd,Mr⟩:∃ y_:List (ye),y_=(xd.set (Ea:Int).toNat (⟨(Ca xd Ea).f0,(Ca xd Ea).f1,(Ca xd Ea).f2,(Ca xd Ea).f3,(Ca xd Ea).f4,wrap64 ((wrap64 ((wrap64 ((wrap64 ((wrap64 (Wd + 1)) + 1)) + 1)) + 1)) + 1),(Ca xd Ea).f6⟩:ye)):=⟨_,rfl⟩;replace H:((Vc.f k1 (wrap64 ((wrap64 ((wrap64 ((wrap64 ((wrap64 ((wrap64 (Wd + 1)) + 1)) + 1)) + 1)) + 1)) + 1))).bind fun t107=>(Pc.l0 k1 (Cd.set (Ea:Int).toNat (⟨(Ca Cd Ea).f0,(Ca Cd Ea).f1,(Ca Cd Ea).f2,(Ca Cd Ea).f3,(Ca Cd Ea).f4,(Ca Cd Ea).f5,t107⟩:ye)) (wrap64 ((wrap64 ((wrap64 ((wrap64 ((wrap64 ((wrap64 ((wrap64 (Wd + 1)) + 1)) + 1)) + 1)) + 1)) + 1)) + 1)) (wrap64 (Ea + 1))))=some (r1,r2):=by first|(rw [Mr];with_reducible exact H)|(have Gd:=(Option.bind_some _ _).symm.trans H;rw [Mr];with_reducible exact Gd)|(have Gd:=(Option.bind_some _ _).symm.trans H;with_reducible exact Gd)|with_reducible exact H|(rw [Mr];exact H)|exact H
     have cN:=ja.mk Mr;clear Mr;replace H:=Option.bind_eq_some_iff.mp H;obtain ⟨t107,fI,H⟩:=H;replace H:(Pc.l0 k1 (Cd.set (Ea:Int).toNat (⟨(Ca Cd Ea).f0,(Ca Cd Ea).f1,(Ca Cd Ea).f2,(Ca Cd Ea).f3,(Ca Cd Ea).f4,(Ca Cd Ea).f5,t107⟩:ye)) (wrap64 ((wrap64 ((wrap64 ((wrap64 ((wrap64 ((wrap64 ((wrap64 (Wd + 1)) + 1)) + 1)) + 1)) + 1)) + 1)) + 1)) (wrap64 (Ea + 1)))=some (r1,r2):=H;have cS:=ja.mk fI;clear fI;obtain ⟨cg,Pe⟩:∃ y_:List (ye),y_=(Cd.set (Ea:Int).toNat (⟨(Ca Cd Ea).f0,(Ca Cd Ea).f1,(Ca Cd Ea).f2,(Ca Cd Ea).f3,(Ca Cd Ea).f4,(Ca Cd Ea).f5,t107⟩:ye)):=⟨_,rfl⟩;replace H:(Pc.l0 k1 cg (wrap64 ((wrap64 ((wrap64 ((wrap64 ((wrap64 ((wrap64 ((wrap64 (Wd + 1)) + 1)) + 1)) + 1)) + 1)) + 1)) + 1)) (wrap64 (Ea + 1)))=some (r1,r2):=by first|(rw [Pe];with_reducible exact H)|(have Gd:=(Option.bind_some _ _).symm.trans H;rw [Pe];with_reducible exact Gd)|(have Gd:=(Option.bind_some _ _).symm.trans H;with_reducible exact Gd)|with_reducible exact H|(rw [Pe];exact H)|exact H
     have Jh:=ja.mk Pe;clear Pe;have H':=ja.mk H;clear H;obtain ⟨MJ,Fp,GQ⟩:=Kd.Ud Be.out;subst GQ;have p5:0 ≤ (Ea:Int):=Ua;have q5:(Ea:Int) < ((me.length:Int):Int):=Ua;obtain ⟨Lf,co5,KZ,t_,gl5,cl5,MX⟩:=Kd.Wl Be.out (by omega);(first|cases KZ|(injection KZ with ck xz yz;(first|subst ck|(injection ck with ck;subst ck));subst yz;clear xz));have YV:=ja.mk t_;have GG5:=ja.mk MX;clear t_ gl5 MX;have xab:=ja.mk (show (nj Lf ∨ w.heap.size ≤ Lf) from (Be.out.1 _ rfl));obtain ⟨ce5,jal,hM5,nH,gH⟩:=Kd.Ci Be.out Xr (Ea:Int) p5 q5;obtain rfl:=mg hM5;have G4:wr.cell? ⟨Lf,(Ea:Int).toNat * 7,none⟩=some (.int .i64 ((Ca me Ea).f0)):=nH 0 _ rfl;have dao:wr.cell? ⟨Lf,(Ea:Int).toNat * 7 + 1,none⟩=some (.int .i64 ((Ca me Ea).f1)):=nH 1 _ rfl;have cao:wr.cell? ⟨Lf,(Ea:Int).toNat * 7 + 2,none⟩=some (.int .i64 ((Ca me Ea).f2)):=nH 2 _ rfl;have bao:wr.cell? ⟨Lf,(Ea:Int).toNat * 7 + 3,none⟩=some (.int .i64 ((Ca me Ea).f3)):=nH 3 _ rfl;have aao:wr.cell? ⟨Lf,(Ea:Int).toNat * 7 + 4,none⟩=some (.int .i64 ((Ca me Ea).f4)):=nH 4 _ rfl;have Zan:wr.cell? ⟨Lf,(Ea:Int).toNat * 7 + 5,none⟩=some (.int .i64 ((Ca me Ea).f5)):=nH 5 _ rfl;have Yan:wr.cell? ⟨Lf,(Ea:Int).toNat * 7 + 6,none⟩=some (.string ((Ca me Ea).f6)):=nH 6 _ rfl;have X7:wr.frozen? ⟨Lf,(Ea:Int).toNat * 7,none⟩=false:=gH 0;have saq:wr.frozen? ⟨Lf,(Ea:Int).toNat * 7 + 1,none⟩=false:=gH 1;have raq:wr.frozen? ⟨Lf,(Ea:Int).toNat * 7 + 2,none⟩=false:=gH 2;have qaq:wr.frozen? ⟨Lf,(Ea:Int).toNat * 7 + 3,none⟩=false:=gH 3;have paq:wr.frozen? ⟨Lf,(Ea:Int).toNat * 7 + 4,none⟩=false:=gH 4;have oaq:wr.frozen? ⟨Lf,(Ea:Int).toNat * 7 + 5,none⟩=false:=gH 5;have naq:wr.frozen? ⟨Lf,(Ea:Int).toNat * 7 + 6,none⟩=false:=gH 6;clear jal nH gH hM5;replace p5:=eq_true p5;replace q5:=eq_true q5;have cab:=ja.mk (show Kd.R Gi 65 wr w0.heap.size (fun k_=>(nj k_ ∨ w.heap.size ≤ k_)) (.slice (some ⟨Lf,0,none⟩) me.length Fp) me from (by (with_reducible repeat (first|apply Kd.zb|apply Kd.yb|apply Kd.Ib));exact Be.out));obtain ⟨tat,JW,l_,oQ,AW⟩:=Kd.Ci cab.out Xr (Ea:Int) (Ua) (by have h_:(Ea:Int) < ((me.length:Int):Int):=Ua;first|exact h_|(have e_:=(Kd.dc Be.out).1;omega)|simpa using h_);obtain rfl:=mg l_;have C2:=Kd.Fx cab.out (Ea:Int) (Ua) (by have h_:(Ea:Int) < ((me.length:Int):Int):=Ua;first|exact h_|(have e_:=(Kd.dc Be.out).1;omega)|simpa using h_) (seg:=[.int .i64 Wd]) (j:=0) JW oQ (show 1 ≤ 7 from by decide) (x':=(⟨Wd,(Ca me Ea).f1,(Ca me Ea).f2,(Ca me Ea).f3,(Ca me Ea).f4,(Ca me Ea).f5,(Ca me Ea).f6⟩:ye)) (qn _ _ _ (⟨Wd,(Ca me Ea).f1,(Ca me Ea).f2,(Ca me Ea).f3,(Ca me Ea).f4,(Ca me Ea).f5,(Ca me Ea).f6⟩:ye) ) (fun _ hk=>hk);have MY:=oQ 0 _ rfl;(try simp only [show (Gi).sz=7 from rfl,Nat.mul_one,Nat.add_zero] at MY);have jZ:=AW 0;(try simp only [show (Gi).sz=7 from rfl,Nat.mul_one,Nat.add_zero] at jZ);clear JW oQ AW l_;go_wp2_with (first|((with_reducible refine gf (t:=3) (p:=16) rfl ?_);refine De (t:=3) (p:=16) (v:=?yaj) (w1:=(wr.setCell ⟨Lf,(Ea:Int).toNat * 7,none⟩ (.int .i64 Wd))) ?hg ?ho ?hn ?hr ?_;(case ho=>rfl);(case hg=>rfl);(case hn=>rfl);(case hr=>first|(go_simp;done)|(go_simp;rfl));intro Xp hw;have hg:wr.grownBy Xp (some Lf):=(by rw [hw];exact C2.2);have Qm:Kd.R Gi 65 Xp w0.heap.size (fun k_=>(nj k_ ∨ w.heap.size ≤ k_)) (.slice (some ⟨Lf,0,none⟩) me.length Fp) tf:=(by rw [hw,Qj.out];exact C2.1);clear C2;have Bb:=ja.mk (Qm);have Gb:=ja.mk ((by rw [hw];exact ua (HB.out) YV.out:Below w0.heap.size w0 Xp));have Nb:=ja.mk (Kept.Zg (S:=(fun k_=>nj k_)) hg (by repeat (first|(with_reducible first|exact HK.out|apply Kept.alloc|apply Kept.drewN|apply Kept.drew)|exact HK.out)) (fun k_ e_=>(Be.out.1 k_ e_)));clear Be HB HK;have Be:=Bb;have HB:=Gb;have HK:=Nb;clear Bb Gb Nb hg hw Qm;have p6:0 ≤ (Ea:Int):=Ua;have q6:(Ea:Int) < ((me.length:Int):Int):=Ua;obtain ⟨ce6,ial,hM6,mH,fH⟩:=Kd.Ci Be.out Xr (Ea:Int) p6 q6;obtain rfl:=mg hM6;have Xan:Xp.cell? ⟨Lf,(Ea:Int).toNat * 7,none⟩=some (.int .i64 ((Ca tf Ea).f0)):=mH 0 _ rfl;have Wan:Xp.cell? ⟨Lf,(Ea:Int).toNat * 7 + 1,none⟩=some (.int .i64 ((Ca tf Ea).f1)):=mH 1 _ rfl;have Van:Xp.cell? ⟨Lf,(Ea:Int).toNat * 7 + 2,none⟩=some (.int .i64 ((Ca tf Ea).f2)):=mH 2 _ rfl;have Uan:Xp.cell? ⟨Lf,(Ea:Int).toNat * 7 + 3,none⟩=some (.int .i64 ((Ca tf Ea).f3)):=mH 3 _ rfl;have Tan:Xp.cell? ⟨Lf,(Ea:Int).toNat * 7 + 4,none⟩=some (.int .i64 ((Ca tf Ea).f4)):=mH 4 _ rfl;have San:Xp.cell? ⟨Lf,(Ea:Int).toNat * 7 + 5,none⟩=some (.int .i64 ((Ca tf Ea).f5)):=mH 5 _ rfl;have Ran:Xp.cell? ⟨Lf,(Ea:Int).toNat * 7 + 6,none⟩=some (.string ((Ca tf Ea).f6)):=mH 6 _ rfl;have maq:Xp.frozen? ⟨Lf,(Ea:Int).toNat * 7,none⟩=false:=fH 0;have laq:Xp.frozen? ⟨Lf,(Ea:Int).toNat * 7 + 1,none⟩=false:=fH 1;have kaq:Xp.frozen? ⟨Lf,(Ea:Int).toNat * 7 + 2,none⟩=false:=fH 2;have jaq:Xp.frozen? ⟨Lf,(Ea:Int).toNat * 7 + 3,none⟩=false:=fH 3;have iaq:Xp.frozen? ⟨Lf,(Ea:Int).toNat * 7 + 4,none⟩=false:=fH 4;have haq:Xp.frozen? ⟨Lf,(Ea:Int).toNat * 7 + 5,none⟩=false:=fH 5;have gaq:Xp.frozen? ⟨Lf,(Ea:Int).toNat * 7 + 6,none⟩=false:=fH 6;clear ial mH fH hM6;replace p6:=eq_true p6;replace q6:=eq_true q6;have bab:=ja.mk (show Kd.R Gi 65 Xp w0.heap.size (fun k_=>(nj k_ ∨ w.heap.size ≤ k_)) (.slice (some ⟨Lf,0,none⟩) me.length Fp) tf from (by (with_reducible repeat (first|apply Kd.zb|apply Kd.yb|apply Kd.Ib));exact Be.out));obtain ⟨qat,IW,j_,nQ,zW⟩:=Kd.Ci bab.out Xr (Ea:Int) (Ua) (by have h_:(Ea:Int) < ((me.length:Int):Int):=Ua;first|exact h_|(have e_:=(Kd.dc Be.out).1;omega)|simpa using h_);obtain rfl:=mg j_;have B2:=Kd.Fx bab.out (Ea:Int) (Ua) (by have h_:(Ea:Int) < ((me.length:Int):Int):=Ua;first|exact h_|(have e_:=(Kd.dc Be.out).1;omega)|simpa using h_) (seg:=[.int .i64 (wrap64 (Wd + 1))]) (j:=1) IW nQ (show 2 ≤ 7 from by decide) (x':=(⟨(Ca tf Ea).f0,wrap64 (Wd + 1),(Ca tf Ea).f2,(Ca tf Ea).f3,(Ca tf Ea).f4,(Ca tf Ea).f5,(Ca tf Ea).f6⟩:ye)) (qn _ _ _ (⟨(Ca tf Ea).f0,wrap64 (Wd + 1),(Ca tf Ea).f2,(Ca tf Ea).f3,(Ca tf Ea).f4,(Ca tf Ea).f5,(Ca tf Ea).f6⟩:ye) ) (fun _ hk=>hk);have LY:=nQ 1 _ rfl;(try simp only [show (Gi).sz=7 from rfl,Nat.mul_one,Nat.add_zero] at LY);have iZ:=zW 1;(try simp only [show (Gi).sz=7 from rfl,Nat.mul_one,Nat.add_zero] at iZ);clear IW nQ zW j_)|((with_reducible refine gf (t:=3) (p:=23) rfl ?_);refine De (t:=3) (p:=23) (v:=?xaj) (w1:=(Xp.setCell ⟨Lf,(Ea:Int).toNat * 7 + 1,none⟩ (.int .i64 (wrap64 (Wd + 1))))) ?hg ?ho ?hn ?hr ?_;(case ho=>rfl);(case hg=>rfl);(case hn=>rfl);(case hr=>first|(go_simp;done)|(go_simp;rfl));intro kr hw;have hg:Xp.grownBy kr (some Lf):=(by rw [hw];exact B2.2);have Qm:Kd.R Gi 65 kr w0.heap.size (fun k_=>(nj k_ ∨ w.heap.size ≤ k_)) (.slice (some ⟨Lf,0,none⟩) me.length Fp) Uc:=(by rw [hw,yh.out];exact B2.1);clear B2;have Bb:=ja.mk (Qm);have Gb:=ja.mk ((by rw [hw];exact ua (HB.out) YV.out:Below w0.heap.size w0 kr));have Nb:=ja.mk (Kept.Zg (S:=(fun k_=>nj k_)) hg (by repeat (first|(with_reducible first|exact HK.out|apply Kept.alloc|apply Kept.drewN|apply Kept.drew)|exact HK.out)) (fun k_ e_=>(Be.out.1 k_ e_)));clear Be HB HK;have Be:=Bb;have HB:=Gb;have HK:=Nb;clear Bb Gb Nb hg hw Qm;have p7:0 ≤ (Ea:Int):=Ua;have q7:(Ea:Int) < ((me.length:Int):Int):=Ua;obtain ⟨ce7,hal,hM7,lH,eH⟩:=Kd.Ci Be.out Xr (Ea:Int) p7 q7;obtain rfl:=mg hM7;have Qan:kr.cell? ⟨Lf,(Ea:Int).toNat * 7,none⟩=some (.int .i64 ((Ca Uc Ea).f0)):=lH 0 _ rfl;have Pan:kr.cell? ⟨Lf,(Ea:Int).toNat * 7 + 1,none⟩=some (.int .i64 ((Ca Uc Ea).f1)):=lH 1 _ rfl;have Oan:kr.cell? ⟨Lf,(Ea:Int).toNat * 7 + 2,none⟩=some (.int .i64 ((Ca Uc Ea).f2)):=lH 2 _ rfl;have Nan:kr.cell? ⟨Lf,(Ea:Int).toNat * 7 + 3,none⟩=some (.int .i64 ((Ca Uc Ea).f3)):=lH 3 _ rfl;have Man:kr.cell? ⟨Lf,(Ea:Int).toNat * 7 + 4,none⟩=some (.int .i64 ((Ca Uc Ea).f4)):=lH 4 _ rfl;have Lan:kr.cell? ⟨Lf,(Ea:Int).toNat * 7 + 5,none⟩=some (.int .i64 ((Ca Uc Ea).f5)):=lH 5 _ rfl;have Kan:kr.cell? ⟨Lf,(Ea:Int).toNat * 7 + 6,none⟩=some (.string ((Ca Uc Ea).f6)):=lH 6 _ rfl;have faq:kr.frozen? ⟨Lf,(Ea:Int).toNat * 7,none⟩=false:=eH 0;have eaq:kr.frozen? ⟨Lf,(Ea:Int).toNat * 7 + 1,none⟩=false:=eH 1;have daq:kr.frozen? ⟨Lf,(Ea:Int).toNat * 7 + 2,none⟩=false:=eH 2;have caq:kr.frozen? ⟨Lf,(Ea:Int).toNat * 7 + 3,none⟩=false:=eH 3;have baq:kr.frozen? ⟨Lf,(Ea:Int).toNat * 7 + 4,none⟩=false:=eH 4;have aaq:kr.frozen? ⟨Lf,(Ea:Int).toNat * 7 + 5,none⟩=false:=eH 5;have Zap:kr.frozen? ⟨Lf,(Ea:Int).toNat * 7 + 6,none⟩=false:=eH 6;clear hal lH eH hM7;replace p7:=eq_true p7;replace q7:=eq_true q7;have aab:=ja.mk (show Kd.R Gi 65 kr w0.heap.size (fun k_=>(nj k_ ∨ w.heap.size ≤ k_)) (.slice (some ⟨Lf,0,none⟩) me.length Fp) Uc from (by (with_reducible repeat (first|apply Kd.zb|apply Kd.yb|apply Kd.Ib));exact Be.out));obtain ⟨oat,GW,i_,mQ,xW⟩:=Kd.Ci aab.out Xr (Ea:Int) (Ua) (by have h_:(Ea:Int) < ((me.length:Int):Int):=Ua;first|exact h_|(have e_:=(Kd.dc Be.out).1;omega)|simpa using h_);obtain rfl:=mg i_;have KJ:=Kd.Fx aab.out (Ea:Int) (Ua) (by have h_:(Ea:Int) < ((me.length:Int):Int):=Ua;first|exact h_|(have e_:=(Kd.dc Be.out).1;omega)|simpa using h_) (seg:=[.int .i64 (wrap64 ((wrap64 (Wd + 1)) + 1))]) (j:=2) GW mQ (show 3 ≤ 7 from by decide) (x':=(⟨(Ca Uc Ea).f0,(Ca Uc Ea).f1,wrap64 ((wrap64 (Wd + 1)) + 1),(Ca Uc Ea).f3,(Ca Uc Ea).f4,(Ca Uc Ea).f5,(Ca Uc Ea).f6⟩:ye)) (qn _ _ _ (⟨(Ca Uc Ea).f0,(Ca Uc Ea).f1,wrap64 ((wrap64 (Wd + 1)) + 1),(Ca Uc Ea).f3,(Ca Uc Ea).f4,(Ca Uc Ea).f5,(Ca Uc Ea).f6⟩:ye) ) (fun _ hk=>hk);have KY:=mQ 2 _ rfl;(try simp only [show (Gi).sz=7 from rfl,Nat.mul_one,Nat.add_zero] at KY);have gZ:=xW 2;(try simp only [show (Gi).sz=7 from rfl,Nat.mul_one,Nat.add_zero] at gZ);clear GW mQ xW i_)|((with_reducible refine gf (t:=3) (p:=30) rfl ?_);refine De (t:=3) (p:=30) (v:=?eY) (w1:=(kr.setCell ⟨Lf,(Ea:Int).toNat * 7 + 2,none⟩ (.int .i64 (wrap64 ((wrap64 (Wd + 1)) + 1))))) ?hg ?ho ?hn ?hr ?_;(case ho=>rfl);(case hg=>rfl);(case hn=>rfl);(case hr=>first|(go_simp;done)|(go_simp;rfl));intro mz hw;have hg:kr.grownBy mz (some Lf):=(by rw [hw];exact KJ.2);have Qm:Kd.R Gi 65 mz w0.heap.size (fun k_=>(nj k_ ∨ w.heap.size ≤ k_)) (.slice (some ⟨Lf,0,none⟩) me.length Fp) Df:=(by rw [hw,UH.out];exact KJ.1);clear KJ;have Bb:=ja.mk (Qm);have Gb:=ja.mk ((by rw [hw];exact ua (HB.out) YV.out:Below w0.heap.size w0 mz));have Nb:=ja.mk (Kept.Zg (S:=(fun k_=>nj k_)) hg (by repeat (first|(with_reducible first|exact HK.out|apply Kept.alloc|apply Kept.drewN|apply Kept.drew)|exact HK.out)) (fun k_ e_=>(Be.out.1 k_ e_)));clear Be HB HK;have Be:=Bb;have HB:=Gb;have HK:=Nb;clear Bb Gb Nb hg hw Qm;have p8:0 ≤ (Ea:Int):=Ua;have q8:(Ea:Int) < ((me.length:Int):Int):=Ua;obtain ⟨ce8,gal,hM8,kH,dH⟩:=Kd.Ci Be.out Xr (Ea:Int) p8 q8;obtain rfl:=mg hM8;have Jan:mz.cell? ⟨Lf,(Ea:Int).toNat * 7,none⟩=some (.int .i64 ((Ca Df Ea).f0)):=kH 0 _ rfl;have Ian:mz.cell? ⟨Lf,(Ea:Int).toNat * 7 + 1,none⟩=some (.int .i64 ((Ca Df Ea).f1)):=kH 1 _ rfl;have Han:mz.cell? ⟨Lf,(Ea:Int).toNat * 7 + 2,none⟩=some (.int .i64 ((Ca Df Ea).f2)):=kH 2 _ rfl;have Gan:mz.cell? ⟨Lf,(Ea:Int).toNat * 7 + 3,none⟩=some (.int .i64 ((Ca Df Ea).f3)):=kH 3 _ rfl;have Fan:mz.cell? ⟨Lf,(Ea:Int).toNat * 7 + 4,none⟩=some (.int .i64 ((Ca Df Ea).f4)):=kH 4 _ rfl;have Ean:mz.cell? ⟨Lf,(Ea:Int).toNat * 7 + 5,none⟩=some (.int .i64 ((Ca Df Ea).f5)):=kH 5 _ rfl;have Dan:mz.cell? ⟨Lf,(Ea:Int).toNat * 7 + 6,none⟩=some (.string ((Ca Df Ea).f6)):=kH 6 _ rfl;have Yap:mz.frozen? ⟨Lf,(Ea:Int).toNat * 7,none⟩=false:=dH 0;have Xap:mz.frozen? ⟨Lf,(Ea:Int).toNat * 7 + 1,none⟩=false:=dH 1;have Wap:mz.frozen? ⟨Lf,(Ea:Int).toNat * 7 + 2,none⟩=false:=dH 2;have Vap:mz.frozen? ⟨Lf,(Ea:Int).toNat * 7 + 3,none⟩=false:=dH 3;have Uap:mz.frozen? ⟨Lf,(Ea:Int).toNat * 7 + 4,none⟩=false:=dH 4;have Tap:mz.frozen? ⟨Lf,(Ea:Int).toNat * 7 + 5,none⟩=false:=dH 5;have Sap:mz.frozen? ⟨Lf,(Ea:Int).toNat * 7 + 6,none⟩=false:=dH 6;clear gal kH dH hM8;replace p8:=eq_true p8;replace q8:=eq_true q8;have Zaa:=ja.mk (show Kd.R Gi 65 mz w0.heap.size (fun k_=>(nj k_ ∨ w.heap.size ≤ k_)) (.slice (some ⟨Lf,0,none⟩) me.length Fp) Df from (by (with_reducible repeat (first|apply Kd.zb|apply Kd.yb|apply Kd.Ib));exact Be.out));obtain ⟨mat,FW,g_,lQ,wW⟩:=Kd.Ci Zaa.out Xr (Ea:Int) (Ua) (by have h_:(Ea:Int) < ((me.length:Int):Int):=Ua;first|exact h_|(have e_:=(Kd.dc Be.out).1;omega)|simpa using h_);obtain rfl:=mg g_;have Z1:=Kd.Fx Zaa.out (Ea:Int) (Ua) (by have h_:(Ea:Int) < ((me.length:Int):Int):=Ua;first|exact h_|(have e_:=(Kd.dc Be.out).1;omega)|simpa using h_) (seg:=[.int .i64 (wrap64 ((wrap64 ((wrap64 (Wd + 1)) + 1)) + 1))]) (j:=3) FW lQ (show 4 ≤ 7 from by decide) (x':=(⟨(Ca Df Ea).f0,(Ca Df Ea).f1,(Ca Df Ea).f2,wrap64 ((wrap64 ((wrap64 (Wd + 1)) + 1)) + 1),(Ca Df Ea).f4,(Ca Df Ea).f5,(Ca Df Ea).f6⟩:ye)) (qn _ _ _ (⟨(Ca Df Ea).f0,(Ca Df Ea).f1,(Ca Df Ea).f2,wrap64 ((wrap64 ((wrap64 (Wd + 1)) + 1)) + 1),(Ca Df Ea).f4,(Ca Df Ea).f5,(Ca Df Ea).f6⟩:ye) ) (fun _ hk=>hk);have JY:=lQ 3 _ rfl;(try simp only [show (Gi).sz=7 from rfl,Nat.mul_one,Nat.add_zero] at JY);have fZ:=wW 3;(try simp only [show (Gi).sz=7 from rfl,Nat.mul_one,Nat.add_zero] at fZ);clear FW lQ wW g_)|((with_reducible refine gf (t:=3) (p:=37) rfl ?_);refine De (t:=3) (p:=37) (v:=?waj) (w1:=(mz.setCell ⟨Lf,(Ea:Int).toNat * 7 + 3,none⟩ (.int .i64 (wrap64 ((wrap64 ((wrap64 (Wd + 1)) + 1)) + 1))))) ?hg ?ho ?hn ?hr ?_;(case ho=>rfl);(case hg=>rfl);(case hn=>rfl);(case hr=>first|(go_simp;done)|(go_simp;rfl));intro cr hw;have hg:mz.grownBy cr (some Lf):=(by rw [hw];exact Z1.2);have Qm:Kd.R Gi 65 cr w0.heap.size (fun k_=>(nj k_ ∨ w.heap.size ≤ k_)) (.slice (some ⟨Lf,0,none⟩) me.length Fp) Cf:=(by rw [hw,Iaa.out];exact Z1.1);clear Z1;have Bb:=ja.mk (Qm);have Gb:=ja.mk ((by rw [hw];exact ua (HB.out) YV.out:Below w0.heap.size w0 cr));have Nb:=ja.mk (Kept.Zg (S:=(fun k_=>nj k_)) hg (by repeat (first|(with_reducible first|exact HK.out|apply Kept.alloc|apply Kept.drewN|apply Kept.drew)|exact HK.out)) (fun k_ e_=>(Be.out.1 k_ e_)));clear Be HB HK;have Be:=Bb;have HB:=Gb;have HK:=Nb;clear Bb Gb Nb hg hw Qm;have p9:0 ≤ (Ea:Int):=Ua;have q9:(Ea:Int) < ((me.length:Int):Int):=Ua;obtain ⟨ce9,fal,hM9,jH,cH⟩:=Kd.Ci Be.out Xr (Ea:Int) p9 q9;obtain rfl:=mg hM9;have E4:cr.cell? ⟨Lf,(Ea:Int).toNat * 7,none⟩=some (.int .i64 ((Ca Cf Ea).f0)):=jH 0 _ rfl;have Ban:cr.cell? ⟨Lf,(Ea:Int).toNat * 7 + 1,none⟩=some (.int .i64 ((Ca Cf Ea).f1)):=jH 1 _ rfl;have Aan:cr.cell? ⟨Lf,(Ea:Int).toNat * 7 + 2,none⟩=some (.int .i64 ((Ca Cf Ea).f2)):=jH 2 _ rfl;have zan:cr.cell? ⟨Lf,(Ea:Int).toNat * 7 + 3,none⟩=some (.int .i64 ((Ca Cf Ea).f3)):=jH 3 _ rfl;have yan:cr.cell? ⟨Lf,(Ea:Int).toNat * 7 + 4,none⟩=some (.int .i64 ((Ca Cf Ea).f4)):=jH 4 _ rfl;have xan:cr.cell? ⟨Lf,(Ea:Int).toNat * 7 + 5,none⟩=some (.int .i64 ((Ca Cf Ea).f5)):=jH 5 _ rfl;have wan:cr.cell? ⟨Lf,(Ea:Int).toNat * 7 + 6,none⟩=some (.string ((Ca Cf Ea).f6)):=jH 6 _ rfl;have W7:cr.frozen? ⟨Lf,(Ea:Int).toNat * 7,none⟩=false:=cH 0;have Rap:cr.frozen? ⟨Lf,(Ea:Int).toNat * 7 + 1,none⟩=false:=cH 1;have Qap:cr.frozen? ⟨Lf,(Ea:Int).toNat * 7 + 2,none⟩=false:=cH 2;have Pap:cr.frozen? ⟨Lf,(Ea:Int).toNat * 7 + 3,none⟩=false:=cH 3;have Oap:cr.frozen? ⟨Lf,(Ea:Int).toNat * 7 + 4,none⟩=false:=cH 4;have Nap:cr.frozen? ⟨Lf,(Ea:Int).toNat * 7 + 5,none⟩=false:=cH 5;have Lap:cr.frozen? ⟨Lf,(Ea:Int).toNat * 7 + 6,none⟩=false:=cH 6;clear fal jH cH hM9;replace p9:=eq_true p9;replace q9:=eq_true q9;have Yaa:=ja.mk (show Kd.R Gi 65 cr w0.heap.size (fun k_=>(nj k_ ∨ w.heap.size ≤ k_)) (.slice (some ⟨Lf,0,none⟩) me.length Fp) Cf from (by (with_reducible repeat (first|apply Kd.zb|apply Kd.yb|apply Kd.Ib));exact Be.out));obtain ⟨lat,EW,f_,kQ,vW⟩:=Kd.Ci Yaa.out Xr (Ea:Int) (Ua) (by have h_:(Ea:Int) < ((me.length:Int):Int):=Ua;first|exact h_|(have e_:=(Kd.dc Be.out).1;omega)|simpa using h_);obtain rfl:=mg f_;have Y1:=Kd.Fx Yaa.out (Ea:Int) (Ua) (by have h_:(Ea:Int) < ((me.length:Int):Int):=Ua;first|exact h_|(have e_:=(Kd.dc Be.out).1;omega)|simpa using h_) (seg:=[.int .i64 (wrap64 ((wrap64 ((wrap64 ((wrap64 (Wd + 1)) + 1)) + 1)) + 1))]) (j:=4) EW kQ (show 5 ≤ 7 from by decide) (x':=(⟨(Ca Cf Ea).f0,(Ca Cf Ea).f1,(Ca Cf Ea).f2,(Ca Cf Ea).f3,wrap64 ((wrap64 ((wrap64 ((wrap64 (Wd + 1)) + 1)) + 1)) + 1),(Ca Cf Ea).f5,(Ca Cf Ea).f6⟩:ye)) (qn _ _ _ (⟨(Ca Cf Ea).f0,(Ca Cf Ea).f1,(Ca Cf Ea).f2,(Ca Cf Ea).f3,wrap64 ((wrap64 ((wrap64 ((wrap64 (Wd + 1)) + 1)) + 1)) + 1),(Ca Cf Ea).f5,(Ca Cf Ea).f6⟩:ye) ) (fun _ hk=>hk);have IY:=kQ 4 _ rfl;(try simp only [show (Gi).sz=7 from rfl,Nat.mul_one,Nat.add_zero] at IY);have eZ:=vW 4;(try simp only [show (Gi).sz=7 from rfl,Nat.mul_one,Nat.add_zero] at eZ);clear EW kQ vW f_)|((with_reducible refine gf (t:=3) (p:=44) rfl ?_);refine De (t:=3) (p:=44) (v:=?vaj) (w1:=(cr.setCell ⟨Lf,(Ea:Int).toNat * 7 + 4,none⟩ (.int .i64 (wrap64 ((wrap64 ((wrap64 ((wrap64 (Wd + 1)) + 1)) + 1)) + 1))))) ?hg ?ho ?hn ?hr ?_;(case ho=>rfl);(case hg=>rfl);(case hn=>rfl);(case hr=>first|(go_simp;done)|(go_simp;rfl));intro jr hw;have hg:cr.grownBy jr (some Lf):=(by rw [hw];exact Y1.2);have Qm:Kd.R Gi 65 jr w0.heap.size (fun k_=>(nj k_ ∨ w.heap.size ≤ k_)) (.slice (some ⟨Lf,0,none⟩) me.length Fp) xd:=(by rw [hw,Hj.out];exact Y1.1);clear Y1;have Bb:=ja.mk (Qm);have Gb:=ja.mk ((by rw [hw];exact ua (HB.out) YV.out:Below w0.heap.size w0 jr));have Nb:=ja.mk (Kept.Zg (S:=(fun k_=>nj k_)) hg (by repeat (first|(with_reducible first|exact HK.out|apply Kept.alloc|apply Kept.drewN|apply Kept.drew)|exact HK.out)) (fun k_ e_=>(Be.out.1 k_ e_)));clear Be HB HK;have Be:=Bb;have HB:=Gb;have HK:=Nb;clear Bb Gb Nb hg hw Qm;have iI:0 ≤ (Ea:Int):=Ua;have gI:(Ea:Int) < ((me.length:Int):Int):=Ua;obtain ⟨N_,iH,pH,gj,Yi⟩:=Kd.Ci Be.out Xr (Ea:Int) iI gI;obtain rfl:=mg pH;have vP:jr.cell? ⟨Lf,(Ea:Int).toNat * 7,none⟩=some (.int .i64 ((Ca xd Ea).f0)):=gj 0 _ rfl;have uP:jr.cell? ⟨Lf,(Ea:Int).toNat * 7 + 1,none⟩=some (.int .i64 ((Ca xd Ea).f1)):=gj 1 _ rfl;have tP:jr.cell? ⟨Lf,(Ea:Int).toNat * 7 + 2,none⟩=some (.int .i64 ((Ca xd Ea).f2)):=gj 2 _ rfl;have sP:jr.cell? ⟨Lf,(Ea:Int).toNat * 7 + 3,none⟩=some (.int .i64 ((Ca xd Ea).f3)):=gj 3 _ rfl;have rP:jr.cell? ⟨Lf,(Ea:Int).toNat * 7 + 4,none⟩=some (.int .i64 ((Ca xd Ea).f4)):=gj 4 _ rfl;have OY:jr.cell? ⟨Lf,(Ea:Int).toNat * 7 + 5,none⟩=some (.int .i64 ((Ca xd Ea).f5)):=gj 5 _ rfl;have NY:jr.cell? ⟨Lf,(Ea:Int).toNat * 7 + 6,none⟩=some (.string ((Ca xd Ea).f6)):=gj 6 _ rfl;have aQ:jr.frozen? ⟨Lf,(Ea:Int).toNat * 7,none⟩=false:=Yi 0;have ZP:jr.frozen? ⟨Lf,(Ea:Int).toNat * 7 + 1,none⟩=false:=Yi 1;have YP:jr.frozen? ⟨Lf,(Ea:Int).toNat * 7 + 2,none⟩=false:=Yi 2;have XP:jr.frozen? ⟨Lf,(Ea:Int).toNat * 7 + 3,none⟩=false:=Yi 3;have VP:jr.frozen? ⟨Lf,(Ea:Int).toNat * 7 + 4,none⟩=false:=Yi 4;have nZ:jr.frozen? ⟨Lf,(Ea:Int).toNat * 7 + 5,none⟩=false:=Yi 5;have mZ:jr.frozen? ⟨Lf,(Ea:Int).toNat * 7 + 6,none⟩=false:=Yi 6;clear iH gj Yi pH;replace iI:=eq_true iI;replace gI:=eq_true gI;have Xaa:=ja.mk (show Kd.R Gi 65 jr w0.heap.size (fun k_=>(nj k_ ∨ w.heap.size ≤ k_)) (.slice (some ⟨Lf,0,none⟩) me.length Fp) xd from (by (with_reducible repeat (first|apply Kd.zb|apply Kd.yb|apply Kd.Ib));exact Be.out));obtain ⟨kat,DW,d_,jQ,uW⟩:=Kd.Ci Xaa.out Xr (Ea:Int) (Ua) (by have h_:(Ea:Int) < ((me.length:Int):Int):=Ua;first|exact h_|(have e_:=(Kd.dc Be.out).1;omega)|simpa using h_);obtain rfl:=mg d_;have VB:=Kd.Fx Xaa.out (Ea:Int) (Ua) (by have h_:(Ea:Int) < ((me.length:Int):Int):=Ua;first|exact h_|(have e_:=(Kd.dc Be.out).1;omega)|simpa using h_) (seg:=[.int .i64 (wrap64 ((wrap64 ((wrap64 ((wrap64 ((wrap64 (Wd + 1)) + 1)) + 1)) + 1)) + 1))]) (j:=5) DW jQ (show 6 ≤ 7 from by decide) (x':=(⟨(Ca xd Ea).f0,(Ca xd Ea).f1,(Ca xd Ea).f2,(Ca xd Ea).f3,(Ca xd Ea).f4,wrap64 ((wrap64 ((wrap64 ((wrap64 ((wrap64 (Wd + 1)) + 1)) + 1)) + 1)) + 1),(Ca xd Ea).f6⟩:ye)) (qn _ _ _ (⟨(Ca xd Ea).f0,(Ca xd Ea).f1,(Ca xd Ea).f2,(Ca xd Ea).f3,(Ca xd Ea).f4,wrap64 ((wrap64 ((wrap64 ((wrap64 ((wrap64 (Wd + 1)) + 1)) + 1)) + 1)) + 1),(Ca xd Ea).f6⟩:ye) ) (fun _ hk=>hk);have HY:=jQ 5 _ rfl;(try simp only [show (Gi).sz=7 from rfl,Nat.mul_one,Nat.add_zero] at HY);have dZ:=uW 5;(try simp only [show (Gi).sz=7 from rfl,Nat.mul_one,Nat.add_zero] at dZ);clear DW jQ uW d_)|((with_reducible refine gf (t:=3) (p:=51) rfl ?_);refine De (t:=3) (p:=51) (v:=?FO) (w1:=(jr.setCell ⟨Lf,(Ea:Int).toNat * 7 + 5,none⟩ (.int .i64 (wrap64 ((wrap64 ((wrap64 ((wrap64 ((wrap64 (Wd + 1)) + 1)) + 1)) + 1)) + 1))))) ?hg ?ho ?hn ?hr ?_;(case ho=>rfl);(case hg=>rfl);(case hn=>rfl);(case hr=>first|(go_simp;done)|(go_simp;rfl));intro Px hw;have hg:jr.grownBy Px (some Lf):=(by rw [hw];exact VB.2);have Qm:Kd.R Gi 65 Px w0.heap.size (fun k_=>(nj k_ ∨ w.heap.size ≤ k_)) (.slice (some ⟨Lf,0,none⟩) me.length Fp) Cd:=(by rw [hw,cN.out];exact VB.1);clear VB;have Bb:=ja.mk (Qm);have Gb:=ja.mk ((by rw [hw];exact ua (HB.out) YV.out:Below w0.heap.size w0 Px));have Nb:=ja.mk (Kept.Zg (S:=(fun k_=>nj k_)) hg (by repeat (first|(with_reducible first|exact HK.out|apply Kept.alloc|apply Kept.drewN|apply Kept.drew)|exact HK.out)) (fun k_ e_=>(Be.out.1 k_ e_)));clear Be HB HK;have Be:=Bb;have HB:=Gb;have HK:=Nb;clear Bb Gb Nb hg hw Qm)|((with_reducible refine qb (f:=106) rfl ?_);refine Mc (some 57) rfl rfl Try.func106 (by kernel_rfl) rfl #[.int .i64 (wrap64 ((wrap64 ((wrap64 ((wrap64 ((wrap64 ((wrap64 (Wd + 1)) + 1)) + 1)) + 1)) + 1)) + 1))] rfl (by (try simp only [List.map_toArray,List.map_cons,List.map_nil]);first|done|rfl|(simp only [List.length_drop,List.length_take];rfl)) ?_;(with_reducible refine (Vc.calls k1 (wrap64 ((wrap64 ((wrap64 ((wrap64 ((wrap64 ((wrap64 (Wd + 1)) + 1)) + 1)) + 1)) + 1)) + 1)) t107 _ cS.out).mono ?_);rintro e Wm ⟨rfl,hb⟩;refine ⟨_,rfl,?_⟩;have Bb:=ja.mk (Kd.yd (by (with_reducible repeat (first|apply Kd.zb|apply Kd.yb|apply Kd.Ib));exact Be.out) hb);have Gb:=ja.mk (Kept.below (S:=(fun k_=>nj k_)) (by repeat (first|(with_reducible first|exact HK.out|apply Kept.alloc|apply Kept.drewN|apply Kept.drew)|exact HK.out)) hb);have Nb:=ja.mk (Qa (by repeat (first|(with_reducible first|exact HB.out|apply qa|apply ia|apply ta)|exact HB.out)) hb);clear Be HK HB;have Be:=Bb;have HK:=Gb;have HB:=Nb;clear Bb Gb Nb;(try clear hb);(try clear si);(try clear hk);(try clear hi);have uY:0 ≤ (Ea:Int):=Ua;have rY:(Ea:Int) < ((me.length:Int):Int):=Ua;obtain ⟨M_,NC,oH,ji,Xi⟩:=Kd.Ci Be.out Xr (Ea:Int) uY rY;obtain rfl:=mg oH;have sB:Wm.cell? ⟨Lf,(Ea:Int).toNat * 7,none⟩=some (.int .i64 ((Ca Cd Ea).f0)):=ji 0 _ rfl;have CD:Wm.cell? ⟨Lf,(Ea:Int).toNat * 7 + 1,none⟩=some (.int .i64 ((Ca Cd Ea).f1)):=ji 1 _ rfl;have BD:Wm.cell? ⟨Lf,(Ea:Int).toNat * 7 + 2,none⟩=some (.int .i64 ((Ca Cd Ea).f2)):=ji 2 _ rfl;have zD:Wm.cell? ⟨Lf,(Ea:Int).toNat * 7 + 3,none⟩=some (.int .i64 ((Ca Cd Ea).f3)):=ji 3 _ rfl;have yD:Wm.cell? ⟨Lf,(Ea:Int).toNat * 7 + 4,none⟩=some (.int .i64 ((Ca Cd Ea).f4)):=ji 4 _ rfl;have qP:Wm.cell? ⟨Lf,(Ea:Int).toNat * 7 + 5,none⟩=some (.int .i64 ((Ca Cd Ea).f5)):=ji 5 _ rfl;have pP:Wm.cell? ⟨Lf,(Ea:Int).toNat * 7 + 6,none⟩=some (.string ((Ca Cd Ea).f6)):=ji 6 _ rfl;have xB:Wm.frozen? ⟨Lf,(Ea:Int).toNat * 7,none⟩=false:=Xi 0;have PE:Wm.frozen? ⟨Lf,(Ea:Int).toNat * 7 + 1,none⟩=false:=Xi 1;have OE:Wm.frozen? ⟨Lf,(Ea:Int).toNat * 7 + 2,none⟩=false:=Xi 2;have ME:Wm.frozen? ⟨Lf,(Ea:Int).toNat * 7 + 3,none⟩=false:=Xi 3;have KE:Wm.frozen? ⟨Lf,(Ea:Int).toNat * 7 + 4,none⟩=false:=Xi 4;have TP:Wm.frozen? ⟨Lf,(Ea:Int).toNat * 7 + 5,none⟩=false:=Xi 5;have SP:Wm.frozen? ⟨Lf,(Ea:Int).toNat * 7 + 6,none⟩=false:=Xi 6;clear NC ji Xi oH;replace uY:=eq_true uY;replace rY:=eq_true rY;have Waa:=ja.mk (show Kd.R Gi 65 Wm w0.heap.size (fun k_=>(nj k_ ∨ w.heap.size ≤ k_)) (.slice (some ⟨Lf,0,none⟩) me.length Fp) Cd from (by (with_reducible repeat (first|apply Kd.zb|apply Kd.yb|apply Kd.Ib));exact Be.out));obtain ⟨jat,CW,Z9,iQ,tW⟩:=Kd.Ci Waa.out Xr (Ea:Int) (Ua) (by have h_:(Ea:Int) < ((me.length:Int):Int):=Ua;first|exact h_|(have e_:=(Kd.dc Be.out).1;omega)|simpa using h_);obtain rfl:=mg Z9;have X1:=Kd.Fx Waa.out (Ea:Int) (Ua) (by have h_:(Ea:Int) < ((me.length:Int):Int):=Ua;first|exact h_|(have e_:=(Kd.dc Be.out).1;omega)|simpa using h_) (seg:=[.string t107]) (j:=6) CW iQ (show 7 ≤ 7 from by decide) (x':=(⟨(Ca Cd Ea).f0,(Ca Cd Ea).f1,(Ca Cd Ea).f2,(Ca Cd Ea).f3,(Ca Cd Ea).f4,(Ca Cd Ea).f5,t107⟩:ye)) (qn _ _ _ (⟨(Ca Cd Ea).f0,(Ca Cd Ea).f1,(Ca Cd Ea).f2,(Ca Cd Ea).f3,(Ca Cd Ea).f4,(Ca Cd Ea).f5,t107⟩:ye) ) (fun _ hk=>hk);have GY:=iQ 6 _ rfl;(try simp only [show (Gi).sz=7 from rfl,Nat.mul_one,Nat.add_zero] at GY);have cZ:=tW 6;(try simp only [show (Gi).sz=7 from rfl,Nat.mul_one,Nat.add_zero] at cZ);clear CW iQ tW Z9)|((with_reducible refine gf (t:=9) (p:=59) rfl ?_);refine De (t:=9) (p:=59) (v:=?dY) (w1:=(Wm.setCell ⟨Lf,(Ea:Int).toNat * 7 + 6,none⟩ (.string t107))) ?hg ?ho ?hn ?hr ?_;(case ho=>rfl);(case hg=>rfl);(case hn=>rfl);(case hr=>first|(go_simp;done)|(go_simp;rfl));intro vr hw;have hg:Wm.grownBy vr (some Lf):=(by rw [hw];exact X1.2);have Qm:Kd.R Gi 65 vr w0.heap.size (fun k_=>(nj k_ ∨ w.heap.size ≤ k_)) (.slice (some ⟨Lf,0,none⟩) me.length Fp) cg:=(by rw [hw,Jh.out];exact X1.1);clear X1;have Bb:=ja.mk (Qm);have Gb:=ja.mk ((by rw [hw];exact ua (HB.out) YV.out:Below w0.heap.size w0 vr));have Nb:=ja.mk (Kept.Zg (S:=(fun k_=>nj k_)) hg (by repeat (first|(with_reducible first|exact HK.out|apply Kept.alloc|apply Kept.drewN|apply Kept.drew)|exact HK.out)) (fun k_ e_=>(Be.out.1 k_ e_)));clear Be HB HK;have Be:=Bb;have HB:=Gb;have HK:=Nb;clear Bb Gb Nb hg hw Qm))
     go_roundg k1
     case measure=>have:=qg.out;omega
     case rel=>exact ⟨(cg),(wrap64 ((wrap64 ((wrap64 ((wrap64 ((wrap64 ((wrap64 ((wrap64 (Wd + 1)) + 1)) + 1)) + 1)) + 1)) + 1)) + 1)),(wrap64 (Ea + 1)),(by first|rfl|(simp;done)|(simp [*];done)),(by first|rfl|(simp;done)|(simp [*];done)),H',⟨by have:=qg.out;omega⟩,⟨by (with_reducible repeat (first|apply Kd.zb|apply Kd.yb|apply Kd.Ib));exact Be.out⟩,⟨by repeat (first|(with_reducible first|exact HK.out|apply Kept.alloc|apply Kept.drewN|apply Kept.drew)|exact HK.out)⟩,⟨by repeat (first|(with_reducible first|exact HB.out|apply qa|apply ia|apply ta)|exact HB.out)⟩⟩
    ·rw [if_neg c4] at H;exact absurd H (by simp)
   ·rw [if_neg c3] at H;have Wg:decide (Ea < (me.length:Int))=false:=decide_eq_false c3;clear c3;simp only [Option.some.injEq,Prod.mk.injEq] at H;obtain ⟨rfl,rfl⟩:=H;obtain ⟨Mam,J_,LZ⟩:=Kd.Ud Be.out;subst LZ;go_wp2;go_ret;exact ⟨by first|rfl|(simp [Na,Ma] <;> rfl)|(simp [*,Na,Ma] <;> rfl),by (with_reducible repeat (first|apply Kd.zb|apply Kd.yb|apply Kd.Ib));exact Be.out,by repeat (first|(with_reducible first|exact HB.out|apply qa|apply ia|apply ta)|exact HB.out),by repeat (first|(with_reducible first|exact HK.out|apply Kept.alloc|apply Kept.drewN|apply Kept.drew)|exact HK.out)⟩
def kf.f (k:Nat):List We→Int→Option (Int × List We)
 | [],a=>some (a,[])
 | x :: l,a=>(Pc.f k x.f0 a).bind fun t=>(kf.f k l (wrap64 (wrap64 (wrap64 (wrap64 (t.1 + 1) + 1) + 1) + 1))).bind fun u=>some (u.1,⟨t.2,t.1,wrap64 (t.1 + 1),wrap64 (wrap64 (t.1 + 1) + 1),wrap64 (wrap64 (wrap64 (t.1 + 1) + 1) + 1)⟩ :: u.2)
theorem kS {α:Type} {done l:List α} {j:Nat} (x y:α) (h:done.length=j):(done ++ x :: l).set j y=(done ++ [y]) ++ l:=by
 subst h;rw [List.set_append_right _ _ (Nat.le_refl _),Nat.sub_self,List.set_cons_zero,List.append_assoc]
 rfl
theorem kf.calls (k:Nat) (nj:Nat→Prop) (Ef:Value) (l0:List We) (a1:Int) (r1:Int) (r2:List We) (w0 w:World) (hB:Below w0.heap.size w0 w) (ri:Kd.S Kp 59 w w0.heap.size nj Ef l0) (h:kf.f k l0 a1=some (r1,r2)) :
  Calls Try.prog 56 #[Ef,.int .i64 a1] w fun e w'=>e = .returned (.int .i64 r1)∧Kd.S Kp 59 w' w0.heap.size (fun k_=>(nj k_ ∨ w.heap.size ≤ k_)) Ef r2∧Below w0.heap.size w0 w'∧Kept w w' (fun k_=>nj k_):=by
 obtain ⟨A,c,rfl,jC,hC⟩:=Kd.yV ri;have hm:=hC.2.1;have HS:=ja.mk (Kd.uj ri (Eu:=fun k_=>nj k_ ∨ w.heap.size ≤ k_) (fun k_ hk=>.inl hk));have HB:=ja.mk hB;have HK:=ja.mk (Kept.refl w (fun k_=>nj k_));have HH:=ja.mk h;clear ri hC hB h;go_enter Try.func56,Try.ntmps56;go_wp2
 go_loopg [1,5] l0.length (fun gg v1 v5 wr=>∃ (j:Nat) (a:Int) (done rest:List We),j ≤ l0.length∧l0.length - j ≤ gg∧v1 = .int .i64 a∧v5 = .int .i64 j∧ja (done.length=j∧kf.f k (l0.drop j) a=some (r1,rest)∧r2=done ++ rest)∧ja (Kd.S Kp 59 wr w0.heap.size (fun k_=>nj k_ ∨ w.heap.size ≤ k_) (.slice A l0.length c) (done ++ l0.drop j))∧ja (Below w0.heap.size w0 wr)∧ja (Kept w wr (fun k_=>nj k_)))
 case atStart=>exact ⟨0,a1,[],r2,Nat.zero_le _,by omega,rfl,rfl,⟨rfl,by simpa using HH.out,rfl⟩,⟨by simpa using HS.out⟩,HB,HK⟩
 case round =>
  clear HS HB HK HH;(try clear HD);(try clear HS);(try clear HB);(try clear HK);obtain ⟨j,a,done,rest,hj,hg,rfl,rfl,HD,HS,HB,HK⟩:=hrel
  by_cases hlt:j < l0.length
  ·have OS:decide ((j:Int) < (l0.length:Int))=true:=decide_eq_true (by omega);obtain ⟨d1,d2,d3⟩:=HD.out;have GL:l0.drop j=l0[j] :: l0.drop (j + 1):=List.drop_eq_getElem_cons hlt;rw [GL] at d2;unfold kf.f at d2;obtain ⟨⟨a2,EH⟩,t1,d2⟩:=Option.bind_eq_some_iff.mp d2;obtain ⟨⟨r1',rest'⟩,u1,d2⟩:=Option.bind_eq_some_iff.mp d2
   obtain ⟨rfl,rfl⟩:r1' = r1∧(⟨EH,a2,wrap64 (a2 + 1),wrap64 (wrap64 (a2 + 1) + 1),wrap64 (wrap64 (wrap64 (a2 + 1) + 1) + 1)⟩:We) :: rest' = rest:=by
    have:=Option.some.inj d2;exact ⟨congrArg Prod.fst this,congrArg Prod.snd this⟩
   have hlen:(done ++ l0.drop j).length=l0.length:=by rw [List.length_append,List.length_drop,d1];omega
   obtain ⟨g,cap,e1,hbg,xas,cells,Fy⟩:=Kd.mG HS.out (by rw [hlen];omega);obtain rfl:A=some ⟨g,0,none⟩:=by injection e1
   clear e1;have J4:=(Kd.oI HS.out).1 g rfl;obtain ⟨Zl,cs,hcs,hM,Gy,qZ,iy,hH⟩:=Kd.Ny HS.out wG (j:Int) (by omega) (by omega)
   have hx:(done ++ l0.drop j).getD (Int.toNat (j:Int)) wG=l0[j]:=by
    rw [GL,Int.toNat_natCast,List.getD_eq_getElem?_getD,List.getElem?_append_right (by omega),d1];simp [List.getElem?_eq_getElem hlt]
   rw [hx] at hM;obtain ⟨v0,rfl,hR⟩:=ey hM;obtain ⟨A5,c5,rfl⟩:=Kd.Ud hR;have y0:=Gy 0 _ rfl;have rO:=ja.mk (Gy 1 _ rfl);have pN:=ja.mk (Gy 2 _ rfl);have qO:=ja.mk (Gy 3 _ rfl);have XR:=ja.mk (Gy 4 _ rfl);have HH:=ja.mk hH;have HR:=ja.mk hR;have HT:=ja.mk t1;have HU:=ja.mk u1;have HOK:=ja.mk iy;have HG:=ja.mk J4;have HX:=ja.mk Fy;have HD:=ja.mk (And.intro d1 d3);have HDR:=ja.mk GL;simp only [Int.toNat_natCast,show Kp.sz=5 from rfl,Nat.add_zero] at y0 rO pN qO XR;clear hH hR Gy qZ hM hx iy J4 Fy t1 u1 d1 d2 d3 GL hcs;go_wp2_with (first|(go_at_call 83;(with_reducible refine (Pc.calls k Zl _ l0[j].f0 a a2 EH w0 wr HB.out HR.out HT.out).mono ?_);rintro e w1 ⟨rfl,hr,hb,hk⟩;have UB:=ja.mk hr;have ZR:=ja.mk hb;have qg:=ja.mk hk;have mW:¬ Zl g:=fun h=>(HOK.out g h).2 rfl;have VI:=Ko HX.out hk mW;have z1:=zi rO.out hk mW;have z2:=zi pN.out hk mW;have z3:=zi qO.out hk mW;have z4:=zi XR.out hk mW;have z5:=aa VI (j * 5 + 1);have z6:=aa VI (j * 5 + 2);have z7:=aa VI (j * 5 + 3);have z8:=aa VI (j * 5 + 4);clear hr hb hk mW VI));have HH1:=ja.mk (Kd.O1 (Kd.DV HH.out) qg.out (fun k_ _ hn hs=>hn (.inl hs)));obtain ⟨HS1,hgr⟩:=Kd.qX HH1.out (by omega) (by omega) (seg:=[.int .i64 a2,.int .i64 (wrap64 (a2 + 1)),.int .i64 (wrap64 (wrap64 (a2 + 1) + 1)),.int .i64 (wrap64 (wrap64 (wrap64 (a2 + 1) + 1) + 1))]) (j:=1) (show 1 + 4 ≤ 5 from by decide) (by intro q hq;simp at hq;rcases hq with rfl|rfl|rfl|rfl <;> rfl)
   go_roundg (l0.length - (j + 1))
   case measure=>omega
   case rel =>
    have hle:w.heap.size ≤ wr.heap.size:=HK.out.1;have mW:∀ k_,(Zl k_ ∨ wr.heap.size ≤ k_)→k_ ≠ g:=fun k_ hk=>hk.elim (fun h=>(HOK.out k_ h).2) (fun h=>by omega)
    have hin:=Kd.YM UB.out hgr (fun k_ hk e=>mW k_ hk (by injection e));have U7:=Kd.oG HS1 (x':=⟨EH,a2,wrap64 (a2 + 1),wrap64 (wrap64 (a2 + 1) + 1),wrap64 (wrap64 (wrap64 (a2 + 1) + 1) + 1)⟩) (wD _ _ _ _ hin) (fun k_ hk=>hk.elim .inl (fun h=>.inr ⟨.inr (by omega),h⟩))
    have xP:(done ++ l0.drop j).set (Int.toNat (j:Int)) (⟨EH,a2,wrap64 (a2 + 1),wrap64 (wrap64 (a2 + 1) + 1),wrap64 (wrap64 (wrap64 (a2 + 1) + 1) + 1)⟩:We)=(done ++ [⟨EH,a2,wrap64 (a2 + 1),wrap64 (wrap64 (a2 + 1) + 1),wrap64 (wrap64 (wrap64 (a2 + 1) + 1) + 1)⟩]) ++ l0.drop (j + 1):=by
     rw [HDR.out,Int.toNat_natCast];exact kS _ _ HD.out.1
    rw [xP] at U7;have F3:=ZR.out.grown hgr ZR.out.size (fun k_ e=>by injection e with e;omega);have hk4:=Kept.Zg hgr (HK.out.WA qg.out (fun k_ hk=>(HOK.out k_ hk).1)) (fun k_ e=>by injection e with e;subst e;exact HG.out);exact ⟨j + 1,_,_,rest',by omega,by omega,rfl,by go_num,⟨by simp [HD.out.1],HU.out,by rw [HD.out.2];simp⟩,⟨U7⟩,⟨F3⟩,⟨hk4⟩⟩
  ·have OS:decide ((j:Int) < (l0.length:Int))=false:=decide_eq_false (by omega);obtain rfl:j=l0.length:=by omega
   obtain ⟨d1,d2,d3⟩:=HD.out;rw [List.drop_length] at d2;unfold kf.f at d2
   obtain ⟨rfl,rfl⟩:a=r1∧[]=rest:=by
    have:=Option.some.inj d2;exact ⟨congrArg Prod.fst this,congrArg Prod.snd this⟩
   have HD:=ja.mk d3;clear d1 d2 d3;go_wp2;go_ret;refine ⟨rfl,?_,HB.out,HK.out⟩;have:=HS.out;rw [List.drop_length] at this;rw [HD.out];exact this
def zg.f (k:Nat) (Ra:List Int) (La:Int) (Ja:Int) (Ia:Int) (Fa:List We) (a1:Int):Option (Int × List Int × List We):=(Ld.f k Ra a1).bind fun t=>(kf.f k Fa t.1).bind fun u=>some (u.1,t.2,u.2)
theorem zg.calls (k:Nat) (TH:Nat→Prop) (Ef:Value) (Ra:List Int) (La:Int) (Ja:Int) (Ia:Int) (SH:Nat→Prop) (tI:Value) (Fa:List We) (a1:Int) (r1:Int) (r2:List Int) (r3:List We) (w0 w:World) (hB:Below w0.heap.size w0 w) (IP:Kd.R (Kd.int .i64) 3 w w0.heap.size TH Ef Ra) (GP:Kd.S Kp 59 w w0.heap.size SH tI Fa) (h:zg.f k Ra La Ja Ia Fa a1=some (r1,r2,r3)) :
  Calls Try.prog 18 #[.agg #[Ef,.int .i64 La,.int .i64 Ja,.int .i64 Ia,tI],.int .i64 a1] w fun e w'=>e = .returned (.int .i64 r1)∧Kd.R (Kd.int .i64) 3 w' w0.heap.size (fun k_=>((TH k_ ∨ SH k_) ∨ w.heap.size ≤ k_)) Ef r2∧Kd.S Kp 59 w' w0.heap.size (fun k_=>((TH k_ ∨ SH k_) ∨ w.heap.size ≤ k_)) tI r3∧Below w0.heap.size w0 w'∧Kept w w' (fun k_=>TH k_ ∨ SH k_):=by
 obtain ⟨A0,c0,rfl⟩:=Kd.Ud IP;obtain ⟨A4,c4,rfl⟩:=Kd.fo GP;unfold zg.f at h;obtain ⟨⟨b1,b2⟩,t1,h⟩:=Option.bind_eq_some_iff.mp h;obtain ⟨⟨b3,b4⟩,t2,h⟩:=Option.bind_eq_some_iff.mp h
 obtain ⟨rfl,rfl,rfl⟩:b3=r1∧b2=r2∧b4=r3:=by
  have:=Option.some.inj h;exact ⟨congrArg Prod.fst this,congrArg (fun x=>x.2.1) this,congrArg (fun x=>x.2.2) this⟩
 obtain ⟨W1,Pf⟩:∃ W1,W1=w.alloc (.cells #[.slice A0 Ra.length c0,.int .i64 La,.int .i64 Ja,.int .i64 Ia,.slice A4 Fa.length c4] 30 (0,0)):=⟨_,rfl⟩;have HW:=ja.mk Pf;have Y9:Below w.heap.size w W1:=by rw [Pf];exact qa (Below.refl _ _) _
 have hX1:W1.heap[w.heap.size]? = some (.cells #[.slice A0 Ra.length c0,.int .i64 La,.int .i64 Ja,.int .i64 Ia,.slice A4 Fa.length c4] 30 (0,0)):=by rw [Pf];exact cu _ _
 have H0:=ja.mk (Kd.Pg (Kd.yd IP Y9));have H4:=ja.mk (Kd.Dx (Kd.Vh GP Y9));have HB:=ja.mk (hB.trans (Y9.mono hB.size));have HK:=ja.mk (Kept.Dk Y9 (fun k_=>TH k_ ∨ SH k_));have HT1:=ja.mk t1;have HT2:=ja.mk t2;have HX:=ja.mk hX1;have hx0:=(ga hX1 0).trans rfl;clear Pf Y9 IP GP hB t1 t2 h hX1;go_enter Try.func18,Try.ntmps18
 go_upto_region 1 with (fail)
 rw [← HW.out];clear HW;go_wp2_with (first|(go_at_call 19;(with_reducible refine (Ld.calls k _ _ Ra a1 b1 b2 w0 W1 HB.out H0.out HT1.out).mono ?_);rintro e w2 ⟨rfl,hr,hb,hk⟩;have HR2:=ja.mk hr;have Xu:=ja.mk hb;have Vr:=ja.mk hk;have HX2:=ja.mk (Ko HX.out hk (by rintro ⟨_,_,_,q,hq,cells,hc⟩;rw [HX.out] at hc;injection hc with hc;injection hc with _ hc;rw [← hc] at hq;simp [Kd.int,Kd.scalar] at hq));have hy4:=(ga HX2.out 4).trans rfl;have HS2:=ja.mk (Kd.C1 H4.out Vr.out (by rintro k_ ⟨_,_,_,q,hq,cells,hc⟩ ⟨_,_,_,q2,UR,TZ,DG⟩;rw [hc] at DG;injection DG with DG;injection DG with _ DG;rw [← DG] at UR;simp [Kd.int,Kd.scalar] at UR;rw [UR] at hq;revert hq;decide));clear hr hb hk)|(go_at_call 56;(with_reducible refine (kf.calls k _ _ Fa b1 b3 b4 w0 w2 Xu.out HS2.out HT2.out).mono ?_);rintro e w3 ⟨rfl,hr,hb,hk⟩;have HR3:=ja.mk hr;have HB3:=ja.mk hb;have bD:=ja.mk hk;clear hr hb hk));go_ret;refine ⟨rfl,?_,?_,HB3.out,?_⟩
 ·refine Kd.ze (Kd.SB HR2.out bD.out ?_) (fun k_ hk=>hk.elim (fun h=>.inl (.inl h.1)) (fun h=>.inr (Nat.le_trans HK.out.1 h)));rintro k_ hk ⟨_,_,hlt,q2,UR,TZ,DG⟩
  rcases hk with ⟨_,_,_,q,hq,cells,hc⟩|hk
  ·rw [hc] at DG;injection DG with DG
   injection DG with _ DG
   rw [← DG] at UR;simp [Kd.int,Kd.scalar] at hq;rw [hq] at UR;revert UR
   decide
  ·omega
 ·exact Kd.uj HR3.out (fun k_ hk=>hk.elim (fun h=>.inl (.inr h.1)) (fun h=>.inr (Nat.le_trans HK.out.1 (Nat.le_trans Vr.out.1 h))))
 ·exact (HK.out.WA Vr.out (fun k_ hk=>.inl (.inl hk.1))).WA bD.out (fun k_ hk=>.inl (.inr hk.1))
end Go.Proofs.Ytkigbdceceeenaa.P
end
