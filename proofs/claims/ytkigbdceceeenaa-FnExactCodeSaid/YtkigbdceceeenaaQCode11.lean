import Derived.Test.YtkigbdceceeenaaQCode1
import Derived.Test.YtkigbdceceeenaaQCode10
import Derived.Shelf.Abstract
import Derived.Outline
import Derived.RegionTactic
import Derived.StillTailTactics
import Derived.Test.YtkigbdceceeenaaQCode7
import Derived.Test.YtkigbdceceeenaaQCode6
set_option maxHeartbeats 8000000
set_option maxRecDepth 100000
section
namespace Go.Proofs.Ytkigbdceceeenaa.P
open Go.RowKit Go.Proofs.Oa.Rb Go.Proofs.Oa.Pd Go.Proofs.Oa.Re
set_option linter.unusedVariables false
set_option linter.unusedSimpArgs false
attribute [local go_sem] Mh ki rj Kj th qh ni ji
def Wb.l0:Nat→List Bool→List Bool→Int→Int→Option (Bool)
 | 0,_,_,_,_=>none
 | k + 1,x0,x1,x12,x13=>if x13 < x12 then (if 0 ≤ x13 then (if x13 < (x0.length:Int) then (if x13 < (x1.length:Int) then (if ((Kg false x0 x13) != (Kg false x1 x13))=true then (some false) else (Wb.l0 k x0 x1 x12 (wrap64 (x13 + 1)))) else (none)) else (none)) else (none)) else (some true)
def Wb.f (k:Nat) (l0:List Bool) (l1:List Bool):Option (Bool):=if (l0.length:Int)=(l1.length:Int) then (Wb.l0 k l0 l1 (l0.length:Int) 0) else (some false)
theorem Wb.ME:∀ k,(∀ y0 y1 y2 y3,jn (Wb.l0 k y0 y1 y2 y3) (Wb.l0 (k + 1) y0 y1 y2 y3))
 | 0=>fun _ _ _ _ r h=>by simp [Wb.l0] at h
 | k + 1=>by
  have yU:=Wb.ME k
  ·intro y0 y1 y2 y3;unfold Wb.l0
   repeat' first
   | (with_reducible exact yU _ _ _ _)
   | (with_reducible exact jn.refl _)
   | (with_reducible exact jn.none _)
   | (with_reducible refine jn.ite ?_ ?_)
   | (with_reducible refine jn.bind ?_ (fun _=>?_))
   | exact yU _ _ _ _
   | exact jn.none _
   | refine jn.ite ?_ ?_
   | refine jn.bind ?_ (fun _=>?_)
theorem Wb.mono:∀ a0 a1 k,jn (Wb.f k a0 a1) (Wb.f (k + 1) a0 a1):=by
 intro a0 a1 k;have yU:=Wb.ME k;unfold Wb.f
 repeat' first
   | (with_reducible exact yU _ _ _ _)
   | (with_reducible exact jn.refl _)
   | (with_reducible exact jn.none _)
   | (with_reducible refine jn.ite ?_ ?_)
   | (with_reducible refine jn.bind ?_ (fun _=>?_))
   | exact yU _ _ _ _
   | exact jn.none _
   | refine jn.ite ?_ ?_
   | refine jn.bind ?_ (fun _=>?_)
theorem Wb.calls (k:Nat) (A0:Option Addr) (c0:Nat) (l0:List Bool) (A1:Option Addr) (c1:Nat) (l1:List Bool) (r:Bool) (w:World) (Tk:Kd.C Kd.bool w A0 l0.length l0) (hc0:l0.length ≤ c0) (Hu:Kd.C Kd.bool w A1 l1.length l1) (Qp:l1.length ≤ c1) (h:Wb.f k l0 l1=some r) :
  Calls Try.prog 80 #[.slice A0 l0.length c0,.slice A1 l1.length c1] w fun e w'=>e = .returned (.bool r)∧nc w w':=by
 have ij:=aa.mk Tk;have nH:=aa.mk hc0;clear Tk hc0;have pE:=aa.mk Hu;have QF:=aa.mk Qp;clear Hu Qp;have H:(if (l0.length:Int)=(l1.length:Int) then (Wb.l0 k l0 l1 (l0.length:Int) 0) else (some false))=some r:=h;clear h
 by_cases c3:(l0.length:Int)=(l1.length:Int)
 ·rw [if_pos c3] at H;have jh:=beq_iff_eq.mpr c3;have qo:=bne_eq_false_iff_eq.mpr c3;have IA:(l0.length == l1.length)=true:=by first|simpa using c3|(simp at c3 ⊢;omega)
  clear c3;have H':=aa.mk H;clear H;go_enter Try.func80,Try.ntmps80;go_wp2
  repeat (go_quiet (fail);try go_wp2)
  go_loopg [13] k (fun kq v13 w'=>∃ (Sg:Int),v13 = .int .i64 Sg∧aa (Wb.l0 kq l0 l1 (l0.length:Int) Sg=some r)∧aa (kq ≤ k)∧nc w w')
  case atStart=>exact ⟨(0),saK,H',⟨Nat.le_refl _⟩,vaK⟩
  case round =>
   clear H'
   try clear c1
   try clear p2
   try clear c3
   try clear jh
   try clear qo
   try clear IA
   (try clear HA);(try clear Vg);obtain ⟨Sg,rfl,HA,Vg,⟨m1,rfl⟩⟩:=hrel;cases gk with
   | zero=>exact absurd HA.out (by simp [Wb.l0])
   | succ k1 =>
    have H:=HA.out;clear HA;simp only [Wb.l0] at H
    by_cases c4:Sg < (l0.length:Int)
    ·rw [if_pos c4] at H;have mj:decide (Sg < (l0.length:Int))=true:=decide_eq_true c4;clear c4
     by_cases c5:0 ≤ Sg
     ·rw [if_pos c5] at H;have Tl:decide (0 ≤ Sg)=true:=decide_eq_true c5;clear c5
      by_cases c6:Sg < (l0.length:Int)
      ·rw [if_pos c6] at H;have vn:decide (Sg < (l0.length:Int))=true:=decide_eq_true c6;clear c6
       by_cases c7:Sg < (l1.length:Int)
       ·rw [if_pos c7] at H;have Yl:decide (Sg < (l1.length:Int))=true:=decide_eq_true c7;clear c7
        by_cases c8:((Kg false l0 Sg) != (Kg false l1 Sg))=true
        ·rw [if_pos c8] at H;have Kp:((Kg false l0 Sg) != (Kg false l1 Sg))=true:=c8;(try (have AG:decide ((Kg false l0 Sg)=(Kg false l1 Sg))=false:=by simpa using c8));(try (have cal:((Kg false l0 Sg) == (Kg false l1 Sg))=false:=by simpa using c8));(try (have LaH:¬ ((Kg false l0 Sg)=(Kg false l1 Sg)):=by simpa using c8));clear c8;obtain rfl:=Option.some.inj H;have Ge:0 ≤ (Sg:Int):=Va;have Fe:Sg < (l0.length:Int):=Va;obtain ⟨od,xh,yd⟩:=Kd.wu ij.out Sg Ge Fe;cases xh;replace Ge:=eq_true Ge;replace Fe:=eq_true Fe;have Dg:0 ≤ (Sg:Int):=Va;have Cg:Sg < (l1.length:Int):=Va;obtain ⟨Td,Sl,ue⟩:=Kd.wu pE.out Sg Dg Cg;cases Sl;replace Dg:=eq_true Dg;replace Cg:=eq_true Cg;go_wp2
         repeat (go_quiet (fail);try go_wp2)
         go_ret;exact ⟨DaK,vaK⟩
        ·rw [if_neg c8] at H;have Kp:((Kg false l0 Sg) != (Kg false l1 Sg))=false:=by simpa using c8
         (try (have AG:decide ((Kg false l0 Sg)=(Kg false l1 Sg))=true:=by simpa using c8));(try (have cal:((Kg false l0 Sg) == (Kg false l1 Sg))=true:=by simpa using c8));clear c8;have H':=aa.mk H;clear H;have Ge:0 ≤ (Sg:Int):=Va;have Fe:Sg < (l0.length:Int):=Va;obtain ⟨od,xh,yd⟩:=Kd.wu ij.out Sg Ge Fe;cases xh;replace Ge:=eq_true Ge;replace Fe:=eq_true Fe;have Dg:0 ≤ (Sg:Int):=Va;have Cg:Sg < (l1.length:Int):=Va;obtain ⟨Td,Sl,ue⟩:=Kd.wu pE.out Sg Dg Cg;cases Sl;replace Dg:=eq_true Dg;replace Cg:=eq_true Cg;go_wp2
         repeat (go_quiet (fail);try go_wp2)
         go_roundg k1
         case measure=>have:=Vg.out;omega
         case rel=>exact ⟨(wrap64 (Sg + 1)),saK,H',⟨by have:=Vg.out;omega⟩,vaK⟩
       ·rw [if_neg c7] at H;exact absurd H (by simp)
      ·rw [if_neg c6] at H;exact absurd H (by simp)
     ·rw [if_neg c5] at H;exact absurd H (by simp)
    ·rw [if_neg c4] at H;have mj:decide (Sg < (l0.length:Int))=false:=decide_eq_false c4;clear c4;obtain rfl:=Option.some.inj H;go_wp2
     repeat (go_quiet (fail);try go_wp2)
     go_ret;exact ⟨DaK,vaK⟩
 ·rw [if_neg c3] at H;have jh:=beq_eq_false_iff_ne.mpr c3;have qo:=bne_iff_ne.mpr c3;have IA:(l0.length == l1.length)=false:=by first|simpa using c3|(simp at c3 ⊢;omega)
  obtain rfl:=Option.some.inj H;go_enter Try.func80,Try.ntmps80;go_wp2
  repeat (go_quiet (fail);try go_wp2)
  go_ret;exact ⟨DaK,vaK⟩
theorem VS (a b:List Bool) (hl:a.length=b.length) (hm:a.length ≤ 1048576):∀ (d i:Nat),i + d=a.length→Ev (fun k=>Wb.l0 k a b (a.length:Int) (i:Int)) (decide (a.drop i=b.drop i)):=by
 intro d
 induction d with
 | zero =>
  intro i hd;rw [List.drop_eq_nil_of_le (by omega),List.drop_eq_nil_of_le (by omega)];refine Ev.step (fun k=>by rw [Wb.l0]) ?_;exact Ev.neg (by omega) (Ev.now _)
 | succ d ih =>
  intro i hd;have h1:i < a.length:=by omega
  have h2:i < b.length:=by omega
  have ea:Kg false a (i:Int)=a[i]:=by simp [Kg,h1]
  have eb:Kg false b (i:Int)=b[i]:=by simp [Kg,h2]
  refine Ev.step (fun k=>by rw [Wb.l0]) ?_;refine Ev.pos (by omega) (Ev.pos (by omega) (Ev.pos (by omega) (Ev.pos (by omega) ?_)));rw [ea,eb,Kf h1 (by omega)]
  by_cases he:a[i]=b[i]
  ·refine Ev.neg (by rw [he];simp) ?_
   have e:decide (a.drop i=b.drop i)=decide (a.drop (i + 1)=b.drop (i + 1)):=by
    rw [List.drop_eq_getElem_cons h1,List.drop_eq_getElem_cons h2,he];exact decide_eq_decide.2 ⟨fun h=>(List.cons.inj h).2,fun h=>by rw [h]⟩
   rw [e];exact ih (i + 1) (by omega)
  ·refine Ev.pos (by simpa using he) ?_
   have e:decide (a.drop i=b.drop i)=false:=decide_eq_false (fun h=>by
    rw [List.drop_eq_getElem_cons h1,List.drop_eq_getElem_cons h2] at h
    exact he (List.cons.inj h).1)
   rw [e];exact Ev.now _
theorem jac (a b:List Bool) (hm:a.length ≤ 1048576):Ev (fun k=>Wb.f k a b) (decide (a=b)):=by
 unfold Wb.f
 by_cases hl:a.length=b.length
 ·exact Ev.pos (by omega) (VS a b hl hm a.length 0 (by omega))
 ·rw [decide_eq_false (fun e=>hl (by rw [e]))];exact Ev.neg (by omega) (Ev.now _)
noncomputable def Im.f (Ua:List Int) (Pa:Int) (Ra:Int) (Sa:Int) (Fa:List (Ff)):Option (List (List Bool)):=open Classical in if 0 ≤ Sa∧PA Fa Sa.toNat then some (Qm Fa Sa.toNat) else none
theorem Im.calls (yb:Option Addr) (zb:Nat) (Ua:List Int) (Pa:Int) (Ra:Int) (Sa:Int) (fc:Option Addr) (Qb:Nat) (Fa:List (Ff)) (r:List (List Bool)) (w:World) (jf:Kd.C (Kd.int .i64) w yb Ua.length Ua) (Ze:Ua.length ≤ zb) (Lg:Kd.C Wr w fc Fa.length Fa) (Ig:Fa.length ≤ Qb) (h:Im.f Ua Pa Ra Sa Fa=some r) :
  Calls Try.prog 47 #[.agg #[.slice yb Ua.length zb,.int .i64 Pa,.int .i64 Ra,.int .i64 Sa,.slice fc Fa.length Qb]] w fun e w'=>∃ Zn:Value,e = .returned (Zn)∧Kd.S (Kd.slice 4 Kd.bool) 60 w' w.heap.size (fun _=>True) Zn r∧Below w.heap.size w w':=by
 unfold Im.f at h
 by_cases hf:0 ≤ Sa∧PA Fa Sa.toNat
 case neg=>rw [if_neg hf] at h;cases h
 rw [if_pos hf] at h;obtain rfl:=Option.some.inj h;obtain ⟨hn0,hO⟩:=hf;obtain ⟨n,rfl⟩:∃ n:Nat,Sa=(n:Int):=⟨Sa.toNat,(Int.toNat_of_nonneg hn0).symm⟩;have FX:=aa.mk (show Qm Fa ((n:Int)).toNat=Qm Fa n from by rw [Int.toNat_natCast]);rw [Int.toNat_natCast] at hO;clear h hn0;have HO:=aa.mk hO;have hn:n ≤ 1048576:=hO.2.1;have hm0:0 < Fa.length:=hO.1.1;have hm1:Fa.length ≤ 1048576:=hO.1.2.1;clear hO;obtain ⟨W1,Eg⟩:∃ W1,W1=((w.alloc (.cells #[.slice yb Ua.length zb,.int .i64 Pa,.int .i64 Ra,.int .i64 (n:Int),.slice fc Fa.length Qb] 30 (0,0))).alloc (.cells #[] 60 (0,0))).alloc (.cells #[] 60 (0,0)):=⟨_,rfl⟩;have HW:=aa.mk Eg
 have HA:=aa.mk (show Hs w (n7 yb Ua.length zb Pa Ra n fc Fa.length Qb) (fun k=>k=w.heap.size + 1) (.slice (some ⟨w.heap.size + 1,0,none⟩) 0 0) (.slice (some ⟨w.heap.size + 2,0,none⟩) 0 0) [] [] W1 from by
  have z1:(w.alloc (.cells #[.slice yb Ua.length zb,.int .i64 Pa,.int .i64 Ra,.int .i64 (n:Int),.slice fc Fa.length Qb] 30 (0,0))).heap.size=w.heap.size + 1:=by simp
  have b1:=kg w (.cells #[.slice yb Ua.length zb,.int .i64 Pa,.int .i64 Ra,.int .i64 (n:Int),.slice fc Fa.length Qb] 30 (0,0));have e1:=ia (Below.refl w.heap.size w) (.cells #[.slice yb Ua.length zb,.int .i64 Pa,.int .i64 Ra,.int .i64 (n:Int),.slice fc Fa.length Qb] 30 (0,0));rw [Eg];generalize w.alloc (.cells #[.slice yb Ua.length zb,.int .i64 Pa,.int .i64 Ra,.int .i64 (n:Int),.slice fc Fa.length Qb] 30 (0,0))=u1 at z1 b1 e1 ⊢;have z2:(u1.alloc (.cells #[] 60 (0,0))).heap.size=w.heap.size + 2:=by simp [z1]
  have s1:=uM (Kd.slice 4 Kd.bool) 60 u1 w.heap.size (by omega);have e2:=ia (Below.refl u1.heap.size u1) (.cells #[] 60 (0,0));rw [z1] at s1;generalize u1.alloc (.cells #[] 60 (0,0))=u2 at z2 s1 e2 ⊢;have s2:=uM (Kd.slice 4 Kd.bool) 60 u2 w.heap.size (by omega);have e3:=ia (Below.refl u2.heap.size u2) (.cells #[] 60 (0,0));have z3:(u2.alloc (.cells #[] 60 (0,0))).heap.size=w.heap.size + 3:=by simp [z2]
  rw [z2] at s2
  exact ⟨Ma (Ma e1 e2) e3,Na (Na b1 e2) e3,Kd.zi s1 e3,Kd.dn s2 (fun k hk=>⟨by omega,by omega⟩),fun k hk=>⟨by omega,by omega⟩⟩)
 have zT:=aa.mk Lg;have uY:=aa.mk Ig;clear Eg jf Lg Ze Ig;go_enter Try.func47,Try.ntmps47
 go_upto_region 2 with (fail)
 rw [← HW.out];clear HW;have Nu:=lU HA.out;go_wp2;clear Nu
 go_loopg [3,4,19] Fa.length (fun gg v3 v4 v19 wr=>∃ (j:Nat) (PB:Nat→Prop),j ≤ Fa.length∧Fa.length - j ≤ gg∧v19 = .int .i64 j∧aa (Hs w (n7 yb Ua.length zb Pa Ra n fc Fa.length Qb) PB v3 v4 (List.replicate j (List.replicate n false)) (List.replicate j (List.replicate n false)) wr))
 case atStart=>exact ⟨0,_,Nat.zero_le _,by omega,rfl,HA⟩
 case round =>
  clear HA;(try clear PB);(try clear HA);obtain ⟨j,PB,hj,hgg,rfl,HA⟩:=hrel
  by_cases hlt:j < Fa.length
  ·have NS:decide ((j:Int) < (Fa.length:Int))=true:=decide_eq_true (by omega);have WA:=m7 HA.out;have h0n:(0:Int) ≤ (n:Int):=by omega
   have HMK:=aa.mk (show ((n:Int)).toNat * 1 ≤ 281474976710656 from by omega);have HLL:=aa.mk (show ((List.replicate j (List.replicate n false)).length + 1) * 24 ≤ 140737488355328 from by rw [List.length_replicate];omega)
   go_upto_region 5 with (first|((with_reducible refine Za (N:=24) rfl ?_);refine Kd.yF Kd.bool (w0:=wr) wr.heap.size 4 rfl (N:=24) rfl 60 _ _ rfl (n:Int) rfl rfl Try.underlying60 (.bool false) 1 zL rfl (by decide) (by omega) false (ok:=fun k=>wr.heap.size ≤ k) (Sh:=fun k=>wr.heap.size ≤ k) rfl (fun _ hk=>hk) (Nat.le_refl _) h0n HMK.out (Below.refl _ _) (Nat.le_refl _) ?_;intro v24 Xv ho hb hg hat;rw [Int.toNat_natCast] at ho;obtain ⟨A24,VM,rfl⟩:=Kd.Lc ho;have Tam:=aa.mk (j7 ho HA.out.bl.size);simp only [List.length_replicate] at Tam;have dae:=aa.mk hb;have Jam:=aa.mk (Ma HA.out.bl hb);clear ho hb hg hat WA)|((with_reducible refine Za (N:=26) rfl ?_);refine Kd.vM (Kd.slice 4 Kd.bool) (w0:=w) w.heap.size rfl (.tmp 21) (.tmp 25) 55 60 (.slice none 0 0) 24 rfl Try.underlying55 wU rfl (by decide) (by omega) _ (List.replicate j (List.replicate n false)) (List.replicate n false) _ (fun k=>PB k ∨ wr.heap.size ≤ k) (fun k=>wr.heap.size ≤ k) rfl rfl Tam.out HA.out.neX (HA.out.frX dae.out) (HA.out.okX dae.out) Jam.out Jam.out.size HLL.out ?_;intro v26 Cn hs hb hg hat;have HA1:=aa.mk (HA.out.Zaz dae.out hs hb hg);clear hs hb hg hat))
   have WA:=m7 HA1.out
   go_upto_region 6 with (first|((with_reducible refine Za (N:=30) rfl ?_);refine Kd.yF Kd.bool (w0:=Cn) Cn.heap.size 4 rfl (N:=30) rfl 60 _ _ rfl (n:Int) rfl rfl Try.underlying60 (.bool false) 1 zL rfl (by decide) (by omega) false (ok:=fun k=>Cn.heap.size ≤ k) (Sh:=fun k=>Cn.heap.size ≤ k) rfl (fun _ hk=>hk) (Nat.le_refl _) h0n HMK.out (Below.refl _ _) (Nat.le_refl _) ?_;intro v30 fG ho hb hg hat;rw [Int.toNat_natCast] at ho;obtain ⟨Qx,UM,rfl⟩:=Kd.Lc ho;have Sam:=aa.mk (j7 ho HA1.out.bl.size);simp only [List.length_replicate] at Sam;have cae:=aa.mk hb;have Iam:=aa.mk (Ma HA1.out.bl hb);clear ho hb hg hat WA)|((with_reducible refine Za (N:=32) rfl ?_);refine Kd.vM (Kd.slice 4 Kd.bool) (w0:=w) w.heap.size rfl (.tmp 27) (.tmp 31) 55 60 (.slice none 0 0) 24 rfl Try.underlying55 wU rfl (by decide) (by omega) _ (List.replicate j (List.replicate n false)) (List.replicate n false) _ _ (fun k=>Cn.heap.size ≤ k) rfl rfl Sam.out HA1.out.neY (HA1.out.frY cae.out) (HA1.out.okY cae.out) Iam.out Iam.out.size HLL.out ?_;intro v32 WO hs hb hg hat;have HA2:=aa.mk (HA1.out.Yaz cae.out hs hb hg);clear hs hb hg hat))
   go_wp2
   go_roundg (Fa.length - (j + 1))
   case measure=>omega
   case rel =>
    have h2:=HA2.out;rw [← List.replicate_succ'] at h2;exact ⟨j + 1,_,by omega,by omega,by go_num,⟨h2⟩⟩
  ·have NS:decide ((j:Int) < (Fa.length:Int))=false:=decide_eq_false (by omega);have hje:j=Fa.length:=by omega
   have ha:=HA.out;rw [hje] at ha;obtain ⟨gX,cX,gY,cY,rfl,rfl⟩:=ha.forms hm0;clear HA;have HA:=aa.mk ha;clear ha hje hgg hj;have HV:=aa.mk (aG.start Fa n);generalize List.replicate Fa.length (List.replicate n false)=X0 at HA HV;have HM0:=aa.mk HV.out.cnt;go_wp2;clear hlt NS
   go_loopg [5] (n * Fa.length + 1) (fun gg v5 wr=>∃ (X Y:List (List Bool)) (a:Bool),v5 = .bool a∧n * Fa.length - Sp Y + (if a=true then 1 else 0) ≤ gg∧aa (aG Fa n X Y)∧aa (a=false→∀ i,i < Fa.length→StE Fa X Y i)∧aa (Hs w (n7 yb Ua.length zb Pa Ra n fc Fa.length Qb) PB (.slice (some ⟨gX,0,none⟩) Fa.length cX) (.slice (some ⟨gY,0,none⟩) Fa.length cY) X Y wr))
   case atStart=>exact ⟨X0,X0,true,rfl,by rw [if_pos rfl];omega,HV,⟨fun e=>by cases e⟩,HA⟩
   case round =>
    clear HV HA HM0;(try clear X);(try clear Y);(try clear HV);(try clear HST);(try clear HA);obtain ⟨X,Y,a,rfl,hgg,HV,HST,HA⟩:=hrel;cases a with
    | false =>
     have HDN:=aa.mk (HV.out.done HO.out (HST.out rfl));go_wp2;go_ret;exact ⟨_,rfl,by rw [← HDN.out];exact Kd.dn HA.out.x (fun _ _=>trivial),HA.out.bl⟩
    | true =>
     have Hag:=hgg;rw [if_pos rfl] at Hag;have HS:=aa.mk (show LvS Fa X Y (Sp Y) false Fa.length from ⟨Nat.le_refl _,(fun e=>by cases e),(fun _ k h1 h2=>by omega)⟩);clear HST hgg;generalize Sp Y=C at HS Hag;have Nu:=lU HA.out;have qZ:wrap64 ((Fa.length:Int) - 1)=(Fa.length:Int) - 1:=by unfold wrap64;omega
     have b6:=aa.mk qZ;clear qZ;go_wp2;clear Nu
     go_loopg [5,6] Fa.length (fun g3 v5 v6 wr=>∃ (z:Int) (q:Nat) (X Y:List (List Bool)) (a:Bool),v5 = .bool a∧v6 = .int .i64 z∧z + 1=(q:Int)∧q ≤ Fa.length∧q ≤ g3∧aa (aG Fa n X Y)∧aa (LvS Fa X Y C a q)∧aa (Hs w (n7 yb Ua.length zb Pa Ra n fc Fa.length Qb) PB (.slice (some ⟨gX,0,none⟩) Fa.length cX) (.slice (some ⟨gY,0,none⟩) Fa.length cY) X Y wr))
     case atStart=>exact ⟨(Fa.length:Int) - 1,Fa.length,X,Y,false,rfl,by first|rfl|(go_simp;done)|exact congrArg _ b6.out|go_num,by omega,Nat.le_refl _,Nat.le_refl _,HV,HS,HA⟩
     case round =>
      clear HV HS HA;(try clear X);(try clear Y);(try clear HV);(try clear HS);(try clear HA);obtain ⟨z,q,X,Y,a,rfl,rfl,hz,hq,wI,HV,HS,HA⟩:=hrel
      by_cases hz0:0 ≤ z
      ·obtain ⟨i,rfl⟩:∃ i:Nat,z=(i:Int):=⟨z.toNat,(Int.toNat_of_nonneg hz0).symm⟩;obtain rfl:q=i + 1:=by omega
       have hi:i < Fa.length:=by omega
       have hzb:decide ((i:Int) ≥ 0)=true:=decide_eq_true (by omega);obtain ⟨ag,Ac,cc,e1,hc0,Qp,dF,YF,Z4,tB,hcC⟩:=Bj zT.out (i:Int) (by omega) (by omega);subst e1;have Nu:=lU HA.out;simp only [Int.toNat_natCast] at hc0 Qp dF YF Z4;have HCC:=aa.mk hcC;have I6:=aa.mk tB;replace hc0:=Xh hc0 (Kept.xj HA.out.bl (fun _=>False)) id;replace Qp:=Xh Qp (Kept.xj HA.out.bl (fun _=>False)) id;replace dF:=Xh dF (Kept.xj HA.out.bl (fun _=>False)) id;replace YF:=Xh YF (Kept.xj HA.out.bl (fun _=>False)) id;replace Z4:=Xh Z4 (Kept.xj HA.out.bl (fun _=>False)) id;have q1:0 ≤ (i:Int):=by omega
       have q2:(i:Int) < (Fa.length:Int):=by omega
       have Ram:=aa.mk (show Gm.f (Ia Fa (i:Int)).f0 (Ia Fa (i:Int)).f1 (Ia Fa (i:Int)).f2 (Ia Fa (i:Int)).f3 (Ia Fa (i:Int)).f4=some (Bu Fa i) from lS _);clear hcC tB
       go_upto_region 14 with (fail)
       have dac:=ia (Below.refl wr.heap.size wr) (.cells #[.slice Ac (Ia Fa (i:Int)).f0.length cc,.int .i64 (Ia Fa (i:Int)).f1,.int .i64 (Ia Fa (i:Int)).f2,.int .i64 (Ia Fa (i:Int)).f3,.int .i64 (Ia Fa (i:Int)).f4] 59 (0,0));have aab:=kg wr (.cells #[.slice Ac (Ia Fa (i:Int)).f0.length cc,.int .i64 (Ia Fa (i:Int)).f1,.int .i64 (Ia Fa (i:Int)).f2,.int .i64 (Ia Fa (i:Int)).f3,.int .i64 (Ia Fa (i:Int)).f4] 59 (0,0));generalize wr.alloc (.cells #[.slice Ac (Ia Fa (i:Int)).f0.length cc,.int .i64 (Ia Fa (i:Int)).f1,.int .i64 (Ia Fa (i:Int)).f2,.int .i64 (Ia Fa (i:Int)).f3,.int .i64 (Ia Fa (i:Int)).f4] 59 (0,0))=Ep at dac aab ⊢;have P6:=aa.mk (HA.out.below dac);have Lu:=aa.mk aab;have HPQ:=aa.mk (show ¬ PB wr.heap.size from fun e=>by have:=(HA.out.pb _ e).2;omega);have K6:=aa.mk (Kd.Kb HCC.out P6.out.bl);clear dac aab HA Nu hc0 Qp dF YF Z4 q1 q2 hzb hz0;generalize wr.heap.size=q7 at Lu HPQ ⊢;have h70:=(ja Lu.out 0).trans rfl;have h71:=(ja Lu.out 1).trans rfl;have h72:=(ja Lu.out 2).trans rfl;have h73:=(ja Lu.out 3).trans rfl;have h74:=(ja Lu.out 4).trans rfl;have htl:(Bu Fa i).length ≤ 2:=GV _;go_wp2_with (first|(go_at_call 78;(with_reducible refine (Gm.calls Ac cc (Ia Fa (i:Int)).f0 (Ia Fa (i:Int)).f1 (Ia Fa (i:Int)).f2 (Ia Fa (i:Int)).f3 (Ia Fa (i:Int)).f4 (Bu Fa i) Ep K6.out I6.out Ram.out).mono ?_);rintro e Ho ⟨v15,rfl,ho,hb⟩;obtain ⟨An,cn,rfl⟩:=Kd.Lc ho;have Nam:=aa.mk ho;have mT:=aa.mk hb;clear ho hb h70 h71 h72 h73 h74));have zan:=aa.mk (P6.out.below mT.out);have Kam:=aa.mk (Na Lu.out mT.out);have HNC:=aa.mk (Kd.SF (S:=PB) (Kd.yc (Kd.Xf Nam.out) (fun k hk=>hk.2.1)) (fun k hk e=>by have:=(P6.out.pb k e).2;omega));have HR:=aa.mk (show LvR Fa n X Y i X from ⟨HV.out,fun _ _=>rfl⟩);have HT:=aa.mk (show rY (Bu Fa i) 0 Y X i from fun t ht=>by simp at ht);clear P6 Nam mT K6 Lu Ram
       go_loopg [51] (Bu Fa i).length (fun g4 v51 wr=>∃ (j:Nat) (X':List (List Bool)),v51 = .int .i64 j∧j ≤ (Bu Fa i).length∧(Bu Fa i).length - j ≤ g4∧aa (LvR Fa n X Y i X')∧aa (rY (Bu Fa i) j Y X' i)∧aa (Hs w (n7 yb Ua.length zb Pa Ra n (some ag) Fa.length Qb) PB (.slice (some ⟨gX,0,none⟩) Fa.length cX) (.slice (some ⟨gY,0,none⟩) Fa.length cY) X' Y wr)∧aa (Kept Ho wr PB))
       case atStart=>exact ⟨0,X,rfl,Nat.zero_le _,by omega,HR,HT,zan,⟨Kept.refl _ _⟩⟩
       case round =>
        clear HR HT zan;(try clear X);(try clear HR);(try clear HT);(try clear HA);(try clear HK);obtain ⟨j,X',rfl,hj,SK,HR,HT,HA,HK⟩:=hrel
        by_cases hjt:j < (Bu Fa i).length
        ·have gab:decide ((j:Int) < ((Bu Fa i).length:Int))=true:=decide_eq_true (by omega);have r1:0 ≤ (j:Int):=by omega
         have r2:(j:Int) < ((Bu Fa i).length:Int):=by omega
         obtain ⟨an,tn,e1,ht,htn,hx⟩:=jZ HO.out.1 hi hjt (HNC.out wr HK.out);subst e1;have HTN:=aa.mk ht;have HTM:=aa.mk (List.getElem_mem hjt);obtain ⟨Ay,cy,hcy,hfy,hly,hCy,hKy⟩:=HA.out.RY htn;have E6:=aa.mk hKy;have HYN:=aa.mk (HV.out.yr tn htn);have hyn:(Zf Y tn).length ≤ 1048576:=by have:=HYN.out;omega
         have t1:0 ≤ (tn:Int):=by omega
         have t2:(tn:Int) < (Fa.length:Int):=by omega
         have HTS:=aa.mk (show TkS tn 0 Y X' i from fun u hu=>by omega);clear ht hCy hKy hfy;go_wp2;clear hcy hx t1 t2 r1 r2 gab
         go_loopg [60] (Zf Y tn).length (fun g5 v60 wr=>∃ (s:Nat) (xT:List (List Bool)),v60 = .int .i64 s∧s ≤ (Zf Y tn).length∧(Zf Y tn).length - s ≤ g5∧aa (LvR Fa n X Y i xT)∧aa (rY (Bu Fa i) j Y xT i)∧aa (TkS tn s Y xT i)∧aa (Hs w (n7 yb Ua.length zb Pa Ra n (some ag) Fa.length Qb) PB (.slice (some ⟨gX,0,none⟩) Fa.length cX) (.slice (some ⟨gY,0,none⟩) Fa.length cY) xT Y wr)∧aa (Kept Ho wr PB)∧aa (∀ W,Kept wr W PB→Kd.C Kd.bool W Ay (Zf Y tn).length (Zf Y tn)))
         case atStart=>exact ⟨0,X',rfl,Nat.zero_le _,by omega,HR,HT,HTS,HA,HK,E6⟩
         case round =>
          clear HR HT HTS HA HK E6;(try clear X);(try clear HR);(try clear HT);(try clear HTS);(try clear HA);(try clear HK);(try clear E6);obtain ⟨s,xT,rfl,hs,hg5,HR,HT,HTS,HA,HK,E6⟩:=hrel
          by_cases hst:s < (Zf Y tn).length
          ·have Zax:decide ((s:Int) < ((Zf Y tn).length:Int))=true:=decide_eq_true (by omega);have s1:0 ≤ (s:Int):=by omega
           have s2:(s:Int) < ((Zf Y tn).length:Int):=by omega
           have hxl:(Zf xT i).length=(Zf Y tn).length:=by rw [HYN.out,HR.out.inv.xr i hi]
           have s3:(s:Int) < ((Zf xT i).length:Int):=by omega
           have HXL:=aa.mk hxl;have i1:0 ≤ (i:Int):=by omega
           have i2:(i:Int) < (Fa.length:Int):=by omega
           obtain ⟨ay,e2,hy⟩:=kZ (E6.out wr (Kept.refl _ _)) hst;subst e2;obtain ⟨gi,ci,hcx,hce,hfz,hpg,hput⟩:=(HA.out.below (Jh (Below.refl wr.heap.size wr))).Cax hi (show s < (Zf xT i).length by omega);have W4:wr.cell? ⟨gX,i,none⟩=some (.slice (some ⟨gi,0,none⟩) (Zf xT i).length ci):=hcx;have X4:wr.cell? ⟨gi,s,none⟩=some (.bool (seen (Zf xT i) s)):=hce;obtain ⟨Hu,hr2,E7⟩:=HR.out.step HO.out.1 hi HTM.out HTN.out (by have:=HYN.out;omega) HT.out HTS.out;have HPG:=aa.mk hpg;clear hxl hpg;cases hold:seen (Zf xT i) s with
           | true =>
            rw [hold,Bool.true_or] at Hu hr2 E7;rw [hold] at X4 hce;have HP:=aa.mk (hput true);have HRS:=aa.mk (And.intro Hu (And.intro hr2 E7));have J6:=aa.mk (And.intro hce hfz);clear Hu hr2 E7 hput hcx hce hfz hold
            go_upto_region 20 with (fail)
            go_still_tail 16,(by kernel_rfl)
            have Vg:=aa.mk ((HK.out.drew).setCell (p:=⟨gi,s,none⟩) (Or.inl HPG.out) (.bool true));have JX:=aa.mk (Kd.tC E6.out (((Kept.refl wr PB).drew).setCell (p:=⟨gi,s,none⟩) (Or.inl HPG.out) (.bool true)));obtain ⟨hce,hfz⟩:=J6.out;have J6:=aa.mk hce;clear W4 X4 hy HA HK E6
            change wpList _ _ _ _ _ wr.drew
            generalize wr.drew=wd at HP Vg JX hce hfz ⊢;go_wp2
            go_roundg ((Zf Y tn).length - (s + 1))
            case measure=>omega
            case rel=>exact ⟨s + 1,_,by go_num,by omega,by omega,⟨HRS.out.1⟩,⟨HRS.out.2.1⟩,⟨HRS.out.2.2⟩,HP,Vg,JX⟩
           | false =>
            rw [hold,Bool.false_or] at Hu hr2 E7;rw [hold] at X4 hce;have HP:=aa.mk (hput (seen (Zf Y tn) s));have HRS:=aa.mk (And.intro Hu (And.intro hr2 E7));have J6:=aa.mk (And.intro hce hfz);clear Hu hr2 E7 hput hcx hce hfz hold
            go_upto_region 20 with (fail)
            go_still_tail 16,(by kernel_rfl)
            have Vg:=aa.mk ((HK.out.drew).setCell (p:=⟨gi,s,none⟩) (Or.inl HPG.out) (.bool (seen (Zf Y tn) s)));have JX:=aa.mk (Kd.tC E6.out (((Kept.refl wr PB).drew).setCell (p:=⟨gi,s,none⟩) (Or.inl HPG.out) (.bool (seen (Zf Y tn) s))));obtain ⟨hce,hfz⟩:=J6.out;have J6:=aa.mk hce;clear W4 X4 hy HA HK E6
            change wpList _ _ _ _ _ wr.drew
            generalize wr.drew=wd at HP Vg JX hce hfz ⊢;go_wp2
            go_roundg ((Zf Y tn).length - (s + 1))
            case measure=>omega
            case rel=>exact ⟨s + 1,_,by go_num,by omega,by omega,⟨HRS.out.1⟩,⟨HRS.out.2.1⟩,⟨HRS.out.2.2⟩,HP,Vg,JX⟩
          ·have Zax:decide ((s:Int) < ((Zf Y tn).length:Int))=false:=decide_eq_false (by omega);have HTJ:=aa.mk (HT.out.next hjt HTN.out (by have h2:=HTS.out;rwa [show s=(Zf Y tn).length by omega] at h2));go_wp2
           go_roundg ((Bu Fa i).length - (j + 1))
           case measure=>omega
           case rel=>exact ⟨j + 1,xT,by go_num,by omega,by omega,HR,HTJ,HA,HK⟩
        ·have gab:decide ((j:Int) < ((Bu Fa i).length:Int))=false:=decide_eq_false (by omega);have HTJ:=aa.mk (show rY (Bu Fa i) (Bu Fa i).length Y X' i by have h2:=HT.out;rwa [show j=(Bu Fa i).length by omega] at h2);obtain ⟨wk,rfl⟩:∃ wk,wk=wr:=⟨_,rfl⟩;have HQK:=aa.mk (Sd Kam.out HK.out HPQ.out);have HQL:=aa.mk (Tb HQK.out);have HLR:=aa.mk (HR.out.inv.xr i hi);obtain ⟨Ax,cx,hcx,hCx,hlx⟩:=HA.out.yax hi;have HBE:=aa.mk (ia (Below.refl wk.heap.size wk) (.cells #[] 4 (0,0)));have HCX:=aa.mk (Kd.Kb hCx HBE.out);have HEM:=aa.mk (mE Kd.bool 4 wk wk.heap.size (Nat.le_refl _));have sY:=aa.mk (show (([]:List Bool).length + (Zf X' i).length) * 1 ≤ 140737488355328 from by have:=HLR.out;simp;omega);have W4:=Xh hcx (Kept.xj HBE.out (fun _=>False)) id;have i1:0 ≤ (i:Int):=by omega
         have i2:(i:Int) < (Fa.length:Int):=by omega
         clear hCx HK HNC HT Kam
         go_upto_region 24 with (first|((with_reducible refine Za (N:=88) rfl ?_);refine Kd.Uh Kd.bool (w0:=wk) wk.heap.size rfl (.tmp 83) (.tmp 87) 60 4 (.bool false) 1 rfl Try.underlying60 zL rfl (by decide) (by omega) (.slice (some ⟨wk.heap.size,0,none⟩) 0 0) [] (Zf X' i) Ax (Zf X' i).length cx (fun _=>True) (fun _=>False) rfl rfl HEM.out HCX.out (fun _ _ h=>h) (fun _ hk=>hk.elim) (fun _ _=>trivial) HBE.out HBE.out.size sY.out ?_;intro v12 Ao ho wB KC hat;rw [List.nil_append] at ho;obtain ⟨As,cs,rfl⟩:=Kd.Lc ho;have j6:=aa.mk ho;have OK:=aa.mk wB;clear ho wB KC hat hcx W4))
         clear HBE HCX HEM sY hlx hjt gab hj SK i1 i2;have T_:=aa.mk (lB HO.out hi);have FG:=aa.mk (Na HQK.out OK.out);have h71:Ao.cell? ⟨q7,1,none⟩=some (.int .i64 (Ia Fa (i:Int)).f1):=(ja FG.out 1).trans rfl
         by_cases U1:(Ia Fa (i:Int)).f1=0
         case' pos =>
          have hfa:((Ia Fa (i:Int)).f1 == 0)=true:=beq_iff_eq.2 U1;have hfb:((Ia Fa (i:Int)).f1 != 0)=false:=by rw [U1];rfl
          have lT:=aa.mk (show Kd.R Kd.bool 4 Ao wk.heap.size (fun _=>True) (.slice As (Zf X' i).length cs) (Gu (Ia Fa (i:Int)) (Zf X' i)) from by rw [show Gu (Ia Fa (i:Int)) (Zf X' i)=Zf X' i from if_pos U1];exact j6.out);have WX:=OK;have GX:=FG
          go_upto_region 26 with (fail)
          clear h71 hfa hfb j6 OK FG U1;generalize Ao=Cn at lT WX GX ⊢
         case' neg =>
          have hfa:((Ia Fa (i:Int)).f1 == 0)=false:=beq_eq_false_iff_ne.2 U1;have hfb:((Ia Fa (i:Int)).f1 != 0)=true:=bne_iff_ne.2 U1;obtain ⟨f20,f21⟩:=T_.out.2.1 U1;obtain ⟨u,hu⟩:∃ u:Nat,(Ia Fa (i:Int)).f2=(u:Int):=⟨(Ia Fa (i:Int)).f2.toNat,(Int.toNat_of_nonneg f20).symm⟩;have hul:u < (Zf X' i).length:=by have:=HLR.out;omega
          have Uax:(u:Int) < ((Zf X' i).length:Int):=by omega
          have hu0:0 ≤ (u:Int):=by omega
          have h72:Ao.cell? ⟨q7,2,none⟩=some (.int .i64 (u:Int)):=by rw [← hu];exact (ja FG.out 2).trans rfl
          obtain ⟨gs,e3,hgs,hcs,hfs,hput⟩:=lad j6.out hul;obtain ⟨hr,hg⟩:=hput true;have lT:=aa.mk (show Kd.R Kd.bool 4 (Ao.setCell ⟨gs,u,none⟩ (.bool true)) wk.heap.size (fun _=>True) (.slice As (Zf X' i).length cs) (Gu (Ia Fa (i:Int)) (Zf X' i)) from by rw [show Gu (Ia Fa (i:Int)) (Zf X' i)=(Zf X' i).set u true from by unfold Gu;rw [if_neg U1,hu,Int.toNat_natCast]];exact hr);have WX:=aa.mk (OK.out.grown hg OK.out.size (fun k e=>by injection e with e;omega));have GX:=aa.mk (Mc FG.out hg (fun e=>by injection e with e;have:=HQL.out;omega));subst e3;clear hr hg hput f20 f21 hu hul
          go_upto_region 26 with (fail)
          clear h71 h72 hfa hfb j6 OK FG U1 hcs hfs hgs Uax hu0;generalize Ao.setCell ⟨gs,u,none⟩ (.bool true)=Cn at lT WX GX ⊢;generalize (some ⟨gs,0,none⟩:Option Addr)=As at lT ⊢
         all_goals
          have h70:Cn.cell? ⟨q7,0,none⟩=some (.slice Ac (Ia Fa (i:Int)).f0.length cc):=(ja GX.out 0).trans rfl;have tB:(Ia Fa (i:Int)).f0.length ≤ 1048576:=T_.out.1;have qZ:wrap64 (((Ia Fa (i:Int)).f0.length:Int) - 1)=((Ia Fa (i:Int)).f0.length:Int) - 1:=by unfold wrap64;omega
          have b6:=aa.mk qZ;clear qZ;go_wp2;clear h70
          go_loopg [13] (Ia Fa (i:Int)).f0.length (fun g6 v13 wr=>∃ (z:Int) (q:Nat),v13 = .int .i64 z∧z + 1=(q:Int)∧q ≤ (Ia Fa (i:Int)).f0.length∧q ≤ g6∧aa (Kd.R Kd.bool 4 wr wk.heap.size (fun _=>True) (.slice As (Zf X' i).length cs) (eT (Ia Fa (i:Int)).f0 q (Gu (Ia Fa (i:Int)) (Zf X' i))))∧aa (Below wk.heap.size wk wr))
          case atStart=>exact ⟨((Ia Fa (i:Int)).f0.length:Int) - 1,(Ia Fa (i:Int)).f0.length,by first|rfl|(go_simp;done)|exact congrArg _ b6.out|go_num,by omega,Nat.le_refl _,Nat.le_refl _,⟨by rw [rR];exact lT.out⟩,WX⟩
          case round =>
           clear lT WX GX;(try clear HS6);(try clear zY);obtain ⟨z,q,rfl,hz6,hq6,hg6,HS6,zY⟩:=hrel
           by_cases hz0:0 ≤ z
           ·obtain ⟨p,rfl⟩:∃ p:Nat,z=(p:Int):=⟨z.toNat,(Int.toNat_of_nonneg hz0).symm⟩;obtain rfl:q=p + 1:=by omega
            have hp:p < (Ia Fa (i:Int)).f0.length:=by omega
            have hzb:decide ((p:Int) ≥ 0)=true:=decide_eq_true (by omega);have p1:0 ≤ (p:Int):=by omega
            have p2:(p:Int) < ((Ia Fa (i:Int)).f0.length:Int):=by omega
            have h70:wr.cell? ⟨q7,0,none⟩=some (.slice Ac (Ia Fa (i:Int)).f0.length cc):=(ja (Na HQK.out zY.out) 0).trans rfl;obtain ⟨aI,e5,k0,k1,k2,k3,k4,k5,k6⟩:=Mp (Kd.Kb HCC.out (Ma HA.out.bl zY.out)) (p:Int) (by omega) (by omega);subst e5;simp only [Int.toNat_natCast] at k0 k1 k2 k3 k4 k5 k6;obtain ⟨kb,hkb⟩:=Ev.rounds (cR (eT (Ia Fa (i:Int)).f0 (p + 1) (Gu (Ia Fa (i:Int)) (Zf X' i))) (Ga (Ia Fa (i:Int)).f0 (p:Int)) (by rw [qR,jz,HLR.out];exact DH T_.out hp));have HKB:=aa.mk hkb;have hwp:wrap64 ((p:Int) - 1)=(p:Int) - 1:=by unfold wrap64;omega
            have HWP:=aa.mk hwp;clear hkb hwp hz0;go_wp2_with (first|(go_at_call 79;(with_reducible refine (Ye.calls kb (fun _=>True) (.slice As (Zf X' i).length cs) (eT (Ia Fa (i:Int)).f0 (p + 1) (Gu (Ia Fa (i:Int)) (Zf X' i))) (Ga (Ia Fa (i:Int)).f0 (p:Int)).f0 (Ga (Ia Fa (i:Int)).f0 (p:Int)).f1 (Ga (Ia Fa (i:Int)).f0 (p:Int)).f2 (Ga (Ia Fa (i:Int)).f0 (p:Int)).f3 (Ga (Ia Fa (i:Int)).f0 (p:Int)).f4 (Ga (Ia Fa (i:Int)).f0 (p:Int)).f5 (Ga (Ia Fa (i:Int)).f0 (p:Int)).f6 _ wk wr zY.out HS6.out HKB.out).mono ?_);rintro e VO ⟨rfl,ho,hb,-⟩;have HS7:=aa.mk ho;have DT:=aa.mk hb;clear ho hb h70 k0 k1 k2 k3 k4 k5 k6))
            go_roundg p
            case measure=>omega
            case rel=>exact ⟨(p:Int) - 1,p,by first|rfl|(go_simp;done)|exact congrArg _ HWP.out|go_num,by omega,by omega,Nat.le_refl _,⟨by rw [lM hp];exact Kd.yc HS7.out (fun _ _=>trivial)⟩,DT⟩
           ·have hzb:decide (z ≥ 0)=false:=decide_eq_false (by omega);obtain rfl:q=0:=by omega
            have HSI:=aa.mk (show Kd.R Kd.bool 4 wr wk.heap.size (fun _=>True) (.slice As (Zf X' i).length cs) (UE (Ia Fa (i:Int)) (Zf X' i)) from HS6.out);obtain ⟨Ay,cy,hcy,hfy,hly,hCy,-⟩:=(HA.out.below zY.out).RY hi;obtain ⟨HN1,HN2⟩:=HS.out.next HO.out hi HR.out HTJ.out;have HN1:=aa.mk HN1;have HN2:=aa.mk HN2;obtain ⟨ke,hke⟩:=Ev.rounds (jac (UE (Ia Fa (i:Int)) (Zf X' i)) (Zf Y i) (by rw [ew,HLR.out];omega));have hEQ:=Wb.calls ke As cs (UE (Ia Fa (i:Int)) (Zf X' i)) Ay cy (Zf Y i) _ wr (Kd.Jb HSI.out).2.2 (by have:=(Kd.Jb HSI.out).2.1;rw [ew];exact this) hCy hly hke;rw [ew] at hEQ;have HEQ:=aa.mk hEQ;have i1:0 ≤ (i:Int):=by omega
            have i2:(i:Int) < (Fa.length:Int):=by omega
            clear hEQ hke hCy hfy hly;cases a with
            | true =>
             go_upto_region 31 with (fail)
             clear hcy;have DT:=zY;have HP:=aa.mk (HA.out.maf DT.out hi HSI.out);obtain ⟨Az,cz,hcz,hfz,-⟩:=(HA.out.below DT.out).RY hi;have hwi:wrap64 ((i:Int) - 1)=(i:Int) - 1:=by unfold wrap64;omega
             have HWI:=aa.mk hwi;have i1:0 ≤ (i:Int):=by omega
             have i2:(i:Int) < (Fa.length:Int):=by omega
             clear hwi;go_wp2
             go_roundg i
             case measure=>omega
             case rel=>exact ⟨(i:Int) - 1,i,X',_,_,by first|rfl|(rw [Bool.true_or]),by first|rfl|(go_simp;done)|exact congrArg _ HWI.out|go_num,by omega,by omega,Nat.le_refl _,HN1,HN2,HP⟩
            | false =>
             go_upto_region 31 with (first|(go_at_call 80;(with_reducible refine HEQ.out.mono ?_);rintro e oy ⟨rfl,hd⟩;have oan:=aa.mk hd.below;clear hd hcy))
             have DT:=aa.mk (Ma zY.out oan.out);have HP:=aa.mk (HA.out.maf DT.out hi (Kd.Yb HSI.out oan.out));obtain ⟨Az,cz,hcz,hfz,-⟩:=(HA.out.below DT.out).RY hi;have hwi:wrap64 ((i:Int) - 1)=(i:Int) - 1:=by unfold wrap64;omega
             have HWI:=aa.mk hwi;have i1:0 ≤ (i:Int):=by omega
             have i2:(i:Int) < (Fa.length:Int):=by omega
             clear hwi;go_wp2
             go_roundg i
             case measure=>omega
             case rel=>exact ⟨(i:Int) - 1,i,X',_,_,by first|rfl|(rw [Bool.false_or]),by first|rfl|(go_simp;done)|exact congrArg _ HWI.out|go_num,by omega,by omega,Nat.le_refl _,HN1,HN2,HP⟩
      ·have hzb:decide (z ≥ 0)=false:=decide_eq_false (by omega);obtain rfl:q=0:=by omega
       have h1:=HS.out.le;have h2:=HS.out.lt;have h3:=HV.out.cnt
       have HM:=aa.mk (show n * Fa.length - Sp Y + (if a=true then 1 else 0) < n * Fa.length - C + 1 from by
        cases a with
        | false=>rw [if_neg (by simp)];omega
        | true=>have:=h2 rfl;rw [if_pos rfl];omega)
       clear h1 h2 h3;go_wp2
       go_roundg (n * Fa.length - Sp Y + (if a=true then 1 else 0))
       case measure=>have:=HM.out;omega
       case rel=>exact ⟨X,Y,a,rfl,Nat.le_refl _,HV,⟨fun e i hi=>HS.out.so e i (Nat.zero_le _) hi⟩,HA⟩
def Sq (n:Nat) (T:List (List Bool)):Prop:=T.length=n∧∀ i,i < n→(Zf T i).length=n
def pL (T:List (List Bool)) (a b:Nat):List (List Bool):=T.set a ((Zf T a).set b true)
def PG (T:List (List Bool)) (a b:Nat):List (List Bool):=if a=b then T else pL (pL T a b) b a
structure Tbl (n:Nat) (T:List (List Bool)) (P:Nat→Nat→Prop):Prop where
 sq:Sq n T
 so:∀ i j,i < n→j < n→(seen (Zf T i) j=true ↔ i ≠ j∧(P i j ∨ P j i))
section
variable {n a b:Nat} {T U:List (List Bool)} {P Q:Nat→Nat→Prop}
theorem Sq.put (h:Sq n T) (ha:a < n) (b:Nat):Sq n (pL T a b):=by
 refine ⟨by unfold pL;rw [List.length_set];exact h.1,fun i hi=>?_⟩;unfold pL;rw [Co (by rw [h.1];exact ha)]
 by_cases e:a=i
 ·rw [if_pos e,List.length_set];exact h.2 a ha
 ·rw [if_neg e];exact h.2 i hi
theorem KG (h:Sq n T) (ha:a < n) (hb:b < n) (i j:Nat):seen (Zf (pL T a b) i) j=true ↔ seen (Zf T i) j=true ∨ (a=i∧b=j):=by
 unfold pL;rw [Co (by rw [h.1];exact ha)]
 by_cases e:a=i
 ·subst e;rw [if_pos rfl,wj (by rw [h.2 a ha];exact hb)]
  by_cases e2:b=j
  ·rw [if_pos e2];exact ⟨fun _=>Or.inr ⟨rfl,e2⟩,fun _=>rfl⟩
  ·rw [if_neg e2];exact ⟨Or.inl,fun h=>h.resolve_right (fun h=>e2 h.2)⟩
 ·rw [if_neg e];exact ⟨Or.inl,fun h=>h.resolve_right (fun h=>e h.1)⟩
theorem Sq.meet (h:Sq n T) (ha:a < n) (hb:b < n):Sq n (PG T a b):=by
 unfold PG
 by_cases e:a=b
 ·rw [if_pos e];exact h
 ·rw [if_neg e];exact (h.put ha b).put hb a
theorem Tbl.meet (h:Tbl n T P) (ha:a < n) (hb:b < n):Tbl n (PG T a b) (fun i j=>P i j ∨ (i=a∧j=b)):=by
 refine ⟨h.sq.meet ha hb,fun i j hi hj=>?_⟩;unfold PG
 by_cases e:a=b
 ·rw [if_pos e,h.so i j hi hj]
  constructor
  ·rintro ⟨h1,h2⟩;exact ⟨h1,h2.imp Or.inl Or.inl⟩
  ·rintro ⟨h1,h2⟩;refine ⟨h1,?_⟩
   rcases h2 with (h2|⟨h3,h4⟩)|(h2|⟨h3,h4⟩)
   ·exact Or.inl h2
   ·exact absurd (h3.trans (e.trans h4.symm)) h1
   ·exact Or.inr h2
   ·exact absurd (h4.trans (e.symm.trans h3.symm)) h1
 ·rw [if_neg e,KG (h.sq.put ha b) hb ha,KG h.sq ha hb,h.so i j hi hj]
  constructor
  ·rintro ((⟨h1,h2⟩|⟨rfl,rfl⟩)|⟨rfl,rfl⟩)
   ·exact ⟨h1,h2.imp Or.inl Or.inl⟩
   ·exact ⟨e,Or.inl (Or.inr ⟨rfl,rfl⟩)⟩
   ·exact ⟨fun h=>e h.symm,Or.inr (Or.inr ⟨rfl,rfl⟩)⟩
  ·rintro ⟨h1,(h2|⟨rfl,rfl⟩)|(h2|⟨rfl,rfl⟩)⟩
   ·exact Or.inl (Or.inl ⟨h1,Or.inl h2⟩)
   ·exact Or.inl (Or.inr ⟨rfl,rfl⟩)
   ·exact Or.inl (Or.inl ⟨h1,Or.inr h2⟩)
   ·exact Or.inr ⟨rfl,rfl⟩
theorem RT {n m i:Nat} (hi:i < m):Zf (List.replicate m (List.replicate n false)) i=List.replicate n false:=by
 unfold Zf;rw [List.getD_eq_getElem?_getD,List.getElem?_replicate,if_pos hi];rfl
theorem Tbl.start (n:Nat):Tbl n (List.replicate n (List.replicate n false)) (fun _ _=>False) :=
 ⟨⟨by simp,fun i hi=>by rw [RT hi];simp⟩,fun i j hi _=>by
  rw [RT hi,cB]
  exact ⟨fun h=>(by cases h),fun h=>h.2.elim False.elim False.elim⟩⟩
end
noncomputable def wh (bs:List Ff) (n:Nat):List Bool:=UE (Ia bs ((0:Nat):Int)) (Pm bs n 0)
end Go.Proofs.Ytkigbdceceeenaa.P
end
section
namespace Go.Proofs.Ytkigbdceceeenaa.P
open Go.RowKit Go.Proofs.Oa.Rb Go.Proofs.Oa.Pd Go.Proofs.Oa.Re
set_option linter.unusedVariables false
set_option linter.unusedSimpArgs false
theorem KT {W:World} {base g c n a b:Nat} {PB:Nat→Prop} {T:List (List Bool)} (h:Kd.S (Kd.slice 4 Kd.bool) 60 W base PB (.slice (some ⟨g,0,none⟩) n c) T) (hq:Sq n T) (ha:a < n) (hb:b < n) :
  ∃ (gi c2:Nat) (v:Bool),W.cell? ⟨g,a,none⟩=some (.slice (some ⟨gi,0,none⟩) n c2)∧W.cell? ⟨gi,b,none⟩=some (.bool v)∧W.frozen? ⟨gi,b,none⟩=false ∧
   Kd.S (Kd.slice 4 Kd.bool) 60 (W.setCell ⟨gi,b,none⟩ (.bool true)) base PB (.slice (some ⟨g,0,none⟩) n c) (pL T a b)∧Kept W (W.setCell ⟨gi,b,none⟩ (.bool true)) PB∧Below 0 W (W.setCell ⟨gi,b,none⟩ (.bool true)):=by
 have hl:=hq.2 a ha;obtain ⟨gi,c2,h1,h2,h3,h4,h5⟩:=mW false h ha (show b < (T.getD a []).length from by rw [show T.getD a []=Zf T a from rfl,hl];exact hb);rw [show (T.getD a []).length=n from hl] at h1;exact ⟨gi,c2,_,h1,h3,h4,(h5 true).1,(Kept.refl W PB).setCell (p:=⟨gi,b,none⟩) (Or.inl h2) (.bool true),(Below.refl 0 W).setCell (Nat.zero_le _) _⟩
theorem JH (base n a b q:Nat) (PB:Nat→Prop) (v:Value) (T:List (List Bool)) (w:World) (hx:w.heap[q]? = some (.cells #[v] 55 (0,0))) (hpq:¬ PB q) (h:Kd.S (Kd.slice 4 Kd.bool) 60 w base PB v T) (hq:Sq n T) (ha:a < n) (hb:b < n) (hn:n ≤ 1048576) :
  Calls Try.prog 85 #[.int .i64 (a:Int),.int .i64 (b:Int),.pointer (some ⟨q,0,none⟩)] w fun e w'=>e = .returned (.tuple #[])∧Kd.S (Kd.slice 4 Kd.bool) 60 w' base PB v (PG T a b)∧Kept w w' PB∧Below 0 w w':=by
 obtain ⟨g,c,rfl,-⟩:=Kd.wF h (by rw [hq.1];omega);rw [hq.1] at h hx ⊢;have HH:=aa.mk h;unfold PG
 by_cases e:a=b
 ·subst e;rw [if_pos rfl];clear h;go_enter Try.func85,Try.ntmps85;go_wp2;refine bodyPost_end (v:=.tuple #[]) ?_ rfl ?_
  ·exact results_none rfl _ _ _
  exact ⟨rfl,HH.out,Kept.refl _ _,Below.refl _ _⟩
 ·rw [if_neg e];have HQ:=aa.mk hq;have hne:¬ ((a:Int)=(b:Int)):=by omega
  have a1:0 ≤ (a:Int):=by omega
  have a2:(a:Int) < (n:Int):=by omega
  have b1:0 ≤ (b:Int):=by omega
  have b2:(b:Int) < (n:Int):=by omega
  obtain ⟨gi,c2,z,p1,p2,hfz,p4,p5,p6⟩:=KT h hq ha hb;have hx0:w.cell? ⟨q,0,none⟩=some (.slice (some ⟨g,0,none⟩) n c):=(ja hx 0).trans rfl;have HX:=aa.mk (Sd hx p5 hpq);have H4:=aa.mk p4;have H5:=aa.mk p5;have H6:=aa.mk p6;clear h hq p4 p5 p6 hx;go_enter Try.func85,Try.ntmps85
  go_upto_region 2 with (fail)
  clear p1 p2 hfz hx0;generalize w.setCell ⟨gi,b,none⟩ (.bool true)=w1 at H4 H5 H6 HX ⊢;obtain ⟨gj,c3,z2,p1,p2,hfz,p4,p5,p6⟩:=KT H4.out (HQ.out.put ha b) hb ha;have hx0:w1.cell? ⟨q,0,none⟩=some (.slice (some ⟨g,0,none⟩) n c):=(ja HX.out 0).trans rfl;have H7:=aa.mk p4;have H8:=aa.mk (H5.out.Gj p5 (fun _ h=>Or.inl h));have H9:=aa.mk (H6.out.trans p6);clear p4 p5 p6 H4 H5 H6;go_wp2;refine bodyPost_end (v:=.tuple #[]) ?_ rfl ?_
  ·exact results_none rfl _ _ _
  exact ⟨rfl,H7.out,H8.out,H9.out⟩
structure MtI (base n q qf:Nat) (PB:Nat→Prop) (v:Value) (P:Nat→Nat→Prop) (W:World):Prop where
 hf:W.heap[qf]? = some (.cells #[.func (.func 85) #[] #[.pointer (some ⟨q,0,none⟩)]] 101 (0,0))
 hx:W.heap[q]? = some (.cells #[v] 55 (0,0))
 pf:¬ PB qf
 pq:¬ PB q
 t:∃ T,Kd.S (Kd.slice 4 Kd.bool) 60 W base PB v T∧Tbl n T P
theorem MtI.below {base n q qf:Nat} {PB:Nat→Prop} {v:Value} {P:Nat→Nat→Prop} {W W':World} (h:MtI base n q qf PB v P W) (hb:Below W.heap.size W W'):MtI base n q qf PB v P W':=by
 obtain ⟨T,h1,h2⟩:=h.t;exact ⟨Na h.hf hb,Na h.hx hb,h.pf,h.pq,T,Kd.zi h1 hb,h2⟩
theorem MtI.call {base n q qf a b:Nat} {PB:Nat→Prop} {v:Value} {P:Nat→Nat→Prop} {W:World} (h:MtI base n q qf PB v P W) (ha:a < n) (hb:b < n) (hn:n ≤ 1048576) :
  Calls Try.prog 85 #[.int .i64 (a:Int),.int .i64 (b:Int),.pointer (some ⟨q,0,none⟩)] W fun e w'=>e = .returned (.tuple #[])∧MtI base n q qf PB v (fun i j=>P i j ∨ (i=a∧j=b)) w'∧Kept W w' PB∧Below 0 W w':=by
 obtain ⟨T,h1,h2⟩:=h.t;refine (JH base n a b q PB v T W h.hx h.pq h1 h2.sq ha hb hn).mono ?_;rintro e w' ⟨e1,e2,e3,e4⟩;exact ⟨e1,⟨Sd h.hf e3 h.pf,Sd h.hx e3 h.pq,h.pf,h.pq,_,e2,h2.meet ha hb⟩,e3,e4⟩
attribute [local go_sem] Mh rj
theorem TT {bs:List (Ff)} {n i:Nat} (hi:i < bs.length):Zf (Qm bs n) i=Pm bs n i:=by
 unfold Zf Qm;rw [List.getD_eq_getElem?_getD];simp [hi]
theorem NT (P:Program) (w:World) (a:Addr) (m:Mode) (fn:Fn) (x y:Array Value):(store a (.func fn x y) m).run P w=stored P w a (.func fn x y) m:=run_store P w a _ m rfl
attribute [local go_sem] NT
theorem vu {N:Nat} {w w5 w9:World} {S:Nat→Prop} (h:Below N w w5) (hN:N ≤ w5.heap.size) (hk:Kept w5 w9 S) (hS:∀ k,S k→N ≤ k) (hb:Below 0 w5 w9):Below N w w9 :=
 h.trans ⟨hb.os,hb.tape,hb.output,hk.1,fun k h1=>hk.2 k (by omega) (fun e=>by have:=hS k e;omega)⟩
theorem nS {s:List Bool} {z:Int} (h:z ∈ Yc s s.length):∃ a:Nat,z=(a:Int)∧a < s.length:=by
 unfold Yc at h;obtain ⟨u,hu,he⟩:=List.mem_map.1 h;exact ⟨u,he.symm,List.mem_range.1 (List.mem_filter.1 hu).1⟩
theorem PE {xs:List Int} {A:Option Addr} {W:World} {i:Nat} (hC:Kd.C (Kd.int .i64) W A xs.length xs) (hi:i < xs.length):∃ ad:Addr,A=some ad∧W.cell? (ad.add i)=some (.int .i64 xs[i]):=by
 obtain ⟨ad,e1,hx⟩:=Kd.Bm hC (i:Int) (by omega) (by omega);rw [Int.toNat_natCast,vm hi] at hx;exact ⟨ad,e1,hx⟩
theorem iae {W:World} {g:Nat} {x:Zb} (h:W.heap[g]? = some (.cells #[.int .i64 x.f0,.int .i64 x.f1,.int .i64 x.f2,.int .i64 x.f3,.int .i64 x.f4] 79 (0,0))):Kd.C Yg W (some ⟨g,0,none⟩) ([x]:List Zb).length [x]:=by
 refine ⟨rfl,by simp,fun _=>⟨⟨g,0,none⟩,rfl,fun j p hp=>?_⟩⟩;cases j with
 | zero =>
  obtain rfl:x=p:=by simpa using hp
  refine ⟨_,rfl,zaa W x,fun i u hu=>?_⟩
  rcases i with _ | _ | _ | _ | _|i
  ·exact (ja h 0).trans hu
  ·exact (ja h 1).trans hu
  ·exact (ja h 2).trans hu
  ·exact (ja h 3).trans hu
  ·exact (ja h 4).trans hu
  ·cases hu
 | succ j=>cases hp
section
variable {base gc:Nat} {vS vK:Value} {p s:Int} {PC:Nat→Prop} {code ys zs:List Zb} {w w1 w2:World}
theorem Px.below (hb:Below w.heap.size w w1) (h:Px base gc vS vK p s PC code ys w1 w2):Px base gc vS vK p s PC code ys w w2:=by
 obtain ⟨BF,c1,c2⟩:=h.c;exact ⟨⟨BF,c1,fun k hk=>(c2 k hk).imp id (fun e=>Nat.le_trans hb.size e)⟩,(Kept.xj hb _).Gj h.k (fun _ e=>Or.inl e),(ql hb).trans h.b⟩
theorem Px.Gj {PC1:Nat→Prop} (h:Px base gc vS vK p s PC code ys w w1) (h1:∀ k,PC1 k→PC k ∨ w.heap.size ≤ k) (h2:Px base gc vS vK p s PC1 (code ++ ys) zs w1 w2):Px base gc vS vK p s PC code (ys ++ zs) w w2:=by
 obtain ⟨PC2,c1,c2⟩:=h2.c;rw [List.append_assoc] at c1;refine ⟨⟨PC2,c1,fun k hk=>(c2 k hk).elim (h1 k) (fun e=>Or.inr (Nat.le_trans h.k.1 e))⟩,h.k.Gj h2.k (fun k e=>?_),h.b.trans h2.b⟩;exact e.elim (fun e=>Or.inl (Or.inl e)) (fun e=>(h1 k e).imp Or.inr id)
end
theorem Ns {base gc:Nat} {vS vK:Value} {p s:Int} {PC:Nat→Prop} {code:List Zb} {w:World} (x:Zb) (g c:Nat) (h:VA base gc vS vK p s PC code w) (hx:w.heap[g]? = some (.cells #[.int .i64 x.f0,.int .i64 x.f1,.int .i64 x.f2,.int .i64 x.f3,.int .i64 x.f4] 79 (0,0))) (hc:1 ≤ c) (hn:code.length + 1 ≤ 1000000000) :
  Calls Try.prog 91 #[.pointer (some ⟨gc,0,none⟩),.slice (some ⟨g,0,none⟩) 1 c] w fun e w'=>e = .returned (.tuple #[])∧Px base gc vS vK p s PC code [x] w w' :=
 XY base gc vS vK p s PC code [x] (some ⟨g,0,none⟩) c w h (iae hx) hc hn
theorem YA {k:Int} (h0:0 ≤ k) (h1:k ≤ 11):wrap64 (4 + k)=4 + k:=by unfold wrap64;omega
def Js (cs:List Int) (r:Int) (z:Int):Zb:=if rd cs z ≥ 0 then ⟨11,r,4 + rd cs z,0,0⟩ else ⟨1,r,0,0,z⟩
theorem uL (base gc:Nat) (vS:Value) (p s:Int) (PC:Nat→Prop) (code:List Zb) (AK:Option Addr) (cK:Nat) (cs:List Int) (r:Int) (z:Nat) (w:World) (h:VA base gc vS (.slice AK cs.length cK) p s PC code w) (hK:Kd.C (Kd.int .i64) w AK cs.length cs) (hz:z < cs.length) (hle:rd cs (z:Int) ≤ 11) (hn:code.length + 1 ≤ 1000000000) :
  Calls Try.prog 94 #[.pointer (some ⟨gc,0,none⟩),.int .i64 r,.int .i64 (z:Int)] w fun e w'=>e = .returned (.tuple #[])∧Px base gc vS (.slice AK cs.length cK) p s PC code [Js cs r z] w w':=by
 obtain ⟨ad,rfl,Qp⟩:=PE hK hz;rw [← vm hz] at Qp;have H:=aa.mk h;obtain ⟨vC,hx1,-⟩:=h.hx;have Nu:w.cell? ⟨gc,4,none⟩=some (.slice (some ad) cs.length cK):=(ja hx1 4).trans rfl;have z1:0 ≤ (z:Int):=by omega
 have z2:(z:Int) < (cs.length:Int):=by omega
 have HN:=aa.mk hn;unfold Js;clear h hK hx1 hz;generalize hk:rd cs (z:Int)=k at Qp hle ⊢;have HKK:=aa.mk hk;clear hk
 by_cases h0:k ≥ 0
 ·rw [if_pos h0];have h0b:decide (k ≥ 0)=true:=decide_eq_true h0;have qZ:=YA h0 hle;have b6:=aa.mk qZ;have XA:=aa.mk (ia (Below.refl w.heap.size w) (.cells #[.int .i64 11,.int .i64 r,.int .i64 (4 + k),.int .i64 0,.int .i64 0] 79 (0,0)));have HV1:=aa.mk (kg w (.cells #[.int .i64 11,.int .i64 r,.int .i64 (4 + k),.int .i64 0,.int .i64 0] 79 (0,0)));have I6:=aa.mk (Ns (⟨11,r,4 + k,0,0⟩:Zb) w.heap.size 1 (H.out.below XA.out) HV1.out (Nat.le_refl _) HN.out);clear h0 hle;go_enter Try.func94,Try.ntmps94;go_wp2_with (first|(go_at_call 91;(first|rw [b6.out]|skip);(with_reducible refine I6.out.mono ?_);rintro e w2 ⟨rfl,h2⟩;have HP2:=aa.mk h2;clear h2 Nu Qp));refine bodyPost_end (v:=.tuple #[]) ?_ rfl ?_
  ·exact results_none rfl _ _ _
  exact ⟨rfl,HP2.out.below XA.out⟩
 ·rw [if_neg h0];have h0b:decide (k ≥ 0)=false:=decide_eq_false h0;have XA:=aa.mk (ia (Below.refl w.heap.size w) (.cells #[.int .i64 1,.int .i64 r,.int .i64 0,.int .i64 0,.int .i64 (z:Int)] 79 (0,0)));have HV1:=aa.mk (kg w (.cells #[.int .i64 1,.int .i64 r,.int .i64 0,.int .i64 0,.int .i64 (z:Int)] 79 (0,0)));have I6:=aa.mk (Ns (⟨1,r,0,0,(z:Int)⟩:Zb) w.heap.size 1 (H.out.below XA.out) HV1.out (Nat.le_refl _) HN.out);clear h0 hle;go_enter Try.func94,Try.ntmps94;go_wp2_with (first|(go_at_call 91;(with_reducible refine I6.out.mono ?_);rintro e w2 ⟨rfl,h2⟩;have HP2:=aa.mk h2;clear h2 Nu Qp));refine bodyPost_end (v:=.tuple #[]) ?_ rfl ?_
  ·exact results_none rfl _ _ _
  exact ⟨rfl,HP2.out.below XA.out⟩
def iL (cs:List Int) (r:Int) (z:Int):Zb:=if rd cs z ≥ 0 then ⟨11,4 + rd cs z,r,0,0⟩ else ⟨2,r,0,0,z⟩
theorem ZR (base gc:Nat) (vS:Value) (p s:Int) (PC:Nat→Prop) (code:List Zb) (AK:Option Addr) (cK:Nat) (cs:List Int) (r:Int) (z:Nat) (w:World) (h:VA base gc vS (.slice AK cs.length cK) p s PC code w) (hK:Kd.C (Kd.int .i64) w AK cs.length cs) (hz:z < cs.length) (hle:rd cs (z:Int) ≤ 11) (hn:code.length + 1 ≤ 1000000000) :
  Calls Try.prog 108 #[.pointer (some ⟨gc,0,none⟩),.int .i64 r,.int .i64 (z:Int)] w fun e w'=>e = .returned (.tuple #[])∧Px base gc vS (.slice AK cs.length cK) p s PC code [iL cs r z] w w':=by
 obtain ⟨ad,rfl,Qp⟩:=PE hK hz;rw [← vm hz] at Qp;have H:=aa.mk h;obtain ⟨vC,hx1,-⟩:=h.hx;have Nu:w.cell? ⟨gc,4,none⟩=some (.slice (some ad) cs.length cK):=(ja hx1 4).trans rfl;have z1:0 ≤ (z:Int):=by omega
 have z2:(z:Int) < (cs.length:Int):=by omega
 have HN:=aa.mk hn;unfold iL;clear h hK hx1 hz;generalize hk:rd cs (z:Int)=k at Qp hle ⊢;have HKK:=aa.mk hk;clear hk
 by_cases h0:k ≥ 0
 ·rw [if_pos h0];have h0b:decide (k ≥ 0)=true:=decide_eq_true h0;have qZ:=YA h0 hle;have b6:=aa.mk qZ;have XA:=aa.mk (ia (Below.refl w.heap.size w) (.cells #[.int .i64 11,.int .i64 (4 + k),.int .i64 r,.int .i64 0,.int .i64 0] 79 (0,0)));have HV1:=aa.mk (kg w (.cells #[.int .i64 11,.int .i64 (4 + k),.int .i64 r,.int .i64 0,.int .i64 0] 79 (0,0)));have I6:=aa.mk (Ns (⟨11,4 + k,r,0,0⟩:Zb) w.heap.size 1 (H.out.below XA.out) HV1.out (Nat.le_refl _) HN.out);clear h0 hle;go_enter Try.func108,Try.ntmps108;go_wp2_with (first|(go_at_call 91;(first|rw [b6.out]|skip);(with_reducible refine I6.out.mono ?_);rintro e w2 ⟨rfl,h2⟩;have HP2:=aa.mk h2;clear h2 Nu Qp));refine bodyPost_end (v:=.tuple #[]) ?_ rfl ?_
  ·exact results_none rfl _ _ _
  exact ⟨rfl,HP2.out.below XA.out⟩
 ·rw [if_neg h0];have h0b:decide (k ≥ 0)=false:=decide_eq_false h0;have XA:=aa.mk (ia (Below.refl w.heap.size w) (.cells #[.int .i64 2,.int .i64 r,.int .i64 0,.int .i64 0,.int .i64 (z:Int)] 79 (0,0)));have HV1:=aa.mk (kg w (.cells #[.int .i64 2,.int .i64 r,.int .i64 0,.int .i64 0,.int .i64 (z:Int)] 79 (0,0)));have I6:=aa.mk (Ns (⟨2,r,0,0,(z:Int)⟩:Zb) w.heap.size 1 (H.out.below XA.out) HV1.out (Nat.le_refl _) HN.out);clear h0 hle;go_enter Try.func108,Try.ntmps108;go_wp2_with (first|(go_at_call 91;(with_reducible refine I6.out.mono ?_);rintro e w2 ⟨rfl,h2⟩;have HP2:=aa.mk h2;clear h2 Nu Qp));refine bodyPost_end (v:=.tuple #[]) ?_ rfl ?_
  ·exact results_none rfl _ _ _
  exact ⟨rfl,HP2.out.below XA.out⟩
end Go.Proofs.Ytkigbdceceeenaa.P
end
section
namespace Go.Proofs.Ytkigbdceceeenaa.P
open Go.RowKit Go.Proofs.Oa.Rb Go.Proofs.Oa.Pd Go.Proofs.Oa.Re
set_option linter.unusedVariables false
set_option linter.unusedSimpArgs false
structure jE (base gc:Nat) (vS vK:Value) (p s:Int) (PC:Nat→Prop) (w0:World) (o:Obj) (code ys:List Zb) (W:World):Prop where
 c:∃ BF:Nat→Prop,VA base gc vS vK p s BF (code ++ ys) W∧∀ k,BF k→PC k ∨ w0.heap.size < k
 k:Kept w0 W (fun k=>k=gc ∨ PC k)
 b:Below 0 w0 W
 hx:W.heap[w0.heap.size]? = some o
section
variable {base gc:Nat} {vS vK:Value} {p s:Int} {PC:Nat→Prop} {w0 W W1:World} {o:Obj} {code ys zs:List Zb}
theorem jE.start (h:VA base gc vS vK p s PC code w0) (o:Obj):jE base gc vS vK p s PC w0 o code [] (w0.alloc o):=by
 have hb:=ia (Below.refl w0.heap.size w0) o;exact ⟨⟨PC,by rw [List.append_nil];exact h.below hb,fun k hk=>Or.inl hk⟩,Kept.xj hb _,ql hb,kg w0 o⟩
theorem jE.below (h:jE base gc vS vK p s PC w0 o code ys W) (hb:Below W.heap.size W W1):jE base gc vS vK p s PC w0 o code ys W1:=by
 obtain ⟨BF,c1,c2⟩:=h.c;exact ⟨⟨BF,c1.below hb,c2⟩,h.k.below hb,h.b.trans (ql hb),Na h.hx hb⟩
theorem jE.put (h:jE base gc vS vK p s PC w0 o code ys W) (h0:VA base gc vS vK p s PC code w0) {BF:Nat→Prop} (hp:∀ k,BF k→PC k ∨ w0.heap.size < k) (e:Px base gc vS vK p s BF (code ++ ys) zs W W1):jE base gc vS vK p s PC w0 o code (ys ++ zs) W1:=by
 obtain ⟨PC2,c1,c2⟩:=e.c;rw [List.append_assoc] at c1;have hl:=Tb h.hx;refine ⟨⟨PC2,c1,fun k hk=>(c2 k hk).elim (hp k) (fun e=>Or.inr (by omega))⟩,h.k.Gj e.k (fun k e=>?_),h.b.trans e.b,Sd h.hx e.k (fun e=>?_)⟩
 ·exact e.elim (fun e=>Or.inl (Or.inl e)) (fun e=>(hp k e).elim (fun e=>Or.inl (Or.inr e)) (fun e=>Or.inr (Nat.le_of_lt e)))
 ·have:=h0.lt;exact e.elim (fun e=>by omega) (fun e=>(hp _ e).elim (fun e=>by have:=(h0.pb _ e).2.1;omega) (fun e=>by omega))
theorem jE.done (h:jE base gc vS vK p s PC w0 o code ys W):Px base gc vS vK p s PC code ys w0 W:=by
 obtain ⟨BF,c1,c2⟩:=h.c;exact ⟨⟨BF,c1,fun k hk=>(c2 k hk).imp id Nat.le_of_lt⟩,h.k,h.b⟩
end
section
variable {base gc:Nat} {vS:Value} {p s:Int} {PC:Nat→Prop} {w0 W:World} {o:Obj} {code ys:List Zb} {AK:Option Addr} {cK:Nat} {cs:List Int}
theorem jE.load {r z:Int} (h:jE base gc vS (.slice AK cs.length cK) p s PC w0 o code ys W) (h0:VA base gc vS (.slice AK cs.length cK) p s PC code w0) (hK:∀ W,Kept w0 W (fun k=>k=gc ∨ PC k)→Kd.C (Kd.int .i64) W AK cs.length cs) (hz:0 ≤ z∧z < (cs.length:Int)) (hle:∀ i:Nat,i < cs.length→rd cs (i:Int) ≤ 11) (hn:code.length + ys.length + 1 ≤ 1000000000) :
  Calls Try.prog 94 #[.pointer (some ⟨gc,0,none⟩),.int .i64 r,.int .i64 z] W fun e w'=>e = .returned (.tuple #[])∧jE base gc vS (.slice AK cs.length cK) p s PC w0 o code (ys ++ [Js cs r z]) w':=by
 obtain ⟨n,rfl⟩:∃ n:Nat,z=(n:Int):=⟨z.toNat,(Int.toNat_of_nonneg hz.1).symm⟩;obtain ⟨BF,c1,c2⟩:=h.c;refine (uL base gc vS p s BF (code ++ ys) AK cK cs r n W c1 (hK W h.k) (by omega) (hle n (by omega)) (by rw [List.length_append];omega)).mono ?_;rintro e w' ⟨e1,e2⟩;exact ⟨e1,h.put h0 c2 e2⟩
theorem jE.store {r z:Int} (h:jE base gc vS (.slice AK cs.length cK) p s PC w0 o code ys W) (h0:VA base gc vS (.slice AK cs.length cK) p s PC code w0) (hK:∀ W,Kept w0 W (fun k=>k=gc ∨ PC k)→Kd.C (Kd.int .i64) W AK cs.length cs) (hz:0 ≤ z∧z < (cs.length:Int)) (hle:∀ i:Nat,i < cs.length→rd cs (i:Int) ≤ 11) (hn:code.length + ys.length + 1 ≤ 1000000000) :
  Calls Try.prog 108 #[.pointer (some ⟨gc,0,none⟩),.int .i64 r,.int .i64 z] W fun e w'=>e = .returned (.tuple #[])∧jE base gc vS (.slice AK cs.length cK) p s PC w0 o code (ys ++ [iL cs r z]) w':=by
 obtain ⟨n,rfl⟩:∃ n:Nat,z=(n:Int):=⟨z.toNat,(Int.toNat_of_nonneg hz.1).symm⟩;obtain ⟨BF,c1,c2⟩:=h.c;refine (ZR base gc vS p s BF (code ++ ys) AK cK cs r n W c1 (hK W h.k) (by omega) (hle n (by omega)) (by rw [List.length_append];omega)).mono ?_;rintro e w' ⟨e1,e2⟩;exact ⟨e1,h.put h0 c2 e2⟩
end
theorem jE.word {base gc:Nat} {vS vK:Value} {p s:Int} {PC:Nat→Prop} {w0 W:World} {o:Obj} {code ys:List Zb} (x:Zb) (h:jE base gc vS vK p s PC w0 o code ys W) (h0:VA base gc vS vK p s PC code w0) (hn:code.length + ys.length + 1 ≤ 1000000000) :
  Calls Try.prog 91 #[.pointer (some ⟨gc,0,none⟩),.slice (some ⟨W.heap.size,0,none⟩) 1 1] (W.alloc (.cells #[.int .i64 x.f0,.int .i64 x.f1,.int .i64 x.f2,.int .i64 x.f3,.int .i64 x.f4] 79 (0,0))) fun e w'=>e = .returned (.tuple #[])∧jE base gc vS vK p s PC w0 o code (ys ++ [x]) w':=by
 have hb:=ia (Below.refl W.heap.size W) (.cells #[.int .i64 x.f0,.int .i64 x.f1,.int .i64 x.f2,.int .i64 x.f3,.int .i64 x.f4] 79 (0,0));have h2:=h.below hb;obtain ⟨BF,c1,c2⟩:=h2.c;refine (Ns x W.heap.size 1 c1 (kg W _) (Nat.le_refl _) (by rw [List.length_append];omega)).mono ?_;rintro e w' ⟨e1,e2⟩;exact ⟨e1,h2.put h0 c2 e2⟩
def XM (cs:List Int) (x:tf):List Zb:=if x.f2 ≥ 0 then [Js cs 1 x.f3,Js cs 2 x.f2,⟨3,1,1,2,0⟩] else [Js cs 1 x.f3]
def kN:List ByteArray:=[⟨#[43]⟩,⟨#[45]⟩,⟨#[42]⟩,⟨#[38]⟩,⟨#[61,61]⟩,⟨#[60]⟩]
def vH (t:ByteArray):Int:=if t.toList=[43] then 0 else if t.toList=[45] then 1 else if t.toList=[42] then 2 else if t.toList=[38] then 3 else if t.toList=[61,61] then 4 else if t.toList=[60] then 5 else -1
theorem PT (t:ByteArray):Gb.f 8 kN t=some (vH t):=by
 unfold Gb.f vH kN;simp only [Gb.l0]
 by_cases h0:t.toList=[43]
 ·simp [Kg,h0]
 by_cases h1:t.toList=[45]
 ·simp [Kg,h1,wrap64]
 by_cases h2:t.toList=[42]
 ·simp [Kg,h2,wrap64]
 by_cases h3:t.toList=[38]
 ·simp [Kg,h3,wrap64]
 by_cases h4:t.toList=[61,61]
 ·simp [Kg,h4,wrap64]
 by_cases h5:t.toList=[60]
 ·simp [Kg,h5,wrap64]
 simp [Kg,h0,h1,h2,h3,h4,h5,wrap64]
def Bf (cs:List Int) (x:tf):List Zb :=
 if x.f0=0 then [⟨0,1,0,0,x.f5⟩,iL cs 1 x.f1]
 else if x.f0=1 then [Js cs 1 x.f2,iL cs 1 x.f1]
 else if x.f0=2 then [Js cs 1 x.f2,Js cs 2 x.f3,⟨3,3,1,2,vH x.f6⟩,iL cs 3 x.f1]
 else if x.f0=3 then XM cs x ++ [⟨4,3,1,0,x.f5⟩,iL cs 3 x.f1]
 else if x.f0=4 then XM cs x ++ [Js cs 3 x.f4,⟨5,3,1,0,x.f5⟩]
 else if x.f0=5 then [⟨6,1,0,0,0⟩,iL cs 1 x.f1]
 else [Js cs 1 x.f2,⟨7,1,0,0,0⟩]
theorem xu (cs:List Int) (x:tf):(XM cs x).length ≤ 3:=by
 unfold XM
 by_cases h:x.f2 ≥ 0
 ·rw [if_pos h];exact Nat.le_refl _
 ·rw [if_neg h];show 1 ≤ 3;omega
theorem aad (base gc:Nat) (vS:Value) (p s:Int) (PC:Nat→Prop) (code:List Zb) (AK:Option Addr) (cK:Nat) (cs:List Int) (x:tf) (w:World) (h:VA base gc vS (.slice AK cs.length cK) p s PC code w) (hK:∀ W,Kept w W (fun k=>k=gc ∨ PC k)→Kd.C (Kd.int .i64) W AK cs.length cs) (hle:∀ i:Nat,i < cs.length→rd cs (i:Int) ≤ 11) (hn:code.length + 10 ≤ 1000000000) (hb:0 ≤ x.f3∧x.f3 < (cs.length:Int)) (ha:0 ≤ x.f2→x.f2 < (cs.length:Int)) :
  Calls Try.prog 111 #[.pointer (some ⟨gc,0,none⟩),.agg #[.int .i64 x.f0,.int .i64 x.f1,.int .i64 x.f2,.int .i64 x.f3,.int .i64 x.f4,.int .i64 x.f5,.string x.f6]] w fun e w'=>e = .returned (.tuple #[])∧Px base gc vS (.slice AK cs.length cK) p s PC code (XM cs x) w w':=by
 have H:=aa.mk h;have HK:=aa.mk hK;have LO:=aa.mk hle;have HN:=aa.mk hn;have HB:=aa.mk hb;have HAA:=aa.mk ha;have Ks:=aa.mk (jE.start h (.cells #[.int .i64 x.f0,.int .i64 x.f1,.int .i64 x.f2,.int .i64 x.f3,.int .i64 x.f4,.int .i64 x.f5,.string x.f6] 65 (0,0)));clear h hK hle hn hb ha;go_enter Try.func111,Try.ntmps111
 go_upto_region 1 with (fail)
 generalize w.alloc (.cells #[.int .i64 x.f0,.int .i64 x.f1,.int .i64 x.f2,.int .i64 x.f3,.int .i64 x.f4,.int .i64 x.f5,.string x.f6] 65 (0,0))=w1 at Ks ⊢;have k3:w1.cell? ⟨w.heap.size,3,none⟩=some (.int .i64 x.f3):=(ja Ks.out.hx 3).trans rfl
 go_upto_region 2 with (first|(go_at_call 94;(with_reducible refine (Ks.out.load H.out HK.out HB.out LO.out yaK).mono ?_);rintro e w2 ⟨rfl,h2⟩;have GC:=aa.mk h2;clear h2 k3 Ks))
 have k2:w2.cell? ⟨w.heap.size,2,none⟩=some (.int .i64 x.f2):=(ja GC.out.hx 2).trans rfl
 by_cases h0:x.f2 ≥ 0
 ·have HE:=aa.mk (show XM cs x=[Js cs 1 x.f3,Js cs 2 x.f2,⟨3,1,1,2,0⟩] from by unfold XM;rw [if_pos h0]);have h0b:decide (x.f2 ≥ 0)=true:=decide_eq_true h0;have HA0:=aa.mk h0;clear h0;go_wp2_with (first|(go_at_call 94;(with_reducible refine (GC.out.load H.out HK.out ⟨HA0.out,HAA.out HA0.out⟩ LO.out yaK).mono ?_);rintro e w3 ⟨rfl,h3⟩;have zK:=aa.mk h3;clear h3 k2)|(go_at_call 91;(with_reducible refine (zK.out.word (⟨3,1,1,2,0⟩:Zb) H.out yaK).mono ?_);rintro e w4 ⟨rfl,h4⟩;have A_:=aa.mk h4;clear h4));refine bodyPost_end (v:=.tuple #[]) ?_ rfl ?_
  ·exact results_none rfl _ _ _
  exact ⟨rfl,by rw [HE.out];exact A_.out.done⟩
 ·have HE:=aa.mk (show XM cs x=[Js cs 1 x.f3] from by unfold XM;rw [if_neg h0]);have h0b:decide (x.f2 ≥ 0)=false:=decide_eq_false h0;clear h0;go_wp2;refine bodyPost_end (v:=.tuple #[]) ?_ rfl ?_
  ·exact results_none rfl _ _ _
  exact ⟨rfl,by rw [HE.out];exact GC.out.done⟩
theorem jE.at_ {base gc:Nat} {vS:Value} {p s:Int} {PC:Nat→Prop} {w0 W:World} {o:Obj} {code ys:List Zb} {AK:Option Addr} {cK:Nat} {cs:List Int} {x:tf} {op0:Int} (h:jE base gc vS (.slice AK cs.length cK) p s PC w0 o code ys W) (h0:VA base gc vS (.slice AK cs.length cK) p s PC code w0) (hK:∀ W,Kept w0 W (fun k=>k=gc ∨ PC k)→Kd.C (Kd.int .i64) W AK cs.length cs) (hle:∀ i:Nat,i < cs.length→rd cs (i:Int) ≤ 11) (hn:code.length + ys.length + 10 ≤ 1000000000) (hb:0 ≤ x.f3∧x.f3 < (cs.length:Int)) (ha:0 ≤ x.f2→x.f2 < (cs.length:Int)) :
  Calls Try.prog 111 #[.pointer (some ⟨gc,0,none⟩),.agg #[.int .i64 op0,.int .i64 x.f1,.int .i64 x.f2,.int .i64 x.f3,.int .i64 x.f4,.int .i64 x.f5,.string x.f6]] W fun e w'=>e = .returned (.tuple #[])∧jE base gc vS (.slice AK cs.length cK) p s PC w0 o code (ys ++ XM cs x) w':=by
 obtain ⟨BF,c1,c2⟩:=h.c;refine (aad base gc vS p s BF (code ++ ys) AK cK cs ⟨op0,x.f1,x.f2,x.f3,x.f4,x.f5,x.f6⟩ W c1 (fun W2 hk=>hK W2 (h.k.Gj hk (fun k e=>?_))) hle (by rw [List.length_append];omega) hb ha).mono ?_
 ·exact e.elim (fun e=>Or.inl (Or.inl e)) (fun e=>(c2 k e).elim (fun e=>Or.inl (Or.inr e)) (fun e=>Or.inr (Nat.le_of_lt e)))
 rintro e w' ⟨e1,e2⟩;exact ⟨e1,h.put h0 c2 e2⟩
theorem GS (base gc:Nat) (vS:Value) (p s:Int) (PC:Nat→Prop) (code:List Zb) (AK:Option Addr) (cK:Nat) (cs:List Int) (x:tf) (w:World) (h:VA base gc vS (.slice AK cs.length cK) p s PC code w) (hK:∀ W,Kept w W (fun k=>k=gc ∨ PC k)→Kd.C (Kd.int .i64) W AK cs.length cs) (hle:∀ i:Nat,i < cs.length→rd cs (i:Int) ≤ 11) (hn:code.length + 10 ≤ 1000000000) (hi:mz cs.length x) (hop:0 ≤ x.f0∧x.f0 ≤ 6) :
  Calls Try.prog 93 #[.pointer (some ⟨gc,0,none⟩),.agg #[.int .i64 x.f0,.int .i64 x.f1,.int .i64 x.f2,.int .i64 x.f3,.int .i64 x.f4,.int .i64 x.f5,.string x.f6]] w fun e w'=>e = .returned (.tuple #[])∧Px base gc vS (.slice AK cs.length cK) p s PC code (Bf cs x) w w':=by
 have H:=aa.mk h;have HK:=aa.mk hK;have LO:=aa.mk hle;have HN:=aa.mk hn;have HI:=aa.mk hi;have Ks:=aa.mk (jE.start h (.cells #[.int .i64 x.f0,.int .i64 x.f1,.int .i64 x.f2,.int .i64 x.f3,.int .i64 x.f4,.int .i64 x.f5,.string x.f6] 65 (0,0)));clear h hK hle hn hi;go_enter Try.func93,Try.ntmps93
 go_upto_region 1 with (fail)
 generalize w.alloc (.cells #[.int .i64 x.f0,.int .i64 x.f1,.int .i64 x.f2,.int .i64 x.f3,.int .i64 x.f4,.int .i64 x.f5,.string x.f6] 65 (0,0))=w1 at Ks ⊢
 by_cases h0:x.f0=0
 ·have JO:=aa.mk (show True from trivial);have SX:=aa.mk (HI.out.2 (by omega) (by omega));have HE:=aa.mk (show Bf cs x=[⟨0,1,0,0,x.f5⟩,iL cs 1 x.f1] from by unfold Bf;rw [if_pos h0]);have k0:w1.cell? ⟨w.heap.size,0,none⟩=some (.int .i64 0):=by rw [← h0];exact (ja Ks.out.hx 0).trans rfl
  have n6:=aa.mk h0;clear h0 hop;have tU:w1.cell? ⟨w.heap.size,5,none⟩=some (.int .i64 x.f5):=(ja Ks.out.hx 5).trans rfl;go_wp2_with (first|(go_at_call 91;(with_reducible refine (Ks.out.word (⟨0,1,0,0,x.f5⟩:Zb) H.out yaK).mono ?_);rintro e w2 ⟨rfl,hh⟩;have GC:=aa.mk hh;clear hh tU k0;have rU:w2.cell? ⟨w.heap.size,1,none⟩=some (.int .i64 x.f1):=(ja GC.out.hx 1).trans rfl)|(go_at_call 108;(with_reducible refine (GC.out.store H.out HK.out SX.out LO.out yaK).mono ?_);rintro e w3 ⟨rfl,hh⟩;have zK:=aa.mk hh;clear hh rU));refine bodyPost_end (v:=.tuple #[]) ?_ rfl ?_
  ·exact results_none rfl _ _ _
  have hd:=zK.out.done;simp only [List.nil_append,List.append_assoc,List.cons_append] at hd;exact ⟨rfl,by rw [HE.out];exact hd⟩
 have hn0:=h0;clear h0
 by_cases h0:x.f0=1
 ·have JO:=aa.mk (show 0 ≤ x.f2∧x.f2 < (cs.length:Int) from HI.out.1 _ (by rw [Dm (Or.inl h0)];simp));have SX:=aa.mk (HI.out.2 (by omega) (by omega));have HE:=aa.mk (show Bf cs x=[Js cs 1 x.f2,iL cs 1 x.f1] from by unfold Bf;rw [if_neg (show ¬ x.f0=0 by omega)];rw [if_pos h0]);have k0:w1.cell? ⟨w.heap.size,0,none⟩=some (.int .i64 1):=by rw [← h0];exact (ja Ks.out.hx 0).trans rfl
  have n6:=aa.mk h0;clear h0 hop;have FH:w1.cell? ⟨w.heap.size,2,none⟩=some (.int .i64 x.f2):=(ja Ks.out.hx 2).trans rfl;go_wp2_with (first|(go_at_call 94;(with_reducible refine (Ks.out.load H.out HK.out JO.out LO.out yaK).mono ?_);rintro e w2 ⟨rfl,hh⟩;have GC:=aa.mk hh;clear hh FH k0;have rU:w2.cell? ⟨w.heap.size,1,none⟩=some (.int .i64 x.f1):=(ja GC.out.hx 1).trans rfl)|(go_at_call 108;(with_reducible refine (GC.out.store H.out HK.out SX.out LO.out yaK).mono ?_);rintro e w3 ⟨rfl,hh⟩;have zK:=aa.mk hh;clear hh rU));refine bodyPost_end (v:=.tuple #[]) ?_ rfl ?_
  ·exact results_none rfl _ _ _
  have hd:=zK.out.done;simp only [List.nil_append,List.append_assoc,List.cons_append] at hd;exact ⟨rfl,by rw [HE.out];exact hd⟩
 have hn1:=h0;clear h0
 by_cases h0:x.f0=2
 ·have JO:=aa.mk (show (0 ≤ x.f2∧x.f2 < (cs.length:Int))∧(0 ≤ x.f3∧x.f3 < (cs.length:Int)) from ⟨HI.out.1 _ (by rw [Fp h0];simp),HI.out.1 _ (by rw [Fp h0];simp)⟩);have SX:=aa.mk (HI.out.2 (by omega) (by omega));have HE:=aa.mk (show Bf cs x=[Js cs 1 x.f2,Js cs 2 x.f3,⟨3,3,1,2,vH x.f6⟩,iL cs 3 x.f1] from by unfold Bf;rw [if_neg (show ¬ x.f0=0 by omega)];rw [if_neg (show ¬ x.f0=1 by omega)];rw [if_pos h0]);have k0:w1.cell? ⟨w.heap.size,0,none⟩=some (.int .i64 2):=by rw [← h0];exact (ja Ks.out.hx 0).trans rfl
  have n6:=aa.mk h0;clear h0 hop;have FH:w1.cell? ⟨w.heap.size,2,none⟩=some (.int .i64 x.f2):=(ja Ks.out.hx 2).trans rfl
  go_upto_region 11 with (first|(go_at_call 94;(with_reducible refine (Ks.out.load H.out HK.out JO.out.1 LO.out yaK).mono ?_);rintro e w2 ⟨rfl,hh⟩;have GC:=aa.mk hh;clear hh FH k0;have Pax:w2.cell? ⟨w.heap.size,3,none⟩=some (.int .i64 x.f3):=(ja GC.out.hx 3).trans rfl)|(go_at_call 94;(with_reducible refine (GC.out.load H.out HK.out JO.out.2 LO.out yaK).mono ?_);rintro e w3 ⟨rfl,hh⟩;have zK:=aa.mk hh;clear hh Pax;have Jax:w3.cell? ⟨w.heap.size,6,none⟩=some (.string x.f6):=(ja zK.out.hx 6).trans rfl))
  have HSD:=aa.mk (zK.out.below (Jh (Below.refl w3.heap.size w3)));clear Jax zK;refine Gh (n:=8) (S:=fun w'=>w'.cell? ⟨w.heap.size,6,none⟩=some (.string x.f6)) (ds:=[7]) #[false,false,false,false,false,false,false,false] (by kernel_rfl) rfl rfl ((ja HSD.out.hx 6).trans rfl) (fun hHeld=>?_);generalize w3.drew=wd at HSD hHeld ⊢;refine ec (i:=0) (N:=some 38) (v:=?_) (a':=?_) #[true,false,false,false,false,false,false,false] rfl rfl (by kernel_rfl) (fun _ _ _ h=>h) (Or.inl ⟨by rfl,?_⟩) ?_ ?_;rotate_left
  ·exact XaJ
  rotate_left
  ·exact WaJ
  refine ec (i:=2) (N:=some 40) (v:=?_) (a':=?_) #[true,false,true,false,false,false,false,false] rfl rfl (by kernel_rfl) (fun _ _ _ h=>h) (Or.inl ⟨by rfl,?_⟩) ?_ ?_;rotate_left
  ·exact XaJ
  rotate_left
  ·exact WaJ
  refine Pe (i:=3) (N:=some 41) (v:=?_) (a':=?_) #[true,false,true,true,false,false,false,false] rfl rfl (by kernel_rfl) (fun _ _ _ h=>h) (Or.inl ⟨by rfl,?_⟩) hHeld ?_ ?_;rotate_left
  ·intro w' s0;go_simp;with_reducible rfl
  rotate_left
  ·exact WaJ
  refine Gi (i:=1) (N:=some 39) #[true,true,true,true,false,false,false,false] rfl rfl (by kernel_rfl) (by decide) (fun K hK=>?_);refine Hj Try.func110 (by kernel_rfl) rfl #[] (by rfl) rfl rfl (by first|rfl|simp) ?_;with_reducible refine (yy.calls kN wd rfl).mono ?_
  rintro e w5 ⟨v5,rfl,ho,hb⟩;refine ⟨_,rfl,?_⟩;obtain ⟨A5,c5,rfl⟩:=Kd.Lc ho;have HO5:=aa.mk ho;have z_:=aa.mk (HSD.out.below hb);clear ho hb;refine hK.out _ _ ((ja z_.out.hx 6).trans rfl) (fun hHeld=>?_);clear hK K;refine Be (a':=?_) ?_ ?_;rotate_left
  ·show Act.put _ (some 39) _=_
   exact WaJ
  refine Gi (i:=4) (N:=some 42) #[true,true,true,true,true,false,false,false] rfl rfl (by kernel_rfl) (by decide) (fun K hK=>?_);refine Hj Try.func109 (by kernel_rfl) rfl #[.slice A5 kN.length c5,.string x.f6] (by rfl) rfl rfl XaK ?_;with_reducible refine (Gb.calls 8 A5 c5 kN x.f6 (vH x.f6) w5 (Kd.Jb HO5.out).2.2 (Kd.Jb HO5.out).2.1 (PT _)).mono ?_
  rintro e w6 ⟨rfl,hd⟩;refine ⟨_,rfl,?_⟩;have HS6:=aa.mk (z_.out.below hd.below);clear hd;refine hK.out _ _ ((ja HS6.out.hx 6).trans rfl) (fun hHeld=>?_);clear hK K;refine Be (a':=?_) ?_ ?_;rotate_left
  ·show Act.put _ (some 42) _=_
   exact WaJ
  refine ec (i:=5) (N:=some 43) (v:=?_) (a':=?_) #[true,true,true,true,true,true,false,false] rfl rfl (by kernel_rfl) (fun _ _ _ h=>h) (Or.inl ⟨by rfl,?_⟩) ?_ ?_;rotate_left
  ·exact XaJ
  rotate_left
  ·exact WaJ
  refine Gi (i:=6) (N:=some 44) #[true,true,true,true,true,true,true,false] rfl rfl (by kernel_rfl) (by decide) (fun K hK=>?_);refine Dn (w1:=?_) (v:=?_) (by rfl) rfl ?_ ?_;rotate_left 2
  ·go_simp
   constructor
   ·rfl
   ·rfl
  refine hK.out _ _ ((ja (HS6.out.below (ia (Below.refl w6.heap.size w6) _)).hx 6).trans rfl) (fun hHeld=>?_);clear hK K;refine Be (a':=?_) ?_ ?_;rotate_left
  ·show Act.put _ (some 44) _=_
   exact WaJ
  refine aC (i:=7) (N:=some 45) #[true,true,true,true,true,true,true,true] rfl rfl (by kernel_rfl) (by decide) (fun K hK=>?_);refine Hj Try.func91 (by kernel_rfl) rfl #[.pointer (some ⟨gc,0,none⟩),.slice (some ⟨w6.heap.size,0,none⟩) 1 1] (by rfl) rfl rfl XaK ?_;with_reducible refine (HS6.out.word (⟨3,3,1,2,vH x.f6⟩:Zb) H.out yaK).mono ?_
  rintro e w7 ⟨rfl,hh⟩;refine ⟨_,rfl,?_⟩;have A_:=aa.mk hh;clear hh;refine hK.out _ _ ?_;clear hK K;refine Be (a':=?_) ?_ ?_;rotate_left
  ·show Act.put _ (some 45) _=_
   exact WaJ
  refine fk (by kernel_rfl) ?_;clear hHeld;have Iax:w7.cell? ⟨w.heap.size,1,none⟩=some (.int .i64 x.f1):=(ja A_.out.hx 1).trans rfl;go_wp2_with (first|(go_at_call 108;(with_reducible refine (A_.out.store H.out HK.out SX.out LO.out yaK).mono ?_);rintro e w5 ⟨rfl,hh⟩;have z_:=aa.mk hh;clear hh Iax));refine bodyPost_end (v:=.tuple #[]) ?_ rfl ?_
  ·exact results_none rfl _ _ _
  have hd:=z_.out.done;simp only [List.nil_append,List.append_assoc,List.cons_append] at hd;exact ⟨rfl,by rw [HE.out];exact hd⟩
 have hn2:=h0;clear h0
 by_cases h0:x.f0=3
 ·have JO:=aa.mk (show (0 ≤ x.f3∧x.f3 < (cs.length:Int))∧(0 ≤ x.f2→x.f2 < (cs.length:Int)) from ⟨HI.out.1 _ (by rw [Eh (Or.inl h0)];simp),fun h=>(HI.out.1 _ (by rw [Eh (Or.inl h0),if_pos h];simp)).2⟩);have SX:=aa.mk (HI.out.2 (by omega) (by omega));have HE:=aa.mk (show Bf cs x=XM cs x ++ [⟨4,3,1,0,x.f5⟩,iL cs 3 x.f1] from by unfold Bf;rw [if_neg (show ¬ x.f0=0 by omega)];rw [if_neg (show ¬ x.f0=1 by omega)];rw [if_neg (show ¬ x.f0=2 by omega)];rw [if_pos h0]);have k0:w1.cell? ⟨w.heap.size,0,none⟩=some (.int .i64 3):=by rw [← h0];exact (ja Ks.out.hx 0).trans rfl
  have n6:=aa.mk h0;clear h0 hop;have Eaa:w1.cell? ⟨w.heap.size,0,none⟩=some (.int .i64 x.f0):=(ja Ks.out.hx 0).trans rfl;have Daa:w1.cell? ⟨w.heap.size,1,none⟩=some (.int .i64 x.f1):=(ja Ks.out.hx 1).trans rfl;have FH:w1.cell? ⟨w.heap.size,2,none⟩=some (.int .i64 x.f2):=(ja Ks.out.hx 2).trans rfl;have Caa:w1.cell? ⟨w.heap.size,3,none⟩=some (.int .i64 x.f3):=(ja Ks.out.hx 3).trans rfl;have Baa:w1.cell? ⟨w.heap.size,4,none⟩=some (.int .i64 x.f4):=(ja Ks.out.hx 4).trans rfl;have tU:w1.cell? ⟨w.heap.size,5,none⟩=some (.int .i64 x.f5):=(ja Ks.out.hx 5).trans rfl;have Aaa:w1.cell? ⟨w.heap.size,6,none⟩=some (.string x.f6):=(ja Ks.out.hx 6).trans rfl;go_wp2_with (first|(go_at_call 111;(with_reducible refine (Ks.out.at_ (x:=x) H.out HK.out LO.out yaK JO.out.1 JO.out.2).mono ?_);rintro e w2 ⟨rfl,hh⟩;have GC:=aa.mk hh;clear hh Eaa Daa FH Caa Baa tU Aaa k0;have Nax:w2.cell? ⟨w.heap.size,5,none⟩=some (.int .i64 x.f5):=(ja GC.out.hx 5).trans rfl)|(go_at_call 91;(with_reducible refine (GC.out.word (⟨4,3,1,0,x.f5⟩:Zb) H.out caL).mono ?_);rintro e w3 ⟨rfl,hh⟩;have zK:=aa.mk hh;clear hh Nax;have Lax:w3.cell? ⟨w.heap.size,1,none⟩=some (.int .i64 x.f1):=(ja zK.out.hx 1).trans rfl)|(go_at_call 108;(with_reducible refine (zK.out.store H.out HK.out SX.out LO.out caL).mono ?_);rintro e w4 ⟨rfl,hh⟩;have A_:=aa.mk hh;clear hh Lax));refine bodyPost_end (v:=.tuple #[]) ?_ rfl ?_
  ·exact results_none rfl _ _ _
  have hd:=A_.out.done;simp only [List.nil_append,List.append_assoc,List.cons_append] at hd;exact ⟨rfl,by rw [HE.out];exact hd⟩
 have hn3:=h0;clear h0
 by_cases h0:x.f0=4
 ·have JO:=aa.mk (show (0 ≤ x.f3∧x.f3 < (cs.length:Int))∧(0 ≤ x.f2→x.f2 < (cs.length:Int))∧(0 ≤ x.f4∧x.f4 < (cs.length:Int)) from ⟨HI.out.1 _ (by rw [Eh (Or.inr h0)];simp),fun h=>(HI.out.1 _ (by rw [Eh (Or.inr h0),if_pos h];simp)).2,HI.out.1 _ (by rw [Eh (Or.inr h0),if_pos h0];simp)⟩);have HE:=aa.mk (show Bf cs x=XM cs x ++ [Js cs 3 x.f4,⟨5,3,1,0,x.f5⟩] from by unfold Bf;rw [if_neg (show ¬ x.f0=0 by omega)];rw [if_neg (show ¬ x.f0=1 by omega)];rw [if_neg (show ¬ x.f0=2 by omega)];rw [if_neg (show ¬ x.f0=3 by omega)];rw [if_pos h0]);have k0:w1.cell? ⟨w.heap.size,0,none⟩=some (.int .i64 4):=by rw [← h0];exact (ja Ks.out.hx 0).trans rfl
  have n6:=aa.mk h0;clear h0 hop;have Eaa:w1.cell? ⟨w.heap.size,0,none⟩=some (.int .i64 x.f0):=(ja Ks.out.hx 0).trans rfl;have Daa:w1.cell? ⟨w.heap.size,1,none⟩=some (.int .i64 x.f1):=(ja Ks.out.hx 1).trans rfl;have FH:w1.cell? ⟨w.heap.size,2,none⟩=some (.int .i64 x.f2):=(ja Ks.out.hx 2).trans rfl;have Caa:w1.cell? ⟨w.heap.size,3,none⟩=some (.int .i64 x.f3):=(ja Ks.out.hx 3).trans rfl;have Baa:w1.cell? ⟨w.heap.size,4,none⟩=some (.int .i64 x.f4):=(ja Ks.out.hx 4).trans rfl;have tU:w1.cell? ⟨w.heap.size,5,none⟩=some (.int .i64 x.f5):=(ja Ks.out.hx 5).trans rfl;have Aaa:w1.cell? ⟨w.heap.size,6,none⟩=some (.string x.f6):=(ja Ks.out.hx 6).trans rfl;go_wp2_with (first|(go_at_call 111;(with_reducible refine (Ks.out.at_ (x:=x) H.out HK.out LO.out yaK JO.out.1 JO.out.2.1).mono ?_);rintro e w2 ⟨rfl,hh⟩;have GC:=aa.mk hh;clear hh Eaa Daa FH Caa Baa tU Aaa k0;have Oax:w2.cell? ⟨w.heap.size,4,none⟩=some (.int .i64 x.f4):=(ja GC.out.hx 4).trans rfl)|(go_at_call 94;(with_reducible refine (GC.out.load H.out HK.out JO.out.2.2 LO.out caL).mono ?_);rintro e w3 ⟨rfl,hh⟩;have zK:=aa.mk hh;clear hh Oax;have Kax:w3.cell? ⟨w.heap.size,5,none⟩=some (.int .i64 x.f5):=(ja zK.out.hx 5).trans rfl)|(go_at_call 91;(with_reducible refine (zK.out.word (⟨5,3,1,0,x.f5⟩:Zb) H.out caL).mono ?_);rintro e w4 ⟨rfl,hh⟩;have A_:=aa.mk hh;clear hh Kax));refine bodyPost_end (v:=.tuple #[]) ?_ rfl ?_
  ·exact results_none rfl _ _ _
  have hd:=A_.out.done;simp only [List.nil_append,List.append_assoc,List.cons_append] at hd;exact ⟨rfl,by rw [HE.out];exact hd⟩
 have qG:=h0;clear h0
 by_cases h0:x.f0=5
 ·have JO:=aa.mk (show True from trivial);have SX:=aa.mk (HI.out.2 (by omega) (by omega));have HE:=aa.mk (show Bf cs x=[⟨6,1,0,0,0⟩,iL cs 1 x.f1] from by unfold Bf;rw [if_neg (show ¬ x.f0=0 by omega)];rw [if_neg (show ¬ x.f0=1 by omega)];rw [if_neg (show ¬ x.f0=2 by omega)];rw [if_neg (show ¬ x.f0=3 by omega)];rw [if_neg (show ¬ x.f0=4 by omega)];rw [if_pos h0]);have k0:w1.cell? ⟨w.heap.size,0,none⟩=some (.int .i64 5):=by rw [← h0];exact (ja Ks.out.hx 0).trans rfl
  have n6:=aa.mk h0;clear h0 hop;go_wp2_with (first|(go_at_call 91;(with_reducible refine (Ks.out.word (⟨6,1,0,0,0⟩:Zb) H.out yaK).mono ?_);rintro e w2 ⟨rfl,hh⟩;have GC:=aa.mk hh;clear hh k0;have rU:w2.cell? ⟨w.heap.size,1,none⟩=some (.int .i64 x.f1):=(ja GC.out.hx 1).trans rfl)|(go_at_call 108;(with_reducible refine (GC.out.store H.out HK.out SX.out LO.out yaK).mono ?_);rintro e w3 ⟨rfl,hh⟩;have zK:=aa.mk hh;clear hh rU));refine bodyPost_end (v:=.tuple #[]) ?_ rfl ?_
  ·exact results_none rfl _ _ _
  have hd:=zK.out.done;simp only [List.nil_append,List.append_assoc,List.cons_append] at hd;exact ⟨rfl,by rw [HE.out];exact hd⟩
 have hn5:=h0;clear h0;have h0:x.f0=6:=by omega
 have JO:=aa.mk (show 0 ≤ x.f2∧x.f2 < (cs.length:Int) from HI.out.1 _ (by rw [Dm (Or.inr h0)];simp));have HE:=aa.mk (show Bf cs x=[Js cs 1 x.f2,⟨7,1,0,0,0⟩] from by unfold Bf;rw [if_neg (show ¬ x.f0=0 by omega)];rw [if_neg (show ¬ x.f0=1 by omega)];rw [if_neg (show ¬ x.f0=2 by omega)];rw [if_neg (show ¬ x.f0=3 by omega)];rw [if_neg (show ¬ x.f0=4 by omega)];rw [if_neg (show ¬ x.f0=5 by omega)]);have k0:w1.cell? ⟨w.heap.size,0,none⟩=some (.int .i64 6):=by rw [← h0];exact (ja Ks.out.hx 0).trans rfl
 have n6:=aa.mk h0;clear h0 hop;have FH:w1.cell? ⟨w.heap.size,2,none⟩=some (.int .i64 x.f2):=(ja Ks.out.hx 2).trans rfl;go_wp2_with (first|(go_at_call 94;(with_reducible refine (Ks.out.load H.out HK.out JO.out LO.out yaK).mono ?_);rintro e w2 ⟨rfl,hh⟩;have GC:=aa.mk hh;clear hh FH k0)|(go_at_call 91;(with_reducible refine (GC.out.word (⟨7,1,0,0,0⟩:Zb) H.out yaK).mono ?_);rintro e w3 ⟨rfl,hh⟩;have zK:=aa.mk hh;clear hh ));refine bodyPost_end (v:=.tuple #[]) ?_ rfl ?_
 ·exact results_none rfl _ _ _
 have hd:=zK.out.done;simp only [List.nil_append,List.append_assoc,List.cons_append] at hd;exact ⟨rfl,by rw [HE.out];exact hd⟩
end Go.Proofs.Ytkigbdceceeenaa.P
end
section
namespace Go.Proofs.Ytkigbdceceeenaa.P
open Go.RowKit Go.Proofs.Oa.Rb Go.Proofs.Oa.Pd Go.Proofs.Oa.Re
set_option linter.unusedVariables false
set_option linter.unusedSimpArgs false
structure Dp (base gc qj q5:Nat) (Fx:Nat→Prop) (vS vK:Value) (p s:Int) (code:List Zb) (jmp Vk:List Int) (vB:Value) (wS wr:World):Prop where
 c:∃ (PC PJ:Nat→Prop) (vJ:Value),VA base gc vS vK p s PC code wr∧wr.heap[qj]? = some (.cells #[vJ] 22 (0,0))∧Kd.R (Kd.int .i64) 3 wr base PJ vJ jmp ∧
  Kd.R (Kd.int .i64) 3 wr base (fun k=>¬ PC k∧¬ PJ k∧¬ Fx k∧k ≠ gc∧k ≠ qj) vB Vk∧(∀ k,PC k→¬ PJ k∧¬ Fx k∧k ≠ qj)∧(∀ k,PJ k→base ≤ k∧k < wr.heap.size∧¬ Fx k∧k ≠ gc∧k ≠ qj)
 k:Kept wS wr (fun k=>¬ Fx k)
 b:Below 0 wS wr
 fx:¬ Fx gc∧¬ Fx qj∧gc ≠ qj∧base ≤ qj
 h5:Fx q5∧wS.heap[q5]? = some (.cells #[.pointer (some ⟨gc,0,none⟩)] 104 (0,0))
 lt:∀ k,Fx k→k < wS.heap.size
section
variable {base gc qj q5:Nat} {Fx:Nat→Prop} {vS vK vB:Value} {p s:Int} {code zs:List Zb} {jmp Vk:List Int} {wS W W1:World}
theorem Dp.p5 (h:Dp base gc qj q5 Fx vS vK p s code jmp Vk vB wS W):W.heap[q5]? = some (.cells #[.pointer (some ⟨gc,0,none⟩)] 104 (0,0)):=Sd h.h5.2 h.k (fun e=>e h.h5.1)
theorem Dp.below (h:Dp base gc qj q5 Fx vS vK p s code jmp Vk vB wS W) (hb:Below W.heap.size W W1):Dp base gc qj q5 Fx vS vK p s code jmp Vk vB wS W1:=by
 obtain ⟨PC,PJ,vJ,c1,c2,c3,c4,c5,c6⟩:=h.c;exact ⟨⟨PC,PJ,vJ,c1.below hb,Na c2 hb,Kd.Yb c3 hb,Kd.Yb c4 hb,c5,fun k hk=>⟨(c6 k hk).1,Nat.lt_of_lt_of_le (c6 k hk).2.1 hb.size,(c6 k hk).2.2⟩⟩,h.k.below hb,h.b.trans (ql hb),h.fx,h.h5,h.lt⟩
theorem Dp.run {P:Program} {F:Nat} {args:Array Value} (h:Dp base gc qj q5 Fx vS vK p s code jmp Vk vB wS W)
  (hc:∀ PC,VA base gc vS vK p s PC code W→(∀ W2,Kept W W2 (fun k=>k=gc ∨ PC k)→Kept wS W2 (fun k=>¬ Fx k))→Calls P F args W fun e w'=>e = .returned (.tuple #[])∧Px base gc vS vK p s PC code zs W w') :
  Calls P F args W fun e w'=>e = .returned (.tuple #[])∧Dp base gc qj q5 Fx vS vK p s (code ++ zs) jmp Vk vB wS w':=by
 obtain ⟨PC,PJ,vJ,c1,c2,c3,c4,c5,c6⟩:=h.c;have hS:∀ k,k=gc ∨ PC k→¬ Fx k:=fun k e=>e.elim (fun e=>e ▸ h.fx.1) (fun e=>(c5 k e).2.1)
 have hl:=Tb c2;refine (hc PC c1 (fun W2 hk=>h.k.Gj hk (fun k e=>Or.inl (hS k e)))).mono ?_;rintro e w' ⟨e1,e2⟩;obtain ⟨PC2,d1,d2⟩:=e2.c;refine ⟨e1,⟨PC2,PJ,vJ,d1,Sd c2 e2.k (fun e=>e.elim (fun e=>h.fx.2.2.1 e.symm) (fun e=>(c5 _ e).2.2 rfl)),Kd.Kh c3 e2.k (fun k hk e=>e.elim (fun e=>(c6 k hk).2.2.2.1 e) (fun e=>(c5 k e).1 hk)),?_,fun k hk=>?_,fun k hk=>⟨(c6 k hk).1,Nat.lt_of_lt_of_le (c6 k hk).2.1 e2.k.1,(c6 k hk).2.2⟩⟩,h.k.Gj e2.k (fun k e=>Or.inl (hS k e)),h.b.trans e2.b,h.fx,h.h5,h.lt⟩
 ·refine Kd.yc (Kd.Kh (Kd.Xf c4) e2.k (fun k hk e=>e.elim hk.1.2.2.2.1 hk.1.1)) (fun k hk=>⟨fun e=>(d2 k e).elim hk.1.1 (fun e=>by have:=hk.2.2.1;omega),hk.1.2⟩)
 ·rcases d2 k hk with e|e
  ·exact c5 k e
  ·have:=h.lt k;have:=h.k.1;exact ⟨fun e2=>by have:=(c6 k e2).2.1;omega,fun e2=>by have:=h.lt k e2;omega,fun e2=>by omega⟩
theorem Dp.box {o:Obj} (h:Dp base gc qj q5 Fx vS vK p s code jmp Vk vB wS W):Dp base gc qj q5 (fun k=>Fx k ∨ k=W.heap.size) vS vK p s code jmp Vk vB (W.alloc o) (W.alloc o):=by
 have hb:=ia (Below.refl W.heap.size W) o;have h2:=h.below hb;have hz:(W.alloc o).heap.size=W.heap.size + 1:=by simp
 obtain ⟨PC,PJ,vJ,c1,c2,c3,c4,c5,c6⟩:=h.c;have hl:=Tb c2;have hg:=c1.lt;refine ⟨⟨PC,PJ,vJ,c1.below hb,Na c2 hb,Kd.Yb c3 hb,Kd.yc (Kd.Yb (Kd.Xf c4) hb) (fun k hk=>⟨hk.1.1,hk.1.2.1,fun e=>e.elim hk.1.2.2.1 (fun e=>by have:=hk.2.2.1;omega),hk.1.2.2.2⟩),fun k hk=>⟨(c5 k hk).1,fun e=>e.elim (c5 k hk).2.1 (fun e=>by have:=(c1.pb k hk).2.1;omega),(c5 k hk).2.2⟩,fun k hk=>⟨(c6 k hk).1,by have:=(c6 k hk).2.1;omega,fun e=>e.elim (c6 k hk).2.2.1 (fun e=>by have:=(c6 k hk).2.1;omega),(c6 k hk).2.2.2⟩⟩,Kept.refl _ _,Below.refl _ _,⟨fun e=>e.elim h.fx.1 (fun e=>by omega),fun e=>e.elim h.fx.2.1 (fun e=>by omega),h.fx.2.2⟩,⟨Or.inl h.h5.1,h2.p5⟩,fun k hk=>?_⟩
 rcases hk with e|e
 ·have:=h.lt k e;have:=h.k.1;omega
 ·omega
theorem Dp.pop {Fx2:Nat→Prop} {w2:World} {vr:List Zb} {vL mM:List Int} {Z6:Value} (h:Dp base gc qj q5 Fx vS vK p s code jmp Vk vB wS W) (hb:Below W.heap.size W W1) (hF:∀ k,Fx k→Fx2 k) (h2:Dp base gc qj q5 Fx2 vS vK p s vr vL mM Z6 W1 w2):Dp base gc qj q5 Fx vS vK p s vr vL mM Z6 wS w2:=by
 obtain ⟨PC,PJ,vJ,c1,c2,c3,c4,c5,c6⟩:=h2.c;exact ⟨⟨PC,PJ,vJ,c1,c2,c3,Kd.yc c4 (fun k hk=>⟨hk.1,hk.2.1,fun e=>hk.2.2.1 (hF k e),hk.2.2.2⟩),fun k hk=>⟨(c5 k hk).1,fun e=>(c5 k hk).2.1 (hF k e),(c5 k hk).2.2⟩,fun k hk=>⟨(c6 k hk).1,(c6 k hk).2.1,fun e=>(c6 k hk).2.2.1 (hF k e),(c6 k hk).2.2.2⟩⟩,(h.k.below hb).Gj h2.k (fun k e=>Or.inl (fun e2=>e (hF k e2))),(h.b.trans (ql hb)).trans h2.b,h.fx,h.h5,h.lt⟩
theorem Dp.word (x:Zb) (h:Dp base gc qj q5 Fx vS vK p s code jmp Vk vB wS W) (hn:code.length + 1 ≤ 1000000000) :
  Calls Try.prog 91 #[.pointer (some ⟨gc,0,none⟩),.slice (some ⟨W.heap.size,0,none⟩) 1 1] (W.alloc (.cells #[.int .i64 x.f0,.int .i64 x.f1,.int .i64 x.f2,.int .i64 x.f3,.int .i64 x.f4] 79 (0,0))) fun e w'=>e = .returned (.tuple #[])∧Dp base gc qj q5 Fx vS vK p s (code ++ [x]) jmp Vk vB wS w' :=
 (h.below (ia (Below.refl W.heap.size W) _)).run (fun PC hc _=>Ns x W.heap.size 1 hc (kg W _) (Nat.le_refl _) hn)
end
section
variable {base gc qj q5:Nat} {Fx:Nat→Prop} {vS vB:Value} {p s:Int} {code:List Zb} {jmp Vk:List Int} {wS W:World} {AK:Option Addr} {cK:Nat} {cs:List Int}
theorem Dp.load {r z:Int} (h:Dp base gc qj q5 Fx vS (.slice AK cs.length cK) p s code jmp Vk vB wS W) (hK:∀ W,Kept wS W (fun k=>¬ Fx k)→Kd.C (Kd.int .i64) W AK cs.length cs) (hz:0 ≤ z∧z < (cs.length:Int)) (hle:∀ i:Nat,i < cs.length→rd cs (i:Int) ≤ 11) (hn:code.length + 1 ≤ 1000000000) :
  Calls Try.prog 94 #[.pointer (some ⟨gc,0,none⟩),.int .i64 r,.int .i64 z] W fun e w'=>e = .returned (.tuple #[])∧Dp base gc qj q5 Fx vS (.slice AK cs.length cK) p s (code ++ [Js cs r z]) jmp Vk vB wS w':=by
 obtain ⟨n,rfl⟩:∃ n:Nat,z=(n:Int):=⟨z.toNat,(Int.toNat_of_nonneg hz.1).symm⟩;exact h.run (fun PC hc hk=>uL base gc vS p s PC code AK cK cs r n W hc (hK W h.k) (by omega) (hle n (by omega)) hn)
theorem Dp.instr {x:tf} (h:Dp base gc qj q5 Fx vS (.slice AK cs.length cK) p s code jmp Vk vB wS W) (hK:∀ W,Kept wS W (fun k=>¬ Fx k)→Kd.C (Kd.int .i64) W AK cs.length cs) (hi:mz cs.length x) (hop:0 ≤ x.f0∧x.f0 ≤ 6) (hle:∀ i:Nat,i < cs.length→rd cs (i:Int) ≤ 11) (hn:code.length + 10 ≤ 1000000000) :
  Calls Try.prog 93 #[.pointer (some ⟨gc,0,none⟩),.agg #[.int .i64 x.f0,.int .i64 x.f1,.int .i64 x.f2,.int .i64 x.f3,.int .i64 x.f4,.int .i64 x.f5,.string x.f6]] W fun e w'=>e = .returned (.tuple #[])∧Dp base gc qj q5 Fx vS (.slice AK cs.length cK) p s (code ++ Bf cs x) jmp Vk vB wS w' :=
 h.run (fun PC hc hk=>GS base gc vS p s PC code AK cK cs x W hc (fun W2 h2=>hK W2 (hk W2 h2)) hle hn hi hop)
end
end Go.Proofs.Ytkigbdceceeenaa.P
end
section
namespace Go.Proofs.Ytkigbdceceeenaa.P
open Go.RowKit Go.Proofs.Oa.Rb Go.Proofs.Oa.Pd Go.Proofs.Oa.Re
set_option linter.unusedVariables false
set_option linter.unusedSimpArgs false
theorem Dp.aaA {base gc qj q5:Nat} {Fx:Nat→Prop} {vS vK vB:Value} {p s:Int} {code:List Zb} {jmp Vk:List Int} {wS W W1:World} (h:Dp base gc qj q5 Fx vS vK p s code jmp Vk vB wS W) {PC PJ:Nat→Prop} {vJ:Value} (c1:VA base gc vS vK p s PC code W) (c2:W.heap[qj]? = some (.cells #[vJ] 22 (0,0))) (c3:Kd.R (Kd.int .i64) 3 W base PJ vJ jmp)
  (c4:Kd.R (Kd.int .i64) 3 W base (fun k=>¬ PC k∧¬ PJ k∧¬ Fx k∧k ≠ gc∧k ≠ qj) vB Vk) (c5:∀ k,PC k→¬ PJ k∧¬ Fx k∧k ≠ qj) (c6:∀ k,PJ k→base ≤ k∧k < W.heap.size∧¬ Fx k∧k ≠ gc∧k ≠ qj)
  {v:Value} {js:List Int} (ho:Kd.R (Kd.int .i64) 3 W1 base (fun k=>PJ k ∨ W.heap.size ≤ k) v js) (hg:W.grownBy W1 vJ.ownBlock) (hb:Below base W W1) :
  Dp base gc qj q5 Fx vS vK p s code js Vk vB wS (W1.setCell ⟨qj,0,none⟩ v):=by
 have hl:=Tb c2;have m8:Kept W W1 (fun k=>PJ k):=⟨hg.size,fun k hk hn=>hg.block k hk (fun e=>hn (c3.1 k e.symm))⟩;have hk2:Kept W1 (W1.setCell ⟨qj,0,none⟩ v) (fun k=>k=qj):=(Kept.refl W1 (fun k=>k=qj)).setCell (p:=⟨qj,0,none⟩) (Or.inl rfl) v;have Ts:Kept W W1 (fun k=>PJ k ∨ k=qj):=⟨m8.1,fun k h1 h2=>m8.2 k h1 (fun e=>h2 (Or.inl e))⟩;have hk:Kept W (W1.setCell ⟨qj,0,none⟩ v) (fun k=>PJ k ∨ k=qj):=Kept.Gj Ts hk2 (fun k e=>Or.inl (Or.inr e));clear Ts;have hx1:W1.heap[qj]? = some (.cells #[vJ] 22 (0,0)):=Sd c2 m8 (fun e=>(c6 _ e).2.2.2.2 rfl);refine ⟨⟨PC,fun k=>(PJ k ∨ W.heap.size ≤ k)∧base ≤ k∧k < W1.heap.size,v,c1.kept hk (fun k e=>e.elim (fun e=>⟨(c6 k e).2.2.2.1,fun e2=>(c5 k e2).1 e⟩) (fun e=>⟨fun e2=>h.fx.2.2.1 (e2.symm.trans e),fun e2=>(c5 k e2).2.2 e⟩)),(yp hx1 0 v).trans rfl,?_,?_,fun k Ts=>⟨fun e=>?_,(c5 k Ts).2⟩,fun k Ts=>⟨Ts.2.1,Nat.lt_of_lt_of_le Ts.2.2 hk2.1,?_⟩⟩,h.k.Gj hk (fun k e=>?_),?_,h.fx,h.h5,h.lt⟩
 ·refine Kd.Kh (Kd.yc (Kd.Xf ho) (fun k Ts=>⟨Ts.1,Ts.2.1,Ts.2.2.1⟩)) hk2 (fun k Ts e=>?_);exact Ts.1.elim (fun e2=>(c6 k e2).2.2.2.2 e) (fun e2=>by omega)
 ·refine Kd.yc (Kd.Kh (Kd.Xf c4) hk (fun k Ts e=>e.elim Ts.1.2.1 Ts.1.2.2.2.2)) (fun k Ts=>⟨Ts.1.1,fun e=>e.1.elim Ts.1.2.1 (fun e=>by have:=Ts.2.2.1;omega),Ts.1.2.2⟩)
 ·exact e.1.elim (c5 k Ts).1 (fun e=>by have:=(c1.pb k Ts).2.1;omega)
 ·rcases Ts.1 with e|e
  ·exact (c6 k e).2.2
  ·have:=h.k.1;have:=c1.lt;exact ⟨fun e2=>by have:=h.lt k e2;omega,by omega,by omega⟩
 ·exact e.elim (fun e=>Or.inl (c6 k e).2.2.1) (fun e=>Or.inl (e ▸ h.fx.2.1))
 ·exact h.b.trans ((⟨hb.os,hb.tape,hb.output,hg.size,fun k hk=>absurd hk (Nat.not_lt_zero _)⟩:Below 0 W W1).trans ((Below.refl 0 W1).setCell (Nat.zero_le _) _))
theorem Dp.jump {base gc qj q5:Nat} {Fx:Nat→Prop} {vS vK vB:Value} {p s:Int} {code:List Zb} {jmp Vk:List Int} {wS w:World} (x:Zb) (h:Dp base gc qj q5 Fx vS vK p s code jmp Vk vB wS w) (hn:code.length + 1 ≤ 1000000000) (hj:jmp.length ≤ 1000000000) :
  Calls Try.prog 92 #[.agg #[.int .i64 x.f0,.int .i64 x.f1,.int .i64 x.f2,.int .i64 x.f3,.int .i64 x.f4],.pointer (some ⟨qj,0,none⟩),.pointer (some ⟨q5,0,none⟩)] w fun e w'=>e = .returned (.tuple #[])∧Dp base gc qj q5 Fx vS vK p s (code ++ [x]) (jmp ++ [(code.length:Int)]) Vk vB wS w':=by
 have H:=aa.mk h;have HN:=aa.mk hn;have HJL:=aa.mk (show (jmp.length + 1) * 8 ≤ 140737488355328 by omega);have XA:=aa.mk (ia (Below.refl w.heap.size w) (.cells #[.int .i64 x.f0,.int .i64 x.f1,.int .i64 x.f2,.int .i64 x.f3,.int .i64 x.f4] 79 (0,0)));have Y5:=aa.mk (kg w (.cells #[.int .i64 x.f0,.int .i64 x.f1,.int .i64 x.f2,.int .i64 x.f3,.int .i64 x.f4] 79 (0,0)));have QF:=aa.mk (h.box (o:=.cells #[.int .i64 x.f0,.int .i64 x.f1,.int .i64 x.f2,.int .i64 x.f3,.int .i64 x.f4] 79 (0,0)));clear h hn hj;go_enter Try.func92,Try.ntmps92
 go_upto_region 1 with (fail)
 generalize w.alloc (.cells #[.int .i64 x.f0,.int .i64 x.f1,.int .i64 x.f2,.int .i64 x.f3,.int .i64 x.f4] 79 (0,0))=w1 at XA Y5 QF ⊢;have P_:=aa.mk (QF.out.below (Jh (Below.refl w1.heap.size w1)));obtain ⟨PC,PJ,vJ,c1,c2,c3,c4,c5,c6⟩:=P_.out.c;obtain ⟨vC,hx,hr⟩:=c1.hx;obtain ⟨A0,c0,rfl⟩:=Kd.Lc hr;obtain ⟨AJ,cJ,rfl⟩:=Kd.Lc c3;have HD:=aa.mk (And.intro c1 (And.intro c2 (And.intro c3 (And.intro c4 (And.intro c5 c6)))));have HGC:=aa.mk hx;have H5:=aa.mk P_.out.p5;clear c1 c2 c3 c4 c5 c6 hx hr;refine Gh (n:=10) (S:=fun w'=>w'.cell? ⟨qj,0,none⟩=some (.slice AJ jmp.length cJ)∧w'.cell? ⟨q5,0,none⟩=some (.pointer (some ⟨gc,0,none⟩))∧w'.cell? ⟨gc,3,none⟩=some (.slice A0 code.length c0)) (ds:=[9]) #[false,false,false,false,false,false,false,false,false,false] (by kernel_rfl) rfl rfl ⟨(ja HD.out.2.1 0).trans rfl,(ja H5.out 0).trans rfl,(ja HGC.out 3).trans rfl⟩ (fun hHeld=>?_);generalize w1.drew=wd at P_ HD HGC H5 hHeld ⊢;refine Pe (i:=0) (N:=some 4) (v:=?_) (a':=?_) #[true,false,false,false,false,false,false,false,false,false] rfl rfl (by kernel_rfl) (fun _ _ _ h=>h) (Or.inl ⟨by rfl,?_⟩) hHeld ?_ ?_;rotate_left
 ·exact faK
 rotate_left
 ·exact WaJ
 refine Pe (i:=1) (N:=some 5) (v:=?_) (a':=?_) #[true,true,false,false,false,false,false,false,false,false] rfl rfl (by kernel_rfl) (fun _ _ _ h=>h) (Or.inl ⟨by rfl,?_⟩) hHeld ?_ ?_;rotate_left
 ·exact faK
 rotate_left
 ·exact WaJ
 refine ec (i:=2) (N:=some 6) (v:=?_) (a':=?_) #[true,true,true,false,false,false,false,false,false,false] rfl rfl (by kernel_rfl) (fun _ _ _ h=>h) (Or.inl ⟨by rfl,?_⟩) ?_ ?_;rotate_left
 ·exact XaJ
 rotate_left
 ·exact WaJ
 refine ec (i:=3) (N:=some 7) (v:=?_) (a':=?_) #[true,true,true,true,false,false,false,false,false,false] rfl rfl (by kernel_rfl) (fun _ _ _ h=>h) (Or.inl ⟨by rfl,?_⟩) ?_ ?_;rotate_left
 ·exact XaJ
 rotate_left
 ·exact WaJ
 refine ec (i:=4) (N:=some 8) (v:=?_) (a':=?_) #[true,true,true,true,true,false,false,false,false,false] rfl rfl (by kernel_rfl) (fun _ _ _ h=>h) (Or.inl ⟨by rfl,?_⟩) ?_ ?_;rotate_left
 ·exact XaJ
 rotate_left
 ·exact WaJ
 refine Pe (i:=5) (N:=some 9) (v:=?_) (a':=?_) #[true,true,true,true,true,true,false,false,false,false] rfl rfl (by kernel_rfl) (fun _ _ _ h=>h) (Or.inl ⟨by rfl,?_⟩) hHeld ?_ ?_;rotate_left
 ·exact faK
 rotate_left
 ·exact WaJ
 refine ec (i:=6) (N:=some 10) (v:=?_) (a':=?_) #[true,true,true,true,true,true,true,false,false,false] rfl rfl (by kernel_rfl) (fun _ _ _ h=>h) (Or.inl ⟨by rfl,?_⟩) ?_ ?_;rotate_left
 ·exact XaJ
 rotate_left
 ·exact WaJ
 refine Gi (i:=7) (N:=some 11) #[true,true,true,true,true,true,true,true,false,false] rfl rfl (by kernel_rfl) (by decide) (fun K hK=>?_);refine Dn (w1:=?_) (v:=?_) (by rfl) rfl ?_ ?_;rotate_left 2
 ·go_simp
  constructor
  ·rfl
  ·rfl
 refine hK.out _ _ ⟨(ja (Na HD.out.2.1 (ia (Below.refl _ _) _)) 0).trans rfl,(ja (Na H5.out (ia (Below.refl _ _) _)) 0).trans rfl,(ja (Na HGC.out (ia (Below.refl _ _) _)) 3).trans rfl⟩ (fun hHeld=>?_);clear hK K;refine Be (a':=?_) ?_ ?_;rotate_left
 ·show Act.put _ (some 11) _=_
  exact WaJ
 refine Gi (i:=8) (N:=some 12) #[true,true,true,true,true,true,true,true,true,false] rfl rfl (by kernel_rfl) (by decide) (fun K hK=>?_);refine Kd.EG (Kd.int .i64) (w0:=wd) base (by rfl) (.tmp 4) (.tmp 11) 22 3 (.int .i64 0) 8 rfl Try.underlying22 info3 rfl (by decide) (by omega) (.slice AJ jmp.length cJ) jmp (code.length:Int) [.int .i64 (code.length:Int)] (fun k=>PJ k ∨ wd.heap.size ≤ k) (fun _=>False) rfl rfl ?aP (fun _ hk=>hk.elim) (fun _ hk=>Or.inr hk) (Kd.yc HD.out.2.2.1 (fun _ hk=>Or.inl hk)) (Below.refl _ _) ?aB HJL.out ?_
 (case aP=>exact rfl)
 (case aB=>exact Nat.le_trans HD.out.1.bs (Nat.le_of_lt HD.out.1.lt))
 intro v12 Ao ho hb hg hat;obtain ⟨A12,uo,Saf⟩:=Kd.Lc ho;rw [List.length_append,List.length_singleton] at Saf;subst Saf;have F6:=aa.mk (P_.out.aaA HD.out.1 HD.out.2.1 HD.out.2.2.1 HD.out.2.2.2.1 HD.out.2.2.2.2.1 HD.out.2.2.2.2.2 ho hg hb);have FG:=aa.mk (Mc HD.out.2.1 hg (fun e=>(HD.out.2.2.2.2.2 qj (HD.out.2.2.1.1 qj e.symm)).2.2.2.2 rfl));have faB:=aa.mk (Mc H5.out hg (fun e=>(HD.out.2.2.2.2.2 q5 (HD.out.2.2.1.1 q5 e.symm)).2.2.1 P_.out.h5.1));have UaA:=aa.mk (Mc HGC.out hg (fun e=>(HD.out.2.2.2.2.2 gc (HD.out.2.2.1.1 gc e.symm)).2.2.2.1 rfl));clear ho hb hg hat;refine hK.out _ _ ⟨(ja FG.out 0).trans rfl,(ja faB.out 0).trans rfl,(ja UaA.out 3).trans rfl⟩ (fun hHeld=>?_);clear hK K;refine Be (a':=?_) ?_ ?_;rotate_left
 ·show Act.put _ (some 12) _=_
  exact WaJ
 refine aC (i:=9) (N:=none) #[true,true,true,true,true,true,true,true,true,true] rfl rfl (by kernel_rfl) (by decide) (fun K hK=>?_);have hfz:=qa FG.out 0;have hcz:Ao.cell? ⟨qj,0,none⟩=some (.slice AJ jmp.length cJ):=(ja FG.out 0).trans rfl;refine DE (w1:=?_) (by rfl) rfl ?_ ?_;rotate_left
 ·go_simp
  rfl
 refine hK.out _ _ ?_;clear hK K;refine fk (by kernel_rfl) ?_;clear hHeld;generalize eaz:Ao.setCell ⟨qj,0,none⟩ (.slice A12 (jmp.length + 1) uo)=Ep at F6 ⊢;have h5:Ep.cell? ⟨q5,0,none⟩=some (.pointer (some ⟨gc,0,none⟩)):=(ja F6.out.p5 0).trans rfl;have HXB:=aa.mk (Sd Y5.out F6.out.k (fun e=>e (Or.inr rfl)));obtain ⟨x0,x1,x2,x3,x4⟩:=Waz HXB.out;clear eaz;go_wp2_with (first|(go_at_call 91;(with_reducible refine (F6.out.word x HN.out).mono ?_);rintro e Ol ⟨rfl,h14⟩;have caB:=aa.mk h14;clear h14 h5 x0 x1 x2 x3 x4));refine bodyPost_end (v:=.tuple #[]) ?_ rfl ?_
 ·exact results_none rfl _ _ _
 exact ⟨rfl,H.out.pop XA.out (fun k e=>Or.inl e) caB.out⟩
theorem Dp.baA {base gc qj q5:Nat} {Fx:Nat→Prop} {vS vK vB:Value} {p s:Int} {code:List Zb} {jmp Vk:List Int} {wS W W1:World} (h:Dp base gc qj q5 Fx vS vK p s code jmp Vk vB wS W) {PC PJ:Nat→Prop} {vJ:Value} (c1:VA base gc vS vK p s PC code W) (c2:W.heap[qj]? = some (.cells #[vJ] 22 (0,0))) (c3:Kd.R (Kd.int .i64) 3 W base PJ vJ jmp)
  (c4:Kd.R (Kd.int .i64) 3 W base (fun k=>¬ PC k∧¬ PJ k∧¬ Fx k∧k ≠ gc∧k ≠ qj) vB Vk) (c5:∀ k,PC k→¬ PJ k∧¬ Fx k∧k ≠ qj) (c6:∀ k,PJ k→base ≤ k∧k < W.heap.size∧¬ Fx k∧k ≠ gc∧k ≠ qj)
  {v:Value} {js:List Int} (ho:Kd.R (Kd.int .i64) 3 W1 base (fun k=>(¬ PC k∧¬ PJ k∧¬ Fx k∧k ≠ gc∧k ≠ qj) ∨ W.heap.size ≤ k) v js) (hg:W.grownBy W1 vB.ownBlock) (hb:Below base W W1) :
  Dp base gc qj q5 Fx vS vK p s code jmp js v wS W1:=by
 have hl:=Tb c2;have hgl:=c1.lt;have hk:Kept W W1 (fun k=>¬ PC k∧¬ PJ k∧¬ Fx k∧k ≠ gc∧k ≠ qj):=⟨hg.size,fun k hk hn=>hg.block k hk (fun e=>hn (c4.1 k e.symm))⟩;refine ⟨⟨PC,PJ,vJ,c1.kept hk (fun k e=>⟨e.2.2.2.1,e.1⟩),Sd c2 hk (fun e=>e.2.2.2.2 rfl),Kd.Kh c3 hk (fun k Ts e=>e.2.1 Ts),Kd.yc ho (fun k Ts=>Ts.elim id (fun e=>⟨fun e2=>by have:=(c1.pb k e2).2.1;omega,fun e2=>by have:=(c6 k e2).2.1;omega,fun e2=>by have:=h.lt k e2;have:=h.k.1;omega,by omega,by omega⟩)),c5,fun k Ts=>⟨(c6 k Ts).1,Nat.lt_of_lt_of_le (c6 k Ts).2.1 hg.size,(c6 k Ts).2.2⟩⟩,h.k.Gj hk (fun k e=>Or.inl e.2.2.1),h.b.trans ⟨hb.os,hb.tape,hb.output,hg.size,fun k hk=>absurd hk (Nat.not_lt_zero _)⟩,h.fx,h.h5,h.lt⟩
theorem Ih {w w9 W:World} {S:Nat→Prop} {a:Addr} {v:Value} (hc:w.cell? a=some v) (hB:Below w.heap.size w w9) (hk:Kept w9 W S) (hS:∀ k,S k→w.heap.size ≤ k):W.cell? a=some v :=
 Xh (Xh hc (Kept.xj hB (fun _=>False)) id) hk (fun e=>by have:=hS _ e;have:=World.block_lt_of_cell? w a hc;omega)
def wg (w:Zb):Prop:=w.f0=8 ∨ w.f0=9
instance (w:Zb):Decidable (wg w):=inferInstanceAs (Decidable (_ ∨ _))
def ud (cs L:List Int):List Zb:=L.flatMap (fun z=>if rd cs z ≥ 0 then [⟨1,4 + rd cs z,0,0,z⟩] else [])
def Zp (cs:List Int) (b:Ff) (nx:Int):List Zb :=
 if b.f1=2 then [Js cs 1 b.f2,⟨10,1,0,0,0⟩] else (if b.f1=1 then [Js cs 1 b.f2,⟨9,1,0,0,b.f4⟩] else []) ++ (if b.f3=nx then [] else [⟨8,0,0,0,b.f3⟩])
def CG (cs:List Int) (b:Ff) (nx:Int):List Zb:=b.f0.flatMap (Bf cs) ++ Zp cs b nx
def Ud (cs:List Int) (hd:List Zb) (bs:List Ff):Nat→List Zb
 | 0=>hd
 | i + 1=>Ud cs hd bs i ++ CG cs (Ia bs (i:Int)) ((i:Int) + 1)
theorem jl (cs:List Int) (hd:List Zb) (bs:List Ff) (i:Nat):Ud cs hd bs (i + 1)=Ud cs hd bs i ++ CG cs (Ia bs (i:Int)) ((i:Int) + 1):=rfl
def Gn (cs:List Int) (hd:List Zb) (bs:List Ff) (i:Nat):List Int:=(List.range i).map (fun j=>((Ud cs hd bs j).length:Int))
theorem dH (cs:List Int) (hd:List Zb) (bs:List Ff) (i:Nat):Gn cs hd bs (i + 1)=Gn cs hd bs i ++ [((Ud cs hd bs i).length:Int)]:=by
 unfold Gn;rw [List.range_succ,List.map_append]
 rfl
theorem Pv (cs:List Int) (hd:List Zb) (bs:List Ff) (i:Nat):(Gn cs hd bs i).length=i:=by simp [Gn]
theorem cM (cs:List Int) (hd:List Zb) (bs:List Ff) {i j:Nat} (h:i ≤ j):(Ud cs hd bs i).length ≤ (Ud cs hd bs j).length:=by
 induction j with
 | zero =>
  obtain rfl:i=0:=by omega
  exact Nat.le_refl _
 | succ j ih =>
  by_cases e:i=j + 1
  ·subst e;exact Nat.le_refl _
  ·have:=ih (by omega);rw [jl,List.length_append];omega
theorem mN {l:List Zb} {i:Nat} (h:i < l.length):Wa l (i:Int)=l[i]:=by simp [Wa,List.getD_eq_getElem?_getD,h]
def Tr:List Zb→Nat→List Int
 | [],_=>[]
 | x :: r,n=>(if wg x then [(n:Int)] else []) ++ Tr r (n + 1)
def jj (ws:List Zb):List Int:=Tr ws 0
theorem ZB (a:List Zb):∀ (b:List Zb) (n:Nat),Tr (a ++ b) n=Tr a n ++ Tr b (n + a.length):=by
 induction a with
 | nil=>intro b n;rfl
 | cons x a ih =>
  intro b n
  show (if wg x then [(n:Int)] else []) ++ Tr (a ++ b) (n + 1)=((if wg x then [(n:Int)] else []) ++ Tr a (n + 1)) ++ Tr b (n + (a.length + 1))
  rw [ih,List.append_assoc,show n + 1 + a.length=n + (a.length + 1) by omega]
theorem LG (a:List Zb) (h:∀ x ∈ a,¬ wg x):∀ n,Tr a n=[]:=by
 induction a with
 | nil=>intro n;rfl
 | cons x a ih =>
  intro n
  show (if wg x then [(n:Int)] else []) ++ Tr a (n + 1)=[]
  rw [if_neg (h x (by simp)),ih (fun y hy=>h y (by simp [hy]))]
  rfl
theorem gB (ws ys:List Zb) (h:∀ x ∈ ys,¬ wg x):jj (ws ++ ys)=jj ws:=by
 unfold jj;rw [ZB,LG ys h,List.append_nil]
theorem iB (ws:List Zb) (x:Zb) (h:wg x):jj (ws ++ [x])=jj ws ++ [(ws.length:Int)]:=by
 unfold jj;rw [ZB]
 show Tr ws 0 ++ ((if wg x then [((0 + ws.length:Nat):Int)] else []) ++ [])=_
 rw [if_pos h,Nat.zero_add]
 rfl
theorem rL (a:List Zb):∀ n,(Tr a n).length ≤ a.length:=by
 induction a with
 | nil=>intro n;exact Nat.le_refl _
 | cons x a ih =>
  intro n
  show ((if wg x then [(n:Int)] else []) ++ Tr a (n + 1)).length ≤ a.length + 1
  have:=ih (n + 1);rw [List.length_append]
  by_cases h:wg x
  ·rw [if_pos h];show 1 + _ ≤ _;omega
  ·rw [if_neg h];show 0 + _ ≤ _;omega
theorem Fo (cs:List Int) (r z:Int):¬ wg (Js cs r z):=by
 unfold wg Js
 by_cases h:rd cs z ≥ 0
 ·rw [if_pos h];simp
 ·rw [if_neg h];simp
theorem CE (cs:List Int) (r z:Int):¬ wg (iL cs r z):=by
 unfold wg iL
 by_cases h:rd cs z ≥ 0
 ·rw [if_pos h];simp
 ·rw [if_neg h];simp
theorem fW (cs:List Int) (x:tf):∀ y ∈ XM cs x,¬ wg y:=by
 intro y hy;unfold XM at hy
 by_cases h:x.f2 ≥ 0
 ·rw [if_pos h] at hy;simp only [List.mem_cons,List.not_mem_nil,or_false] at hy
  rcases hy with rfl|rfl|rfl
  ·exact Fo _ _ _
  ·exact Fo _ _ _
  ·unfold wg;simp
 ·rw [if_neg h] at hy;simp only [List.mem_cons,List.not_mem_nil,or_false] at hy;subst hy;exact Fo _ _ _
theorem OT (cs:List Int) (x:tf):∀ y ∈ Bf cs x,¬ wg y:=by
 intro y hy;unfold Bf at hy
 by_cases h0:x.f0=0
 ·rw [if_pos h0] at hy;simp only [List.mem_cons,List.not_mem_nil,or_false] at hy
  rcases hy with rfl|rfl
  ·unfold wg;simp
  ·exact CE _ _ _
 rw [if_neg h0] at hy
 by_cases h1:x.f0=1
 ·rw [if_pos h1] at hy;simp only [List.mem_cons,List.not_mem_nil,or_false] at hy
  rcases hy with rfl|rfl
  ·exact Fo _ _ _
  ·exact CE _ _ _
 rw [if_neg h1] at hy
 by_cases h2:x.f0=2
 ·rw [if_pos h2] at hy;simp only [List.mem_cons,List.not_mem_nil,or_false] at hy
  rcases hy with rfl|rfl|rfl|rfl
  ·exact Fo _ _ _
  ·exact Fo _ _ _
  ·unfold wg;simp
  ·exact CE _ _ _
 rw [if_neg h2] at hy
 by_cases h3:x.f0=3
 ·rw [if_pos h3] at hy
  rcases List.mem_append.1 hy with hy|hy
  ·exact fW cs x y hy
  simp only [List.mem_cons,List.not_mem_nil,or_false] at hy
  rcases hy with rfl|rfl
  ·unfold wg;simp
  ·exact CE _ _ _
 rw [if_neg h3] at hy
 by_cases h4:x.f0=4
 ·rw [if_pos h4] at hy
  rcases List.mem_append.1 hy with hy|hy
  ·exact fW cs x y hy
  simp only [List.mem_cons,List.not_mem_nil,or_false] at hy
  rcases hy with rfl|rfl
  ·exact Fo _ _ _
  ·unfold wg;simp
 rw [if_neg h4] at hy
 by_cases h5:x.f0=5
 ·rw [if_pos h5] at hy;simp only [List.mem_cons,List.not_mem_nil,or_false] at hy
  rcases hy with rfl|rfl
  ·unfold wg;simp
  ·exact CE _ _ _
 rw [if_neg h5] at hy;simp only [List.mem_cons,List.not_mem_nil,or_false] at hy
 rcases hy with rfl|rfl
 ·exact Fo _ _ _
 ·unfold wg;simp
theorem gL (cs:List Int) (l:List tf):∀ y ∈ l.flatMap (Bf cs),¬ wg y:=by
 intro y hy;obtain ⟨x,_,h⟩:=List.mem_flatMap.1 hy;exact OT cs x y h
theorem ML (cs L:List Int):∀ y ∈ ud cs L,¬ wg y:=by
 intro y hy;unfold ud at hy;obtain ⟨z,_,h⟩:=List.mem_flatMap.1 hy
 by_cases h0:rd cs z ≥ 0
 ·rw [if_pos h0,List.mem_singleton] at h;subst h;unfold wg;simp
 ·rw [if_neg h0] at h;cases h
def Rp (Vk:List Int) (w:Zb):Zb:=if wg w then ⟨w.f0,w.f1,w.f2,w.f3,rd Vk w.f4⟩ else w
def Nm (Vk:List Int) (ws:List Zb) (a:Int):List Zb:=ws.set a.toNat ⟨(Wa ws a).f0,(Wa ws a).f1,(Wa ws a).f2,(Wa ws a).f3,rd Vk (Wa ws a).f4⟩
theorem bU (Vk:List Int) (r:List Zb):∀ (pre:List Zb),(Tr r pre.length).foldl (Nm Vk) (pre ++ r)=pre ++ r.map (Rp Vk):=by
 induction r with
 | nil=>intro pre;rfl
 | cons x r ih =>
  intro pre
  have hr:Wa (pre ++ x :: r) (pre.length:Int)=x:=by
   rw [mN (show pre.length < (pre ++ x :: r).length by simp)];simp
  have step:∀ y:Zb,(Tr r (pre.length + 1)).foldl (Nm Vk) (pre ++ y :: r)=pre ++ y :: r.map (Rp Vk):=fun y=>by
   have h:=ih (pre ++ [y]);rw [List.length_append,List.length_singleton,List.append_assoc,List.append_assoc] at h;exact h
  show ((if wg x then [(pre.length:Int)] else []) ++ Tr r (pre.length + 1)).foldl (Nm Vk) (pre ++ x :: r)=pre ++ Rp Vk x :: r.map (Rp Vk)
  unfold Rp
  by_cases h:wg x
  ·rw [if_pos h,if_pos h,List.singleton_append,List.foldl_cons]
   have hs:Nm Vk (pre ++ x :: r) (pre.length:Int)=pre ++ (⟨x.f0,x.f1,x.f2,x.f3,rd Vk x.f4⟩:Zb) :: r:=by
    unfold Nm;rw [hr,Int.toNat_natCast];simp
   rw [hs];exact step _
  ·rw [if_neg h,if_neg h,List.nil_append];exact step _
theorem aU (Vk:List Int) (ws:List Zb):(jj ws).foldl (Nm Vk) ws=ws.map (Rp Vk):=bU Vk ws []
theorem QT (Vk:List Int) (ws:List Zb) (a:Int):(Nm Vk ws a).length=ws.length:=by unfold Nm;rw [List.length_set]
theorem JE (a:List Zb):∀ (n:Nat) (z:Int),z ∈ Tr a n→∃ i:Nat,z=((n + i:Nat):Int)∧∃ h:i < a.length,wg a[i]:=by
 induction a with
 | nil=>intro n z h;cases h
 | cons x a ih =>
  intro n z h;have h:z ∈ (if wg x then [(n:Int)] else []) ++ Tr a (n + 1):=h
  rcases List.mem_append.1 h with h|h
  ·by_cases hg:wg x
   ·rw [if_pos hg,List.mem_singleton] at h;exact ⟨0,by rw [h];rfl,by simp,hg⟩
   ·rw [if_neg hg] at h;cases h
  ·obtain ⟨i,e,hl,hg⟩:=ih (n + 1) z h;exact ⟨i + 1,by rw [e];congr 1;omega,by simpa using hl,by simpa using hg⟩
theorem qL (a:List Zb):∀ n,(Tr a n).Pairwise (· < ·):=by
 induction a with
 | nil=>intro n;exact List.Pairwise.nil
 | cons x a ih =>
  intro n
  show ((if wg x then [(n:Int)] else []) ++ Tr a (n + 1)).Pairwise (· < ·)
  by_cases hg:wg x
  ·rw [if_pos hg,List.singleton_append];refine List.Pairwise.cons (fun z hz=>?_) (ih (n + 1));obtain ⟨i,e,-⟩:=JE a (n + 1) z hz;omega
  ·rw [if_neg hg,List.nil_append];exact ih (n + 1)
theorem NY {Vk:List Int} {ws:List Zb} {a b:Int} (ha:0 ≤ a) (hb:0 ≤ b) (h:a ≠ b):Wa (Nm Vk ws a) b=Wa ws b:=by
 unfold Nm Wa;rw [List.getD_eq_getElem?_getD,List.getD_eq_getElem?_getD,List.getElem?_set];rw [if_neg (show ¬ a.toNat=b.toNat by omega),List.getD_eq_getElem?_getD]
theorem xH {Vk:List Int} {b:Int} (hb:0 ≤ b):∀ (js:List Int) (ws:List Zb),(∀ a ∈ js,0 ≤ a∧a ≠ b)→Wa (js.foldl (Nm Vk) ws) b=Wa ws b:=by
 intro js
 induction js with
 | nil=>intro ws _;rfl
 | cons a js ih =>
  intro ws h;rw [List.foldl_cons,ih _ (fun c hc=>h c (by simp [hc])),NY (h a (by simp)).1 hb (h a (by simp)).2]
theorem kG {Vk:List Int}:∀ (js:List Int) (ws:List Zb),(js.foldl (Nm Vk) ws).length=ws.length:=by
 intro js
 induction js with
 | nil=>intro ws;rfl
 | cons a js ih=>intro ws;rw [List.foldl_cons,ih,QT]
theorem YY {ws:List Zb} {t:Nat} (ht:t < (jj ws).length):∃ z:Nat,(jj ws)[t]=(z:Int)∧∃ hz:z < ws.length,wg ws[z]∧∀ a ∈ (jj ws).take t,0 ≤ a∧a ≠ (z:Int):=by
 obtain ⟨z,e,hl,hg⟩:=JE ws 0 _ (List.getElem_mem ht);rw [Nat.zero_add] at e;refine ⟨z,e,hl,hg,fun a ha=>?_⟩;obtain ⟨i,hi,rfl⟩:=List.getElem_of_mem ha;rw [List.length_take] at hi;rw [List.getElem_take];have hs:=(List.pairwise_iff_getElem.1 (qL ws 0)) i t (by show i < (jj ws).length;omega) ht (by omega);obtain ⟨y,e2,-⟩:=JE ws 0 ((jj ws)[i]'(by omega)) (List.getElem_mem _);have hs:(jj ws)[i] < (jj ws)[t]:=hs;exact ⟨by omega,by omega⟩
theorem uU {cs:List Int} {b:Ff} {nx:Int} {m:Nat} (h1:b.f1=1→0 ≤ b.f4∧b.f4 < (m:Int)) (h2:b.f1 ≠ 2→0 ≤ b.f3∧b.f3 < (m:Int)):∀ y ∈ Zp cs b nx,wg y→0 ≤ y.f4∧y.f4 < (m:Int):=by
 intro y hy hg;unfold Zp at hy
 by_cases e2:b.f1=2
 ·rw [if_pos e2] at hy;simp only [List.mem_cons,List.not_mem_nil,or_false] at hy
  rcases hy with rfl|rfl
  ·exact absurd hg (Fo _ _ _)
  ·exact absurd hg (by unfold wg;simp)
 ·rw [if_neg e2] at hy
  rcases List.mem_append.1 hy with hy|hy
  ·by_cases e1:b.f1=1
   ·rw [if_pos e1] at hy;simp only [List.mem_cons,List.not_mem_nil,or_false] at hy
    rcases hy with rfl|rfl
    ·exact absurd hg (Fo _ _ _)
    ·exact h1 e1
   ·rw [if_neg e1] at hy;cases hy
  ·by_cases e3:b.f3=nx
   ·rw [if_pos e3] at hy;cases hy
   ·rw [if_neg e3,List.mem_singleton] at hy;subst hy;exact h2 e2
theorem bM {cs:List Int} {hd:List Zb} {bs:List Ff} (hh:∀ y ∈ hd,¬ wg y) (h1:∀ i:Nat,i < bs.length→(Ia bs (i:Int)).f1=1→0 ≤ (Ia bs (i:Int)).f4∧(Ia bs (i:Int)).f4 < (bs.length:Int)) (h2:∀ i:Nat,i < bs.length→(Ia bs (i:Int)).f1 ≠ 2→0 ≤ (Ia bs (i:Int)).f3∧(Ia bs (i:Int)).f3 < (bs.length:Int)) :
  ∀ i,i ≤ bs.length→∀ y ∈ Ud cs hd bs i,wg y→0 ≤ y.f4∧y.f4 < (bs.length:Int):=by
 intro i
 induction i with
 | zero=>intro _ y hy hg;exact absurd hg (hh y hy)
 | succ i ih =>
  intro hi y hy hg;rw [jl] at hy
  rcases List.mem_append.1 hy with hy|hy
  ·exact ih (by omega) y hy hg
  ·unfold CG at hy
   rcases List.mem_append.1 hy with hy|hy
   ·exact absurd hg (gL _ _ y hy)
   ·exact uU (h1 i (by omega)) (h2 i (by omega)) y hy hg
end Go.Proofs.Ytkigbdceceeenaa.P
end
