import Derived.Shelf.Abstract
import Derived.Outline
import Derived.RegionTactic
import Derived.StillTailTactics
import Derived.Test.YtkigbdceceeenaaQMeets1
import Derived.Test.YtkigbdceceeenaaQMeets8
import Derived.Test.YtkigbdceceeenaaQMeets9
import Derived.Test.YtkigbdceceeenaaQMeets7
import Derived.Test.YtkigbdceceeenaaQMeets4
import Derived.Test.YtkigbdceceeenaaQMeets3
import Derived.Test.YtkigbdceceeenaaQMeets2
set_option maxHeartbeats 16000000
set_option maxRecDepth 100000
section
namespace Go.Proofs.Ytkigbdceceeenaa.P
open Go.RowKit Go.Proofs.Pa.Ub Go.Proofs.Pa.Sd Go.Proofs.Pa.Xe
set_option linter.unusedVariables false
set_option linter.unusedSimpArgs false
theorem FR (P:Program) (w:World) (a:Addr) (m:Mode) (fn:Fn) (x y:Array Value):(store a (.func fn x y) m).run P w=stored P w a (.func fn x y) m:=run_store P w a _ m rfl
attribute [local go_sem] FR
noncomputable def zh.f (Ra:List Int) (La:Int) (Ja:Int) (Ma:Int) (Aa:List (Re)):Option (List (List Bool)):=open Classical in if 0 ≤ Ma∧jo Aa Ma.toNat then some (oo Aa Ma.toNat) else none
theorem ot {N:Nat} {w w5 w9:World} {S:Nat→Prop} (h:Below N w w5) (hN:N ≤ w5.heap.size) (hk:Kept w5 w9 S) (hS:∀ k,S k→N ≤ k) (hb:Below 0 w5 w9):Below N w w9 :=
 h.trans ⟨hb.os,hb.tape,hb.output,hk.1,fun k h1=>hk.2 k (by omega) (fun e=>by have:=hS k e;omega)⟩
theorem FE {s:List Bool} {a:Nat}:(a:Int) ∈ Wj s s.length ↔ seen s a=true:=by
 unfold Wj;rw [List.mem_map]
 constructor
 ·rintro ⟨u,hu,he⟩;obtain rfl:u=a:=by omega
  exact (List.mem_filter.1 hu).2
 ·intro h;exact ⟨a,List.mem_filter.2 ⟨List.mem_range.2 (Sk h),h⟩,rfl⟩
theorem rQ {s:List Bool} {z:Int} (h:z ∈ Wj s s.length):∃ a:Nat,z=(a:Int)∧a < s.length:=by
 unfold Wj at h;obtain ⟨u,hu,he⟩:=List.mem_map.1 h;exact ⟨u,he.symm,List.mem_range.1 (List.mem_filter.1 hu).1⟩
theorem eS {xs:List Int} {A:Option Addr} {W:World} {i:Nat} (hC:Kd.C (Kd.int .i64) W A xs.length xs) (hi:i < xs.length):∃ ad:Addr,A=some ad∧W.cell? (ad.add i)=some (.int .i64 xs[i]):=by
 obtain ⟨ad,e1,hx⟩:=Kd.Ik hC (i:Int) (by omega) (by omega);rw [Int.toNat_natCast,qp hi] at hx;exact ⟨ad,e1,hx⟩
theorem zh.calls (Xa:Option Addr) (Ya:Nat) (Ra:List Int) (La:Int) (Ja:Int) (Ma:Int) (Mb:Option Addr) (Fb:Nat) (Aa:List (Re)) (r:List (List Bool)) (w:World) (Xd:Kd.C (Kd.int .i64) w Xa Ra.length Ra) (Vd:Ra.length ≤ Ya) (Ff:Kd.C Kp w Mb Aa.length Aa) (uf:Aa.length ≤ Fb) (h:zh.f Ra La Ja Ma Aa=some r) :
  Calls Try.prog 59 #[.agg #[.slice Xa Ra.length Ya,.int .i64 La,.int .i64 Ja,.int .i64 Ma,.slice Mb Aa.length Fb]] w fun e w'=>∃ Hl:Value,e = .returned (Hl)∧Kd.S (Kd.slice 4 Kd.bool) 60 w' w.heap.size (fun _=>True) Hl r∧Below w.heap.size w w':=by
 unfold zh.f at h
 by_cases hf:0 ≤ Ma∧jo Aa Ma.toNat
 case neg=>rw [if_neg hf] at h;cases h
 rw [if_pos hf] at h;obtain rfl:=Option.some.inj h;obtain ⟨hn0,hO⟩:=hf;obtain ⟨n,rfl⟩:∃ n:Nat,Ma=(n:Int):=⟨Ma.toNat,(Int.toNat_of_nonneg hn0).symm⟩;rw [Int.toNat_natCast] at hO ⊢;clear h hn0;have HO:=ga.mk hO;have hn:n ≤ 1048576:=hO.2.1;have hm0:0 < Aa.length:=hO.1.1;have hm1:Aa.length ≤ 1048576:=hO.1.2.1;clear hO;have fl:=ga.mk Xd;have vI:=ga.mk Ff;have VP:=ga.mk Vd;have KL:=ga.mk uf;obtain ⟨W1,Wf⟩:∃ W1,W1=(((w.alloc (.cells #[.slice Xa Ra.length Ya,.int .i64 La,.int .i64 Ja,.int .i64 (n:Int),.slice Mb Aa.length Fb] 30 (0,0))).alloc (.cells #[] 60 (0,0))).alloc (.cells #[.slice (some ⟨w.heap.size + 1,0,none⟩) 0 0] 55 (0,0))):=⟨_,rfl⟩;have HW:=ga.mk Wf
 have HAV:=ga.mk (show Ip w (RD Xa Ra.length Ya La Ja n Mb Aa.length Fb) (fun k=>k=w.heap.size + 1) (.slice (some ⟨w.heap.size + 1,0,none⟩) 0 0) (.slice none 0 0) [] [] W1∧W1.heap[w.heap.size + 2]? = some (.cells #[.slice (some ⟨w.heap.size + 1,0,none⟩) 0 0] 55 (0,0)) from by
  have z1:(w.alloc (.cells #[.slice Xa Ra.length Ya,.int .i64 La,.int .i64 Ja,.int .i64 (n:Int),.slice Mb Aa.length Fb] 30 (0,0))).heap.size=w.heap.size + 1:=by simp
  have b1:=Qj w (.cells #[.slice Xa Ra.length Ya,.int .i64 La,.int .i64 Ja,.int .i64 (n:Int),.slice Mb Aa.length Fb] 30 (0,0));have e1:=qa (Below.refl w.heap.size w) (.cells #[.slice Xa Ra.length Ya,.int .i64 La,.int .i64 Ja,.int .i64 (n:Int),.slice Mb Aa.length Fb] 30 (0,0));rw [Wf];generalize w.alloc (.cells #[.slice Xa Ra.length Ya,.int .i64 La,.int .i64 Ja,.int .i64 (n:Int),.slice Mb Aa.length Fb] 30 (0,0))=u1 at z1 b1 e1 ⊢;have z2:(u1.alloc (.cells #[] 60 (0,0))).heap.size=w.heap.size + 2:=by simp [z1]
  have s1:=Bz (Kd.slice 4 Kd.bool) 60 u1 w.heap.size (by omega);have e2:=qa (Below.refl u1.heap.size u1) (.cells #[] 60 (0,0));rw [z1] at s1;generalize u1.alloc (.cells #[] 60 (0,0))=u2 at z2 s1 e2 ⊢;have b2:=Qj u2 (.cells #[.slice (some ⟨w.heap.size + 1,0,none⟩) 0 0] 55 (0,0));have e3:=qa (Below.refl u2.heap.size u2) (.cells #[.slice (some ⟨w.heap.size + 1,0,none⟩) 0 0] 55 (0,0));have z3:(u2.alloc (.cells #[.slice (some ⟨w.heap.size + 1,0,none⟩) 0 0] 55 (0,0))).heap.size=w.heap.size + 3:=by simp [z2]
  rw [z2] at b2
  exact ⟨⟨Qa (Qa e1 e2) e3,Va (Va b1 e2) e3,Kd.Yd s1 e3,Kd.HJ _ _ _ _ _,fun k hk=>⟨by omega,by omega⟩⟩,b2⟩)
 have R8:=ga.mk (show ¬ (fun k=>k=w.heap.size + 1) (w.heap.size + 2) from fun e=>by have e:w.heap.size + 2=w.heap.size + 1:=e;omega);clear Wf Xd Ff Vd uf;go_enter Try.func59,Try.ntmps59
 go_upto_region 2 with (fail)
 rw [← HW.out];clear HW;have HA:=ga.mk HAV.out.1;have HV:=ga.mk HAV.out.2;clear HAV;have HQB:=ga.mk (show w.heap.size < w.heap.size + 2 from by omega);generalize w.heap.size + 2=q at HV R8 HQB ⊢;generalize (Value.slice (some ⟨w.heap.size + 1,0,none⟩) 0 0)=v0 at HA HV ⊢;have Lp:=JA HA.out;go_wp2;clear Lp
 go_loopg [14] n (fun gg v14 wr=>∃ (j:Nat) (PB:Nat→Prop) (v:Value),v14 = .int .i64 j∧j ≤ n∧n - j ≤ gg∧ga (Ip w (RD Xa Ra.length Ya La Ja n Mb Aa.length Fb) PB v (.slice none 0 0) (List.replicate j (List.replicate n false)) [] wr)∧ga (wr.heap[q]? = some (.cells #[v] 55 (0,0)))∧ga (¬ PB q))
 case atStart=>exact ⟨0,_,_,rfl,Nat.zero_le _,by omega,HA,HV,R8⟩
 case round =>
  clear HA HV R8;(try clear PB);(try clear HA);(try clear HV);(try clear T8);obtain ⟨j,PB,v,rfl,hj,XS,HA,HV,T8⟩:=hrel
  by_cases hlt:j < n
  ·have dr:decide ((j:Int) < (n:Int))=true:=decide_eq_true (by omega);have g_:(0:Int) ≤ (n:Int):=by omega
   have u_:=ga.mk (show ((n:Int)).toNat * 1 ≤ 281474976710656 from by omega);have w_:=ga.mk (show ((List.replicate j (List.replicate n false)).length + 1) * 24 ≤ 140737488355328 from by rw [List.length_replicate];omega)
   go_upto_region 4 with (fail)
   have XU:=ga.mk (HA.out.below (Wm (Below.refl wr.heap.size wr)));have HVd:=ga.mk (show wr.drew.heap[q]? = some (.cells #[v] 55 (0,0)) from HV.out);clear HA HV;refine Km (n:=7) (S:=fun w'=>w'.cell? ⟨q,0,none⟩=some v∧w'.cell? ⟨w.heap.size,3,none⟩=some (.int .i64 (n:Int))) (ds:=[6]) #[false,false,false,false,false,false,false] (by kernel_rfl) rfl rfl ⟨(ia HVd.out 0).trans rfl,JA XU.out⟩ (fun hHeld=>?_);generalize wr.drew=wd at XU HVd hHeld ⊢;refine zd (i:=1) (N:=some 17) (v:=?_) (a':=?_) #[false,true,false,false,false,false,false] rfl rfl (by kernel_rfl) (fun _ _ _ h=>h) (Or.inl ⟨by rfl,?_⟩) ?_ ?_;rotate_left
   ·intro w';go_simp;with_reducible rfl
   rotate_left
   ·simp only [Act.put,List.setIfInBounds_toArray,List.set_cons_zero,List.set_cons_succ,Zb,dc]
    rfl
   refine Ug (i:=0) (N:=some 16) (v:=?_) (a':=?_) #[true,true,false,false,false,false,false] rfl rfl (by kernel_rfl) (fun _ _ _ h=>h) (Or.inl ⟨by rfl,?_⟩) hHeld ?_ ?_;rotate_left
   ·rintro w' ⟨s0,s1⟩;go_simp;with_reducible rfl
   rotate_left
   ·simp only [Act.put,List.setIfInBounds_toArray,List.set_cons_zero,List.set_cons_succ,Zb,dc]
    rfl
   refine Ug (i:=2) (N:=some 18) (v:=?_) (a':=?_) #[true,true,true,false,false,false,false] rfl rfl (by kernel_rfl) (fun _ _ _ h=>h) (Or.inl ⟨by rfl,?_⟩) hHeld ?_ ?_;rotate_left
   ·rintro w' ⟨s0,s1⟩;go_simp;with_reducible rfl
   rotate_left
   ·simp only [Act.put,List.setIfInBounds_toArray,List.set_cons_zero,List.set_cons_succ,Zb,dc]
    rfl
   refine Qw (i:=3) (N:=some 19) #[true,true,true,true,false,false,false] rfl rfl (by kernel_rfl) (by decide) (fun K hK=>?_);refine Kd.IJ Kd.bool (w0:=wd) wd.heap.size 4 (by rfl) (N:=19) rfl 60 _ _ rfl (n:Int) rfl rfl Try.underlying60 (.bool false) 1 Ew rfl (by decide) (by omega) false (ok:=fun k=>wd.heap.size ≤ k) (Tg:=fun k=>wd.heap.size ≤ k) rfl (fun _ hk=>hk) (Nat.le_refl _) g_ u_.out (Below.refl _ _) (Nat.le_refl _) ?_;intro v19 qw ho hb hg hat;rw [Int.toNat_natCast] at ho;obtain ⟨A19,Pn,eaa⟩:=Kd.Zd ho;rw [List.length_replicate] at eaa;subst eaa;have gas:=ga.mk (ZL ho XU.out.bl.size);have xw:=ga.mk hb;have fR:=ga.mk (Qa XU.out.bl hb);have Paf:=ga.mk (Va HVd.out hb);clear ho hb hg hat;refine hK.out _ _ ⟨(ia Paf.out 0).trans rfl,JA (XU.out.below xw.out)⟩ (fun hHeld=>?_);clear hK K;refine xp (a':=?_) ?_ ?_;rotate_left
   ·show Act.put _ (some 19) _=_
    simp only [Act.put,List.setIfInBounds_toArray,List.set_cons_zero,List.set_cons_succ,Zb,dc]
    rfl
   refine Qw (i:=4) (N:=some 20) #[true,true,true,true,true,false,false] rfl rfl (by kernel_rfl) (by decide) (fun K hK=>?_);refine Y3 (w1:=?_) (v:=?_) (by rfl) rfl ?_ ?_;rotate_left 2
   ·go_simp
    constructor
    ·rfl
    ·rfl
   refine hK.out _ _ ⟨(ia (Va Paf.out (qa (Below.refl _ _) _)) 0).trans rfl,JA ((XU.out.below xw.out).below (qa (Below.refl _ _) _))⟩ (fun hHeld=>?_);clear hK K;refine xp (a':=?_) ?_ ?_;rotate_left
   ·show Act.put _ (some 20) _=_
    simp only [Act.put,List.setIfInBounds_toArray,List.set_cons_zero,List.set_cons_succ,Zb,dc]
    rfl
   refine Qw (i:=5) (N:=some 21) #[true,true,true,true,true,true,false] rfl rfl (by kernel_rfl) (by decide) (fun K hK=>?_);refine Kd.qE (Kd.slice 4 Kd.bool) (w0:=w) w.heap.size (by rfl) (.tmp 16) (.tmp 20) 55 60 (.slice none 0 0) 24 rfl Try.underlying55 YC rfl (by decide) (by omega) v (List.replicate j (List.replicate n false)) (List.replicate n false) [.slice A19 n Pn] (fun k=>PB k ∨ wd.heap.size ≤ k) (fun k=>wd.heap.size ≤ k) rfl rfl gas.out XU.out.neX (XU.out.frX xw.out) (XU.out.okX xw.out) fR.out fR.out.size w_.out ?_;intro v21 Xn hs hb hg hat;obtain ⟨P3,Pt,daa⟩:=Kd.mh hs;rw [← List.replicate_succ',List.length_replicate] at daa;subst daa;have kR:=ga.mk (XU.out.W7 xw.out hs hb hg);have N2:=ga.mk (show ¬ (PB q ∨ (wd.heap.size ≤ q∧q < Xn.heap.size)) from fun e=>e.elim T8.out (fun e=>by have:=Ec HVd.out;omega));have mZ:=ga.mk (td (Va HVd.out xw.out) hg (fun e=>T8.out ((Kd.uI XU.out.x).1 q e.symm)));clear hs hb hg hat;refine hK.out _ _ ⟨(ia mZ.out 0).trans rfl,JA kR.out⟩ (fun hHeld=>?_);clear hK K;refine xp (a':=?_) ?_ ?_;rotate_left
   ·show Act.put _ (some 21) _=_
    simp only [Act.put,List.setIfInBounds_toArray,List.set_cons_zero,List.set_cons_succ,Zb,dc]
    rfl
   refine Y_ (i:=6) (N:=none) #[true,true,true,true,true,true,true] rfl rfl (by kernel_rfl) (by decide) (fun K hK=>?_);have hfz:=aa mZ.out 0;have hcz:Xn.cell? ⟨q,0,none⟩=some v:=(ia mZ.out 0).trans rfl;have Sar:=ga.mk (show (Xn.setCell ⟨q,0,none⟩ (.slice P3 (j + 1) Pt)).heap[q]? = some (.cells #[.slice P3 (j + 1) Pt] 55 (0,0)) from TH mZ.out 0 _);have o9:=ga.mk ((Kept.refl Xn (fun k=>k=q)).setCell (p:=⟨q,0,none⟩) (Or.inl rfl) (.slice P3 (j + 1) Pt));have xas:=ga.mk (show Below w.heap.size w (Xn.setCell ⟨q,0,none⟩ (.slice P3 (j + 1) Pt)) from kR.out.bl.setCell (Nat.le_of_lt HQB.out) _);refine R_ (w1:=?_) (by rfl) rfl ?_ ?_;rotate_left
   ·go_simp
    rfl
   refine hK.out _ _ ?_;clear hK K;refine jr (by kernel_rfl) ?_;clear hHeld
   have Aas:=ga.mk (show Ip w (RD Xa Ra.length Ya La Ja n Mb Aa.length Fb) (fun k=>PB k ∨ (wd.heap.size ≤ k∧k < Xn.heap.size)) (.slice P3 (j + 1) Pt) (.slice none 0 0) (List.replicate (j + 1) (List.replicate n false)) [] (Xn.setCell ⟨q,0,none⟩ (.slice P3 (j + 1) Pt)) from by
    have hx:=kR.out.x;rw [← List.replicate_succ'] at hx
    exact ⟨xas.out,Pf kR.out.hx o9.out (fun e=>by have:=HQB.out;omega),Kd.qt hx o9.out (fun k hk e=>N2.out (e ▸ hk)),Kd.HJ _ _ _ _ _,fun k hk=>⟨(kR.out.pb k hk).1,Nat.lt_of_lt_of_le (kR.out.pb k hk).2 o9.out.1⟩⟩)
   go_wp2
   go_roundg (n - (j + 1))
   case measure=>omega
   case rel=>exact ⟨j + 1,_,_,by go_num,by omega,by omega,Aas,Sar,N2⟩
  ·have dr:decide ((j:Int) < (n:Int))=false:=decide_eq_false (by omega);obtain rfl:j=n:=by omega
   have HT:=ga.mk (show ∃ T,Kd.S (Kd.slice 4 Kd.bool) 60 wr w.heap.size PB v T∧GJ j T aM from ⟨_,HA.out.x,GJ.start j⟩);have HXg:=ga.mk HA.out.hx;have HBw:=ga.mk HA.out.bl;have OU:=ga.mk HA.out.pb;clear HA XS hj
   go_upto_region 7 with (fail)
   have n6:=qa (Below.refl wr.heap.size wr) (.cells #[.func (.func 85) #[] #[.pointer (some ⟨q,0,none⟩)]] 101 (0,0));have hv5:=Qj wr (.cells #[.func (.func 85) #[] #[.pointer (some ⟨q,0,none⟩)]] 101 (0,0));generalize wr.alloc (.cells #[.func (.func 85) #[] #[.pointer (some ⟨q,0,none⟩)]] 101 (0,0))=w5 at n6 hv5 ⊢
   have uV:=ga.mk (show ZJ w.heap.size j q wr.heap.size PB v aM w5 from by
    obtain ⟨T,h1,h2⟩:=HT.out
    exact ⟨hv5,Va HV.out n6,fun e=>by have:=(OU.out _ e).2;omega,T8.out,T,Kd.Yd h1 n6,h2⟩)
   have D8:=ga.mk (Va HXg.out n6);have aQ:=ga.mk (Qa HBw.out n6);have HP5:=ga.mk (show ∀ k,PB k→w.heap.size < k∧k < w5.heap.size from fun k hk=>⟨(OU.out k hk).1,Nat.lt_of_lt_of_le (OU.out k hk).2 n6.size⟩);clear n6 hv5 HT HXg HBw OU HV;generalize wr.heap.size=qf at uV ⊢;have hx0:w5.cell? ⟨w.heap.size,0,none⟩=some (.slice Xa Ra.length Ya):=(ia D8.out 0).trans rfl;have hx1:w5.cell? ⟨w.heap.size,1,none⟩=some (.int .i64 La):=(ia D8.out 1).trans rfl;have Ku:w5.cell? ⟨w.heap.size,2,none⟩=some (.int .i64 Ja):=(ia D8.out 2).trans rfl;have Lp:w5.cell? ⟨w.heap.size,3,none⟩=some (.int .i64 (j:Int)):=(ia D8.out 3).trans rfl;have Yp:w5.cell? ⟨w.heap.size,4,none⟩=some (.slice Mb Aa.length Fb):=(ia D8.out 4).trans rfl
   have HLV:=ga.mk (show ql.f Ra La Ja (j:Int) Aa=some (Ke Aa j) by
    unfold ql.f
    rw [if_pos ⟨by omega,by rw [Int.toNat_natCast];exact HO.out⟩,Int.toNat_natCast])
   go_upto_region 8 with (first|(go_at_call 47;(with_reducible refine (ql.calls Xa Ya Ra La Ja (j:Int) Mb Fb Aa (Ke Aa j) w5 (Kd.Jb fl.out aQ.out) VP.out (Kd.Jb vI.out aQ.out) KL.out HLV.out).mono ?_);rintro e w6 ⟨v6,rfl,ho,hb⟩;obtain ⟨A4,c4,rfl⟩:=Kd.mh ho;have IL:=ga.mk ho;have gB:=ga.mk hb;clear ho hb hx0 hx1 Ku Lp Yp))
   rw [Di] at IL ⊢;have aK:=ga.mk (Va D8.out gB.out);have tV:=ga.mk (uV.out.below gB.out);have eI:=ga.mk (Qa aQ.out gB.out);have OJ:=ga.mk (show ∀ k,PB k→w.heap.size < k∧k < w6.heap.size from fun k hk=>⟨(HP5.out k hk).1,Nat.lt_of_lt_of_le (HP5.out k hk).2 gB.out.size⟩);have I3:=ga.mk (show Aa.length ≤ c4 from (Kd.Uc IL.out).2.1);have HLC:=ga.mk (show ∀ W,Kept w6 W (JZ PB w6)→Kd.C (Kd.slice 4 Kd.bool) W A4 (Ke Aa j).length (Ke Aa j) from fun W hk=>(Kd.Uc (Kd.qt (Kd.Mg (Kd.vt IL.out) (fun k hk=>⟨hk.2.1,hk.2.2.1⟩):Kd.S (Kd.slice 4 Kd.bool) _ w6 _ (fun k=>w5.heap.size ≤ k∧k < w6.heap.size) _ _) hk (fun k hk e=>e.elim (fun e=>by have:=(HP5.out k e).2;omega) (fun e=>by omega)))).2.2);clear D8 uV aQ HP5 gB IL;have hx0:w6.cell? ⟨w.heap.size,0,none⟩=some (.slice Xa Ra.length Ya):=(ia aK.out 0).trans rfl;have hx1:w6.cell? ⟨w.heap.size,1,none⟩=some (.int .i64 La):=(ia aK.out 1).trans rfl;have Ku:w6.cell? ⟨w.heap.size,2,none⟩=some (.int .i64 Ja):=(ia aK.out 2).trans rfl;have Lp:w6.cell? ⟨w.heap.size,3,none⟩=some (.int .i64 (j:Int)):=(ia aK.out 3).trans rfl;have Yp:w6.cell? ⟨w.heap.size,4,none⟩=some (.slice Mb Aa.length Fb):=(ia aK.out 4).trans rfl;have hmf:∀ (fn:Fn) (first cap:Array Value) (w:World),(Instr.makeFunc fn first cap).run Try.prog w = .ok (.func fn first cap) w:=fun _ _ _ _=>rfl
   have hev:=MH zg (fun P W=>ZJ w.heap.size j q qf PB v P W) PB 86 #[.pointer (some ⟨qf,0,none⟩)] (enters_of Try.func86 (by kernel_rfl) rfl)
    Xa Ya Ra La Ja j Mb Fb Aa A4 c4 (Ke Aa j) aM w w6 eI.out (fun k e=>Nat.le_of_lt (OJ.out k e).1) (fun k e=>(OJ.out k e).2) fl.out VP.out vI.out KL.out
    (fun W hk=>HLC.out W hk) (by rw [Di];exact I3.out) HO.out (Di _ _) (fun i hi=>by rw [Gx hi];exact Ji _ _ _)
    tV.out (fun P W W' h1 h2 h3=>by
     have hk:Kept W W' (fun k=>w6.heap.size ≤ k):=⟨h2,fun k _ hk=>h3 k (by omega)⟩;obtain ⟨T,t1,t2⟩:=h1.t
     exact ⟨Pf h1.hf hk (fun e=>by have:=Ec tV.out.hf;omega),Pf h1.hx hk (fun e=>by have:=Ec tV.out.hx;omega),h1.pf,h1.pq,T,Kd.qt t1 hk (fun k hk e=>by have:=(OJ.out k hk).2;omega),t2⟩)
    (fun W P x A c s hk hv hx JS hC hl=>(xF w.heap.size j q qf PB v P x A c s W hv (fun k hk2=>Nat.lt_of_lt_of_le (OJ.out k hk2).2 hk.1) hx JS hn hC hl).mono (fun e w' h=>h))
   rw [Di] at hev;have HEV:=ga.mk hev;clear hev
   go_upto_region 9 with (first|(go_at_call 50;(with_reducible refine HEV.out.mono ?_);rintro e w9 ⟨rfl,hv9,hk9,hb9⟩;have uE:=ga.mk hv9;have HK9:=ga.mk hk9;have HZ9:=ga.mk hb9;clear hv9 hk9 hb9 hx0 hx1 Ku Lp Yp))
   have rV:=ga.mk (Pf aK.out HK9.out (fun e=>e.elim (fun e=>by have:=(OJ.out _ e).1;omega) (fun e=>by have:=Ec aK.out;omega)));have xV:=ga.mk (ot eI.out eI.out.size HK9.out (fun k e=>e.elim (fun e=>Nat.le_of_lt (OJ.out k e).1) (fun e=>Nat.le_trans eI.out.size e)) HZ9.out);have HP9:=ga.mk (show ∀ k,PB k→w.heap.size < k∧k < w9.heap.size from fun k hk=>⟨(OJ.out k hk).1,Nat.lt_of_lt_of_le (OJ.out k hk).2 HK9.out.1⟩);have hrw:ee (Ke Aa j) 0=Jl Aa j 0:=Gx hm0;obtain ⟨kl,hkl⟩:=Ev.rounds (RQ HO.out hm0 (Ke Aa j) (Di Aa j) (by rw [hrw];exact Ji _ _ _) Ra La Ja (j:Int));rw [hrw,show KA (Ea Aa ((0:Nat):Int)) (Jl Aa j 0)=ZC Aa j from rfl] at hkl;have hc:=jf.calls kl Xa Ya Ra La Ja (j:Int) Mb Fb Aa A4 c4 (Ke Aa j) ((0:Nat):Int) _ w9 (Kd.Jb fl.out xV.out) VP.out (Kd.Jb vI.out xV.out) KL.out (HLC.out w9 HK9.out) (by rw [Di];exact I3.out) hkl;rw [Di,show ((0:Nat):Int)=0 from rfl] at hc;have HLI:=ga.mk hc;have hin:(ZC Aa j).length=j:=by unfold ZC;rw [Xp,Ji]
   have LL:=ga.mk hin;obtain ⟨ko,hko⟩:=Ev.rounds (mD (ZC Aa j) (by rw [hin];exact hn));have HKO:=ga.mk hko;have v_:=ga.mk (show ∀ a b,SC Aa j a b ↔ (Hg zg Aa (Ke Aa j) 0 aM a b ∨ ((a:Int) ∈ Wj (ZC Aa j) (ZC Aa j).length∧(b:Int) ∈ Wj (ZC Aa j) (ZC Aa j).length)) from fun a b=>by rw [FE,FE];rfl);have HNT:=ga.mk (fun z=>rQ (s:=ZC Aa j) (z:=z));have hLl:=Nat.le_trans (Iu (ZC Aa j) (ZC Aa j).length) (Nat.le_of_eq hin);have HLn:=ga.mk hLl;clear hkl hc hin hko hrw hmf aK tV eI OJ HK9 HZ9 HEV HLC hLl;have hx0:w9.cell? ⟨w.heap.size,0,none⟩=some (.slice Xa Ra.length Ya):=(ia rV.out 0).trans rfl;have hx1:w9.cell? ⟨w.heap.size,1,none⟩=some (.int .i64 La):=(ia rV.out 1).trans rfl;have Ku:w9.cell? ⟨w.heap.size,2,none⟩=some (.int .i64 Ja):=(ia rV.out 2).trans rfl;have Lp:w9.cell? ⟨w.heap.size,3,none⟩=some (.int .i64 (j:Int)):=(ia rV.out 3).trans rfl;have Yp:w9.cell? ⟨w.heap.size,4,none⟩=some (.slice Mb Aa.length Fb):=(ia rV.out 4).trans rfl;generalize ZC Aa j=r0 at HLI LL HKO v_ HNT HLn ⊢;generalize Hg zg Aa (Ke Aa j) 0 aM=E0 at uE v_ ⊢
   go_upto_region 10 with (first|(go_at_call 49;(with_reducible refine HLI.out.mono ?_);rintro e Wq ⟨v10,rfl,ho,hb⟩;obtain ⟨A10,Qt,rfl⟩:=Kd.Zd ho;have P8:=ga.mk ho;have NL:=ga.mk hb;clear ho hb hx0 hx1 Ku Lp Yp)|(go_at_call 48;(with_reducible refine (Jd.calls ko A10 Qt r0 (Wj r0 r0.length) Wq (Kd.Bc P8.out).2.2 (Kd.Bc P8.out).2.1 HKO.out).mono ?_);rintro e Zi ⟨v11,rfl,ho,hb⟩;obtain ⟨vR,oP,rfl⟩:=Kd.Zd ho;have O8:=ga.mk ho;have jR:=ga.mk hb;clear ho hb))
   generalize Wj r0 r0.length=L at O8 v_ HNT HLn ⊢;have Aag:=ga.mk ((uE.out.below NL.out).below jR.out);have HBB:=ga.mk (Qa (Qa xV.out NL.out) jR.out);have n9:=ga.mk (show ∀ W,Kept Zi W PB→Kd.C (Kd.int .i64) W vR L.length L from fun W hk=>(Kd.Bc (Kd.Zw (Kd.Bd (Kd.xg O8.out) (fun k hk=>hk.2.1):Kd.R (Kd.int .i64) _ Zi _ (fun k=>Wq.heap.size ≤ k) _ _) hk (fun k hk e=>by have:=(HP9.out k e).2;have:=NL.out.size;omega))).2.2);have HPL:=ga.mk (fun k e=>Nat.le_of_lt (HP9.out k e).1);have wag:=ga.mk LL.out;clear uE rV xV P8 NL O8 jR HLI HKO HP9 LL;have eg:∀ args w,(callFunc 85 args).run Try.prog w = .ok (.enter 85 args) w:=enters_of Try.func85 (by kernel_rfl) rfl;have hLn:L.length ≤ 1048576:=Nat.le_trans HLn.out hn;go_wp2
   go_loopg [36] L.length (fun gg v36 wr=>∃ (i:Nat),v36 = .int .i64 i∧i ≤ L.length∧L.length - i ≤ gg∧ga (ZJ w.heap.size j q qf PB v (fun a b=>E0 a b ∨ ((a:Int) ∈ L.take i∧(b:Int) ∈ L)) wr)∧ga (Kept Zi wr PB)∧ga (Below 0 Zi wr))
   case atStart=>exact ⟨0,rfl,Nat.zero_le _,by omega,⟨Aag.out.Ap (fun a b=>⟨Or.inl,fun h=>h.elim id (fun h=>absurd h.1 (by rw [List.take_zero];exact List.not_mem_nil))⟩)⟩,⟨Kept.refl _ _⟩,⟨Below.refl _ _⟩⟩
   case round =>
    clear Aag;(try clear HI);(try clear HK);(try clear HZ);obtain ⟨i,rfl,hi,XS,HI,HK,HZ⟩:=hrel
    by_cases hli:i < L.length
    ·have jaq:decide ((i:Int) < (L.length:Int))=true:=decide_eq_true (by omega);have i1:0 ≤ (i:Int):=by omega
     have i2:(i:Int) < (L.length:Int):=by omega
     obtain ⟨ad,e1,Vn⟩:=eS (n9.out wr HK.out) hli;subst e1;obtain ⟨x,hx,hxn⟩:=HNT.out L[i] (List.getElem_mem hli);rw [hx] at Vn;have HXE:=ga.mk hx;have HXN:=ga.mk hxn;clear hx hxn;obtain ⟨wo,rfl⟩:∃ wo,wo=wr:=⟨_,rfl⟩;go_wp2;clear Vn i1 i2
     go_loopg [42] L.length (fun g4 v42 wr=>∃ (i4:Nat),v42 = .int .i64 i4∧i4 ≤ L.length∧L.length - i4 ≤ g4∧ga (ZJ w.heap.size j q qf PB v (fun a b=>(E0 a b ∨ ((a:Int) ∈ L.take i∧(b:Int) ∈ L)) ∨ (a=x∧(b:Int) ∈ L.take i4)) wr)∧ga (Kept Zi wr PB)∧ga (Below 0 Zi wr))
     case atStart=>exact ⟨0,rfl,Nat.zero_le _,by omega,⟨HI.out.Ap (fun a b=>⟨Or.inl,fun h=>h.elim id (fun h=>absurd h.2 (by rw [List.take_zero];exact List.not_mem_nil))⟩)⟩,HK,HZ⟩
     case round =>
      clear HI HK HZ;(try clear HI);(try clear HK);(try clear HZ);obtain ⟨i4,rfl,hi4,pI,HI,HK,HZ⟩:=hrel
      by_cases G5:i4 < L.length
      ·have laq:decide ((i4:Int) < (L.length:Int))=true:=decide_eq_true (by omega);have i1:0 ≤ (i4:Int):=by omega
       have i2:(i4:Int) < (L.length:Int):=by omega
       obtain ⟨ad2,e1,Vn⟩:=eS (n9.out wr HK.out) G5;obtain rfl:ad=ad2:=Option.some.inj e1;obtain ⟨y,hy,hyn⟩:=HNT.out L[i4] (List.getElem_mem G5);rw [hy] at Vn;have HYE:=ga.mk hy;have hf0:wr.cell? ⟨qf,0,none⟩=some (.func (.func 85) #[] #[.pointer (some ⟨q,0,none⟩)]):=(ia HI.out.hf 0).trans rfl;have tas:=ga.mk (HI.out.call (show x < j from by have:=HXN.out;have:=wag.out;omega) (show y < j from by have:=wag.out;omega) hn);clear hy hyn e1;go_wp2_with (go_at_fn 85;refine tas.out.mono ?_;rintro e w3 ⟨rfl,h1,h2,h3⟩;have HI3:=ga.mk h1;have tC:=ga.mk (HK.out.mo h2 (fun _ h=>Or.inl h));have HZ3:=ga.mk (HZ.out.trans h3);clear h1 h2 h3 hf0 Vn)
       have HI4:=ga.mk (HI3.out.Ap (Q:=fun a b=>(E0 a b ∨ ((a:Int) ∈ L.take i∧(b:Int) ∈ L)) ∨ (a=x∧(b:Int) ∈ L.take (i4 + 1))) (fun a b=>by
        rw [List.take_succ_eq_append_getElem G5,List.mem_append,List.mem_singleton,HYE.out]
        constructor
        ·rintro ((h|h)|⟨h1,h2⟩)
         ·exact Or.inl h
         ·exact Or.inr ⟨h.1,Or.inl h.2⟩
         ·exact Or.inr ⟨h1,Or.inr (by omega)⟩
        ·rintro (h|⟨h1,h2|h2⟩)
         ·exact Or.inl (Or.inl h)
         ·exact Or.inl (Or.inr ⟨h1,h2⟩)
         ·exact Or.inr ⟨h1,by omega⟩))
       go_roundg (L.length - (i4 + 1))
       case measure=>omega
       case rel=>exact ⟨i4 + 1,by go_num,by omega,by omega,HI4,tC,HZ3⟩
      ·have laq:decide ((i4:Int) < (L.length:Int))=false:=decide_eq_false (by omega);obtain rfl:i4=L.length:=by omega
       have HI4:=ga.mk (HI.out.Ap (Q:=fun a b=>E0 a b ∨ ((a:Int) ∈ L.take (i + 1)∧(b:Int) ∈ L)) (fun a b=>by
        rw [List.take_length,List.take_succ_eq_append_getElem hli,List.mem_append,List.mem_singleton,HXE.out]
        constructor
        ·rintro ((h|h)|⟨h1,h2⟩)
         ·exact Or.inl h
         ·exact Or.inr ⟨Or.inl h.1,h.2⟩
         ·exact Or.inr ⟨Or.inr (by omega),h2⟩
        ·rintro (h|⟨h1|h1,h2⟩)
         ·exact Or.inl (Or.inl h)
         ·exact Or.inl (Or.inr ⟨h1,h2⟩)
         ·exact Or.inr ⟨by omega,h2⟩))
       go_wp2
       go_roundg (L.length - (i + 1))
       case measure=>omega
       case rel=>exact ⟨i + 1,by go_num,by omega,by omega,HI4,HK,HZ⟩
    ·have jaq:decide ((i:Int) < (L.length:Int))=false:=decide_eq_false (by omega);obtain rfl:i=L.length:=by omega
     have TJ:=ga.mk (show Kd.S (Kd.slice 4 Kd.bool) 60 wr w.heap.size (fun _=>True) v (oo Aa j) from by
      obtain ⟨T,t1,t2⟩:=HI.out.t;have he:T=oo Aa j:=(t2.Ap (fun a b=>by rw [List.take_length];exact (v_.out a b).symm)).ext (Yz Aa j) (fun _ _ _=>Iff.rfl);rw [← he]
      exact Kd.Mg t1 (fun _ _=>trivial))
     have EZ:=ga.mk (ot HBB.out HBB.out.size HK.out HPL.out HZ.out);have hq0:wr.cell? ⟨q,0,none⟩=some v:=(ia HI.out.hx 0).trans rfl;have hone:v.oneCell' = true:=by obtain ⟨A,c,rfl⟩:=Kd.mh TJ.out;rfl
     go_wp2;go_ret;exact ⟨_,rfl,TJ.out,EZ.out⟩
noncomputable def jg.f (Ra:List Int) (La:Int) (Ja:Int) (Ma:Int) (Aa:List (Re)):Option (List (List Bool)):=open Classical in if 0 ≤ Ma∧jo Aa Ma.toNat then some (oo Aa Ma.toNat) else none
theorem Y6 {n:Nat} {x:Be} (hx:bu n x):qh.f x.f0 x.f1 x.f2 x.f3 x.f4 x.f5 x.f6=some (decide (Vp x ≥ 0))∧(Vp x ≥ 0→x.f1=Vp x):=by
 have h2:=hx.2;unfold qh.f Vp
 by_cases h4:x.f0=4
 ·rw [if_pos h4,if_pos h4,decide_eq_false (by omega)];exact ⟨rfl,fun h=>by omega⟩
 ·rw [if_neg h4,if_neg h4]
  by_cases h6:x.f0=6
  ·rw [if_pos h6,decide_eq_false (by omega),h6];exact ⟨rfl,fun h=>by omega⟩
  ·rw [if_neg h6,decide_eq_true (h2 h4 h6).1];exact ⟨by simp [h6],fun _=>rfl⟩
structure tI (w w6:World) (o:Obj) (n:Nat) (PB:Nat→Prop) (v:Value) (P:Nat→Nat→Prop) (wr:World):Prop where
 bw:Below w.heap.size w wr
 k:Kept w6 wr (JZ PB w6)
 hx:wr.heap[w.heap.size]? = some o
 t:∃ T,Kd.S (Kd.slice 4 Kd.bool) 60 wr w.heap.size PB v T∧GJ n T P
section
variable {w w6 wr W:World} {o:Obj} {n:Nat} {PB:Nat→Prop} {v:Value} {P Q:Nat→Nat→Prop}
theorem tI.below (h:tI w w6 o n PB v P wr) (hb:Below wr.heap.size wr W):tI w w6 o n PB v P W:=by
 obtain ⟨T,h1,h2⟩:=h.t;exact ⟨Qa h.bw hb,h.k.below hb,Va h.hx hb,T,Kd.Yd h1 hb,h2⟩
theorem tI.Ap (h:tI w w6 o n PB v P wr) (hp:∀ i j,P i j ↔ Q i j):tI w w6 o n PB v Q wr:=by
 obtain ⟨T,h1,h2⟩:=h.t;exact ⟨h.bw,h.k,h.hx,T,h1,h2.Ap hp⟩
theorem tI.far {N:Nat} (h:tI w w6 o n PB v P wr) (HP:∀ k,PB k→w.heap.size < k∧k < w6.heap.size) (h6:w.heap.size < w6.heap.size) (hN:w6.heap.size ≤ N) (hk:Kept wr W (fun k=>N ≤ k)) (hz:Below 0 wr W):tI w w6 o n PB v P W:=by
 obtain ⟨T,h1,h2⟩:=h.t;exact ⟨ot h.bw h.bw.size hk (fun k e=>by omega) hz,h.k.mo hk (fun k e=>Or.inl (Or.inr (by omega))),Pf h.hx hk (fun e=>by omega),T,Kd.qt h1 hk (fun k e1 e2=>by have:=(HP k e1).2;omega),h2⟩
theorem tI.call {a b:Nat} (h:tI w w6 o n PB v P wr) (HP:∀ k,PB k→w.heap.size < k∧k < w6.heap.size) (ha:a < n) (hb:b < n) (hn:n ≤ 1048576) :
  Calls Try.prog 84 #[v,.int .i64 (a:Int),.int .i64 (b:Int)] wr fun e w'=>e = .returned (.tuple #[])∧tI w w6 o n PB v (fun i j=>P i j ∨ (i=a∧j=b)) w'∧Kept wr w' PB∧Below 0 wr w':=by
 obtain ⟨T,h1,h2⟩:=h.t;refine (nF w.heap.size n a b PB v T wr h1 h2.sq ha hb hn).mono ?_;rintro e w' ⟨e1,e2,e3,e4⟩;exact ⟨e1,⟨ot h.bw h.bw.size e3 (fun k e=>Nat.le_of_lt (HP k e).1) e4,h.k.mo e3 (fun k e=>Or.inl (Or.inl e)),Pf h.hx e3 (fun e=>by have:=(HP _ e).1;omega),_,e2,h2.meet ha hb⟩,e3,e4⟩
end
theorem jg.calls (Xa:Option Addr) (Ya:Nat) (Ra:List Int) (La:Int) (Ja:Int) (Ma:Int) (Mb:Option Addr) (Fb:Nat) (Aa:List (Re)) (r:List (List Bool)) (w:World) (Xd:Kd.C (Kd.int .i64) w Xa Ra.length Ra) (Vd:Ra.length ≤ Ya) (Ff:Kd.C Kp w Mb Aa.length Aa) (uf:Aa.length ≤ Fb) (h:jg.f Ra La Ja Ma Aa=some r) :
  Calls Try.prog 57 #[.agg #[.slice Xa Ra.length Ya,.int .i64 La,.int .i64 Ja,.int .i64 Ma,.slice Mb Aa.length Fb]] w fun e w'=>∃ Hl:Value,e = .returned (Hl)∧Kd.S (Kd.slice 4 Kd.bool) 60 w' w.heap.size (fun _=>True) Hl r∧Below w.heap.size w w':=by
 unfold jg.f at h
 by_cases hf:0 ≤ Ma∧jo Aa Ma.toNat
 case neg=>rw [if_neg hf] at h;cases h
 rw [if_pos hf] at h;obtain rfl:=Option.some.inj h;obtain ⟨hn0,hO⟩:=hf;obtain ⟨n,rfl⟩:∃ n:Nat,Ma=(n:Int):=⟨Ma.toNat,(Int.toNat_of_nonneg hn0).symm⟩;rw [Int.toNat_natCast] at hO ⊢;clear h hn0;have HO:=ga.mk hO;have hn:n ≤ 1048576:=hO.2.1;have hm0:0 < Aa.length:=hO.1.1;have hm1:Aa.length ≤ 1048576:=hO.1.2.1;clear hO;have fl:=ga.mk Xd;have vI:=ga.mk Ff;have VP:=ga.mk Vd;have KL:=ga.mk uf;obtain ⟨W1,Wf⟩:∃ W1,W1=((w.alloc (.cells #[.slice Xa Ra.length Ya,.int .i64 La,.int .i64 Ja,.int .i64 (n:Int),.slice Mb Aa.length Fb] 30 (0,0))).alloc (.cells #[] 60 (0,0))):=⟨_,rfl⟩;have HW:=ga.mk Wf
 have HA:=ga.mk (show Ip w (RD Xa Ra.length Ya La Ja n Mb Aa.length Fb) (fun k=>k=w.heap.size + 1) (.slice (some ⟨w.heap.size + 1,0,none⟩) 0 0) (.slice none 0 0) [] [] W1 from by
  have z1:(w.alloc (.cells #[.slice Xa Ra.length Ya,.int .i64 La,.int .i64 Ja,.int .i64 (n:Int),.slice Mb Aa.length Fb] 30 (0,0))).heap.size=w.heap.size + 1:=by simp
  have b1:=Qj w (.cells #[.slice Xa Ra.length Ya,.int .i64 La,.int .i64 Ja,.int .i64 (n:Int),.slice Mb Aa.length Fb] 30 (0,0));have e1:=qa (Below.refl w.heap.size w) (.cells #[.slice Xa Ra.length Ya,.int .i64 La,.int .i64 Ja,.int .i64 (n:Int),.slice Mb Aa.length Fb] 30 (0,0));rw [Wf];generalize w.alloc (.cells #[.slice Xa Ra.length Ya,.int .i64 La,.int .i64 Ja,.int .i64 (n:Int),.slice Mb Aa.length Fb] 30 (0,0))=u1 at z1 b1 e1 ⊢;have z2:(u1.alloc (.cells #[] 60 (0,0))).heap.size=w.heap.size + 2:=by simp [z1]
  have s1:=Bz (Kd.slice 4 Kd.bool) 60 u1 w.heap.size (by omega);have e2:=qa (Below.refl u1.heap.size u1) (.cells #[] 60 (0,0));rw [z1] at s1
  exact ⟨Qa e1 e2,Va b1 e2,s1,Kd.HJ _ _ _ _ _,fun k hk=>⟨by omega,by omega⟩⟩)
 clear Wf Xd Ff Vd uf;go_enter Try.func57,Try.ntmps57
 go_upto_region 2 with (fail)
 rw [← HW.out];clear HW;go_wp2
 go_loopg [3,4] n (fun gg v3 v4 wr=>∃ (j:Nat) (PB:Nat→Prop),v4 = .int .i64 j∧j ≤ n∧n - j ≤ gg∧ga (Ip w (RD Xa Ra.length Ya La Ja n Mb Aa.length Fb) PB v3 (.slice none 0 0) (List.replicate j (List.replicate n false)) [] wr))
 case atStart=>exact ⟨0,_,rfl,Nat.zero_le _,by omega,HA⟩
 case round =>
  clear HA;(try clear PB);(try clear HA);obtain ⟨j,PB,rfl,hj,XS,HA⟩:=hrel;have Lp:=JA HA.out
  by_cases hlt:j < n
  ·have dr:decide ((j:Int) < (n:Int))=true:=decide_eq_true (by omega);have g_:(0:Int) ≤ (n:Int):=by omega
   have u_:=ga.mk (show ((n:Int)).toNat * 1 ≤ 281474976710656 from by omega);have w_:=ga.mk (show ((List.replicate j (List.replicate n false)).length + 1) * 24 ≤ 140737488355328 from by rw [List.length_replicate];omega)
   go_upto_region 4 with (first|((with_reducible refine qb (N:=23) rfl ?_);refine Kd.Yw Kd.bool (w0:=wr) wr.heap.size 4 rfl (N:=23) rfl 60 _ _ rfl (n:Int) rfl rfl Try.underlying60 (.bool false) 1 Ew rfl (by decide) (by omega) false (ok:=fun k=>wr.heap.size ≤ k) (Tg:=fun k=>wr.heap.size ≤ k) rfl (fun _ hk=>hk) (Nat.le_refl _) g_ u_.out (Below.refl _ _) (Nat.le_refl _) ?_;intro v23 Hr ho hb hg hat;rw [Int.toNat_natCast] at ho;obtain ⟨A23,eB,rfl⟩:=Kd.Zd ho;have pag:=ga.mk (ZL ho HA.out.bl.size);simp only [List.length_replicate] at pag;have L9:=ga.mk hb;have Waf:=ga.mk (Qa HA.out.bl hb);clear ho hb hg hat Lp)|((with_reducible refine qb (N:=25) rfl ?_);refine Kd.tr (Kd.slice 4 Kd.bool) (w0:=w) w.heap.size rfl (.tmp 20) (.tmp 24) 55 60 (.slice none 0 0) 24 rfl Try.underlying55 YC rfl (by decide) (by omega) _ (List.replicate j (List.replicate n false)) (List.replicate n false) _ (fun k=>PB k ∨ wr.heap.size ≤ k) (fun k=>wr.heap.size ≤ k) rfl rfl pag.out HA.out.neX (HA.out.frX L9.out) (HA.out.okX L9.out) Waf.out Waf.out.size w_.out ?_;intro v25 qx hs hb hg hat;have FZ:=ga.mk (HA.out.W7 L9.out hs hb hg);clear hs hb hg hat))
   go_wp2
   go_roundg (n - (j + 1))
   case measure=>omega
   case rel =>
    have h2:=FZ.out;rw [← List.replicate_succ'] at h2;exact ⟨j + 1,_,by go_num,by omega,by omega,⟨h2⟩⟩
  ·have dr:decide ((j:Int) < (n:Int))=false:=decide_eq_false (by omega);obtain rfl:n=j:=by omega
   obtain ⟨wb,rfl⟩:∃ wb,wb=wr:=⟨_,rfl⟩;have hx0:wb.cell? ⟨w.heap.size,0,none⟩=some (.slice Xa Ra.length Ya):=(ia HA.out.hx 0).trans rfl;have hx1:wb.cell? ⟨w.heap.size,1,none⟩=some (.int .i64 La):=(ia HA.out.hx 1).trans rfl;have Ku:wb.cell? ⟨w.heap.size,2,none⟩=some (.int .i64 Ja):=(ia HA.out.hx 2).trans rfl;have Yp:wb.cell? ⟨w.heap.size,4,none⟩=some (.slice Mb Aa.length Fb):=(ia HA.out.hx 4).trans rfl;obtain ⟨klv,Iaa⟩:=Ev.rounds (YK Ra La Ja HO.out);have HLV:=ga.mk Iaa;clear Iaa XS hj;obtain ⟨AT,cT,hvT⟩:=Kd.mh HA.out.x;rw [List.length_replicate] at hvT;subst hvT
   go_upto_region 7 with (first|(go_at_call 41;(with_reducible refine (gb.calls klv Xa Ya Ra La Ja (n:Int) Mb Fb Aa (Ke Aa n) wb (Kd.Jb fl.out HA.out.bl) VP.out (Kd.Jb vI.out HA.out.bl) KL.out HLV.out).mono ?_);rintro e w6 ⟨v6,rfl,ho,hb⟩;obtain ⟨A5,c5,rfl⟩:=Kd.mh ho;have IL:=ga.mk ho;have gB:=ga.mk hb;clear ho hb hx0 hx1 Ku Lp Yp))
   rw [Di] at IL ⊢;have OU:=ga.mk (show ∀ k,PB k→w.heap.size < k∧k < wb.heap.size from HA.out.pb);have OJ:=ga.mk (show ∀ k,PB k→w.heap.size < k∧k < w6.heap.size from fun k hk=>⟨(OU.out k hk).1,Nat.lt_of_lt_of_le (OU.out k hk).2 gB.out.size⟩);have I3:=ga.mk (show Aa.length ≤ c5 from (Kd.Uc IL.out).2.1);have HLC:=ga.mk (show ∀ W,Kept w6 W (JZ PB w6)→Kd.C (Kd.slice 4 Kd.bool) W A5 (Ke Aa n).length (Ke Aa n) from fun W hk=>(Kd.Uc (Kd.qt (Kd.Mg (Kd.vt IL.out) (fun k hk=>⟨hk.2.1,hk.2.2.1⟩):Kd.S (Kd.slice 4 Kd.bool) _ w6 _ (fun k=>wb.heap.size ≤ k∧k < w6.heap.size) _ _) hk (fun k hk e=>e.elim (fun e=>by have:=(OU.out k e).2;omega) (fun e=>by omega)))).2.2);have HW6:=ga.mk (show w.heap.size < w6.heap.size from by have:=Ec HA.out.hx;have:=gB.out.size;omega);have tV:=ga.mk (show tI w w6 (RD Xa Ra.length Ya La Ja n Mb Aa.length Fb) n PB (.slice AT n cT) aM w6 from ⟨Qa HA.out.bl gB.out,Kept.refl _ _,Va HA.out.hx gB.out,_,Kd.Yd HA.out.x gB.out,GJ.start n⟩);clear HA gB IL OU HLV;generalize Value.slice AT n cT=v at tV ⊢;obtain ⟨C_,F6⟩:∃ C_:Nat→Nat→Prop,C_=fun a b=>Hg zg Aa (Ke Aa n) 0 aM a b ∨ (b < a∧seen (ZC Aa n) a=true∧seen (ZC Aa n) b=true):=⟨_,rfl⟩
   have qas:=ga.mk F6;have HFO:=ga.mk (show ∀ a b,(Hg zg Aa (Ke Aa n) 0 aM a b ∨ (b < a∧seen (ZC Aa n) a=true∧seen (ZC Aa n) b=true)) ↔ C_ a b from fun a b=>by rw [F6]);clear F6;go_wp2
   go_loopg [6] Aa.length (fun gg v6 wr=>∃ (i:Nat) (P:Nat→Nat→Prop),v6 = .int .i64 i∧i ≤ Aa.length∧Aa.length - i ≤ gg∧ga (∀ a b,(Hg zg Aa (Ke Aa n) i P a b ∨ (i=0∧b < a∧seen (ZC Aa n) a=true∧seen (ZC Aa n) b=true)) ↔ C_ a b)∧ga (tI w w6 (RD Xa Ra.length Ya La Ja n Mb Aa.length Fb) n PB v P wr))
   case atStart=>exact ⟨0,aM,rfl,Nat.zero_le _,by omega,⟨fun a b=>⟨fun h=>(HFO.out a b).1 (h.imp id (fun h=>h.2)),fun h=>((HFO.out a b).2 h).imp id (fun h=>⟨rfl,h⟩)⟩⟩,tV⟩
   case round =>
    clear tV HFO hlt dr;(try clear P);(try clear wZ);(try clear HI);obtain ⟨i,P,rfl,hi,XS,wZ,HI⟩:=hrel;have Yp:wr.cell? ⟨w.heap.size,4,none⟩=some (.slice Mb Aa.length Fb):=(ia HI.out.hx 4).trans rfl
    by_cases hlt:i < Aa.length
    ·have dr:decide ((i:Int) < (Aa.length:Int))=true:=decide_eq_true (by omega);have i1:0 ≤ (i:Int):=by omega
     have i2:(i:Int) < (Aa.length:Int):=by omega
     obtain ⟨ag,Ac,cc,e1,hc0,Vn,Lz,SD,eP,uw,Y0⟩:=Vi vI.out (i:Int) (by omega) (by omega);subst e1;simp only [Int.toNat_natCast] at hc0 Vn Lz SD eP;have J3:=ga.mk Y0;have E9:=ga.mk uw;replace hc0:=Yc hc0 (Kept.Ad HI.out.bw (fun _=>False)) id;replace Vn:=Yc Vn (Kept.Ad HI.out.bw (fun _=>False)) id;replace Lz:=Yc Lz (Kept.Ad HI.out.bw (fun _=>False)) id;replace SD:=Yc SD (Kept.Ad HI.out.bw (fun _=>False)) id;replace eP:=Yc eP (Kept.Ad HI.out.bw (fun _=>False)) id;clear Y0 uw
     go_upto_region 11 with (fail)
     have qA:=qa (Below.refl wr.heap.size wr) (.cells #[.slice Ac (Ea Aa (i:Int)).f0.length cc,.int .i64 (Ea Aa (i:Int)).f1,.int .i64 (Ea Aa (i:Int)).f2,.int .i64 (Ea Aa (i:Int)).f3,.int .i64 (Ea Aa (i:Int)).f4] 59 (0,0));have cD:=Qj wr (.cells #[.slice Ac (Ea Aa (i:Int)).f0.length cc,.int .i64 (Ea Aa (i:Int)).f1,.int .i64 (Ea Aa (i:Int)).f2,.int .i64 (Ea Aa (i:Int)).f3,.int .i64 (Ea Aa (i:Int)).f4] 59 (0,0));generalize wr.alloc (.cells #[.slice Ac (Ea Aa (i:Int)).f0.length cc,.int .i64 (Ea Aa (i:Int)).f1,.int .i64 (Ea Aa (i:Int)).f2,.int .i64 (Ea Aa (i:Int)).f3,.int .i64 (Ea Aa (i:Int)).f4] 59 (0,0))=Yq at qA cD ⊢;have SJ:=ga.mk ((HI.out.below qA).below (Wm (Below.refl Yq.heap.size Yq)));have bp:=ga.mk (show Yq.drew.heap[wr.heap.size]? = _ from cD);have L2:=ga.mk (show w6.heap.size ≤ wr.heap.size from HI.out.k.1);clear qA cD HI Yp hc0 Vn Lz SD eP i1 i2 dr;generalize wr.heap.size=q7 at bp L2 ⊢;have wV:=ga.mk (Yt HO.out hlt);have sV:=ga.mk (show (ee (Ke Aa n) i).length=n from by rw [Gx hlt];exact Ji _ _ _);have EZ:=ga.mk (ZQ (b:=(Ea Aa (i:Int))) (s:=(ee (Ke Aa n) i)) (by rw [sV.out];exact wV.out) (by rw [sV.out];exact hn));obtain ⟨a5,Ar,cr,e5,hrc,hrl,hrC⟩:=Vq (HLC.out Yq.drew SJ.out.k) (i:Int) (by omega) (by rw [Di];omega);subst e5;rw [Int.toNat_natCast] at hrc;rw [Wz] at hrc hrl hrC;have t_:=ga.mk (And.intro hrc (And.intro hrl hrC));have i1:0 ≤ (i:Int):=by omega
     have i2:(i:Int) < (Aa.length:Int):=by omega
     clear hrc hrl hrC;refine Km (n:=7) (S:=fun w'=>w'.cell? ⟨q7,0,none⟩=some (.slice Ac (Ea Aa (i:Int)).f0.length cc)∧w'.cell? ⟨q7,1,none⟩=some (.int .i64 (Ea Aa (i:Int)).f1)∧w'.cell? ⟨q7,2,none⟩=some (.int .i64 (Ea Aa (i:Int)).f2)∧w'.cell? ⟨q7,3,none⟩=some (.int .i64 (Ea Aa (i:Int)).f3)∧w'.cell? ⟨q7,4,none⟩=some (.int .i64 (Ea Aa (i:Int)).f4)∧w'.cell? (a5.add i)=some (.slice Ar (ee (Ke Aa n) i).length cr)) (ds:=[]) #[false,false,false,false,false,false,false] (by kernel_rfl) rfl rfl ⟨(ia bp.out 0).trans rfl,(ia bp.out 1).trans rfl,(ia bp.out 2).trans rfl,(ia bp.out 3).trans rfl,(ia bp.out 4).trans rfl,t_.out.1⟩ (fun hHeld=>?_);generalize Yq.drew=wd at SJ bp t_ hHeld ⊢;refine zd (i:=1) (N:=some 41) (v:=?_) (a':=?_) #[false,true,false,false,false,false,false] rfl rfl (by kernel_rfl) (fun _ _ _ h=>h) (Or.inl ⟨by rfl,?_⟩) ?_ ?_;rotate_left
     ·intro w';go_simp;with_reducible rfl
     rotate_left
     ·simp only [Act.put,List.setIfInBounds_toArray,List.set_cons_zero,List.set_cons_succ,Zb,dc]
      rfl
     refine zd (i:=2) (N:=some 42) (v:=?_) (a':=?_) #[false,true,true,false,false,false,false] rfl rfl (by kernel_rfl) (fun _ _ _ h=>h) (Or.inl ⟨by rfl,?_⟩) ?_ ?_;rotate_left
     ·intro w';go_simp;with_reducible rfl
     rotate_left
     ·simp only [Act.put,List.setIfInBounds_toArray,List.set_cons_zero,List.set_cons_succ,Zb,dc]
      rfl
     refine zd (i:=3) (N:=some 43) (v:=?_) (a':=?_) #[false,true,true,true,false,false,false] rfl rfl (by kernel_rfl) (fun _ _ _ h=>h) (Or.inl ⟨by rfl,?_⟩) ?_ ?_;rotate_left
     ·intro w';go_simp;with_reducible rfl
     rotate_left
     ·simp only [Act.put,List.setIfInBounds_toArray,List.set_cons_zero,List.set_cons_succ,Zb,dc]
      rfl
     refine Ug (i:=0) (N:=some 40) (v:=?_) (a':=?_) #[true,true,true,true,false,false,false] rfl rfl (by kernel_rfl) (fun _ _ _ h=>h) (Or.inl ⟨by rfl,?_⟩) hHeld ?_ ?_;rotate_left
     ·rintro w' ⟨s0,s1,s2,s3,s4,s5⟩;go_simp;with_reducible rfl
     rotate_left
     ·simp only [Act.put,List.setIfInBounds_toArray,List.set_cons_zero,List.set_cons_succ,Zb,dc]
      rfl
     refine Ug (i:=4) (N:=some 44) (v:=?_) (a':=?_) #[true,true,true,true,true,false,false] rfl rfl (by kernel_rfl) (fun _ _ _ h=>h) (Or.inl ⟨by rfl,?_⟩) hHeld ?_ ?_;rotate_left
     ·rintro w' ⟨s0,s1,s2,s3,s4,s5⟩;go_simp;with_reducible rfl
     rotate_left
     ·simp only [Act.put,List.setIfInBounds_toArray,List.set_cons_zero,List.set_cons_succ,Zb,dc]
      rfl
     refine Qw (i:=5) (N:=some 45) #[true,true,true,true,true,true,false] rfl rfl (by kernel_rfl) (by decide) (fun K hK=>?_);refine Et Try.func42 (by kernel_rfl) rfl #[.agg #[.slice Ac (Ea Aa (i:Int)).f0.length cc,.int .i64 (Ea Aa (i:Int)).f1,.int .i64 (Ea Aa (i:Int)).f2,.int .i64 (Ea Aa (i:Int)).f3,.int .i64 (Ea Aa (i:Int)).f4],.slice Ar (ee (Ke Aa n) i).length cr] (by rfl) rfl rfl (by simp only [List.map_toArray,List.map_cons,List.map_nil];rfl) ?_;with_reducible refine (kg.calls Ac cc (Ea Aa (i:Int)).f0 (Ea Aa (i:Int)).f1 (Ea Aa (i:Int)).f2 (Ea Aa (i:Int)).f3 (Ea Aa (i:Int)).f4 Ar cr (ee (Ke Aa n) i) (Sg (Ea Aa (i:Int)) (ee (Ke Aa n) i)) wd (Kd.Jb J3.out SJ.out.bw) E9.out t_.out.2.2 t_.out.2.1 EZ.out).mono ?_
     rintro e Mw ⟨v14,rfl,ho,hb⟩;refine ⟨_,rfl,?_⟩;obtain ⟨As,cs,hvs⟩:=Kd.Zd ho;rw [Nk,sV.out] at hvs;subst hvs;have L8:=ga.mk ho;have A9:=ga.mk (SJ.out.below hb);have NJ:=ga.mk (Va bp.out hb);have Taf:=ga.mk ((Kept.Ad hb (fun _=>False)).2);have fZ:=ga.mk (And.intro (Ec bp.out) hb.size);have N0:=Yc t_.out.1 (Kept.Ad hb (fun _=>False)) id;clear ho hb;refine hK.out _ _ ⟨(ia NJ.out 0).trans rfl,(ia NJ.out 1).trans rfl,(ia NJ.out 2).trans rfl,(ia NJ.out 3).trans rfl,(ia NJ.out 4).trans rfl,N0⟩ (fun hHeld=>?_);clear hK K;refine xp (a':=?_) ?_ ?_;rotate_left
     ·show Act.put _ (some 45) _=_
      simp only [Act.put,List.setIfInBounds_toArray,List.set_cons_zero,List.set_cons_succ,Zb,dc]
      rfl
     refine zd (i:=6) (N:=some 8) (v:=?_) (a':=?_) #[true,true,true,true,true,true,true] rfl rfl (by kernel_rfl) (fun _ _ _ h=>h) (Or.inl ⟨by rfl,?_⟩) ?_ ?_;rotate_left
     ·intro w';go_simp;with_reducible rfl
     rotate_left
     ·simp only [Act.put,List.setIfInBounds_toArray,List.set_cons_zero,List.set_cons_succ,Zb,dc]
      rfl
     refine jr (by kernel_rfl) ?_;clear hHeld N0 Taf t_ SJ bp;have HLW:=ga.mk A9.out.k.1;have RJ:=ga.mk (show w6.heap.size ≤ wd.heap.size∧q7 < wd.heap.size∧wd.heap.size ≤ Mw.heap.size from ⟨by have:=fZ.out;have:=L2.out;omega,fZ.out.1,fZ.out.2⟩);clear fZ HLW;generalize wd.heap.size=N5 at L8 RJ;have TD:Mw.cell? ⟨q7,0,none⟩=some (.slice Ac (Ea Aa (i:Int)).f0.length cc):=(ia NJ.out 0).trans rfl;have uw:(Ea Aa (i:Int)).f0.length ≤ 1048576:=wV.out.1;have ES:wrap64 (((Ea Aa (i:Int)).f0.length:Int) - 1)=((Ea Aa (i:Int)).f0.length:Int) - 1:=ij uw;have G8:=ga.mk ES;clear ES i1 i2;have XP:=ga.mk (show yp zg ((Ea Aa (i:Int)).f0.take (Ea Aa (i:Int)).f0.length).reverse (sr (Ea Aa (i:Int)).f0 (Ea Aa (i:Int)).f0.length (Sg (Ea Aa (i:Int)) (ee (Ke Aa n) i))) P=Iw zg Aa (Ke Aa n) P i from by rw [List.take_length,nt];rfl);have Gr:=ga.mk (show Kd.R Kd.bool 4 Mw N5 (fun _=>True) (.slice As n cs) (sr (Ea Aa (i:Int)).f0 (Ea Aa (i:Int)).f0.length (Sg (Ea Aa (i:Int)) (ee (Ke Aa n) i))) from by rw [nt];exact L8.out);clear L8;go_wp2;clear TD
     go_loopg [9] (Ea Aa (i:Int)).f0.length (fun g6 v9 wr=>∃ (z:Int) (q:Nat) (P':Nat→Nat→Prop),v9 = .int .i64 z∧z + 1=(q:Int)∧q ≤ (Ea Aa (i:Int)).f0.length∧q ≤ g6∧ga (yp zg ((Ea Aa (i:Int)).f0.take q).reverse (sr (Ea Aa (i:Int)).f0 q (Sg (Ea Aa (i:Int)) (ee (Ke Aa n) i))) P' = Iw zg Aa (Ke Aa n) P i)∧ga (tI w w6 (RD Xa Ra.length Ya La Ja n (some ag) Aa.length Fb) n PB v P' wr)∧ga (Kd.R Kd.bool 4 wr N5 (fun _=>True) (.slice As n cs) (sr (Ea Aa (i:Int)).f0 q (Sg (Ea Aa (i:Int)) (ee (Ke Aa n) i))))∧ga (N5 ≤ wr.heap.size)∧ga (wr.heap[q7]? = some (.cells #[.slice Ac (Ea Aa (i:Int)).f0.length cc,.int .i64 (Ea Aa (i:Int)).f1,.int .i64 (Ea Aa (i:Int)).f2,.int .i64 (Ea Aa (i:Int)).f3,.int .i64 (Ea Aa (i:Int)).f4] 59 (0,0))))
     case atStart=>exact ⟨((Ea Aa (i:Int)).f0.length:Int) - 1,(Ea Aa (i:Int)).f0.length,P,by first|rfl|(go_simp;done)|exact congrArg _ G8.out|go_num,by omega,Nat.le_refl _,Nat.le_refl _,XP,A9,Gr,⟨RJ.out.2.2⟩,NJ⟩
     case round =>
      clear XP A9 Gr NJ;(try clear P);(try clear XP);(try clear HI);(try clear Gr);(try clear QA);(try clear HQ);obtain ⟨z,q,P',rfl,hz,hq,hg6,XP,HI,Gr,QA,HQ⟩:=hrel
      by_cases hz0:0 ≤ z
      ·obtain ⟨p,rfl⟩:∃ p:Nat,z=(p:Int):=⟨z.toNat,(Int.toNat_of_nonneg hz0).symm⟩;obtain rfl:q=p + 1:=by omega
       have kW:p < (Ea Aa (i:Int)).f0.length:=by omega
       have tS:decide ((p:Int) ≥ 0)=true:=decide_eq_true (by omega);have p1:0 ≤ (p:Int):=by omega
       have p2:(p:Int) < ((Ea Aa (i:Int)).f0.length:Int):=by omega
       have TD:wr.cell? ⟨q7,0,none⟩=some (.slice Ac (Ea Aa (i:Int)).f0.length cc):=(ia HQ.out 0).trans rfl;obtain ⟨aI,e6,k0,k1,k2,k3,k4,k5,k6⟩:=fo J3.out (p:Int) (by omega) (by omega);subst e6;simp only [Int.toNat_natCast] at k0 k1 k2 k3 k4 k5 k6;have vZ:=ga.mk (TC wV.out kW)
       have HXT:=ga.mk (show yp zg ((Ea Aa (i:Int)).f0.take p).reverse (sr (Ea Aa (i:Int)).f0 p (Sg (Ea Aa (i:Int)) (ee (Ke Aa n) i))) (zg P' (Da (Ea Aa (i:Int)).f0 (p:Int)) (sr (Ea Aa (i:Int)).f0 (p + 1) (Sg (Ea Aa (i:Int)) (ee (Ke Aa n) i))))=Iw zg Aa (Ke Aa n) P i from by
        have h:=XP.out;rw [rD zg kW,← Fp kW] at h
        exact h)
       have HXB:=ga.mk (show (sr (Ea Aa (i:Int)).f0 p (Sg (Ea Aa (i:Int)) (ee (Ke Aa n) i)))=Am (sr (Ea Aa (i:Int)).f0 (p + 1) (Sg (Ea Aa (i:Int)) (ee (Ke Aa n) i))) (Da (Ea Aa (i:Int)).f0 (p:Int)) from Fp kW _);have KP:=ga.mk (show (sr (Ea Aa (i:Int)).f0 (p + 1) (Sg (Ea Aa (i:Int)) (ee (Ke Aa n) i))).length=n by rw [cw,Nk];exact sV.out);generalize Da (Ea Aa (i:Int)).f0 (p:Int)=x at k0 k1 k2 k3 k4 k5 k6 vZ HXT HXB;generalize (sr (Ea Aa (i:Int)).f0 (p + 1) (Sg (Ea Aa (i:Int)) (ee (Ke Aa n) i)))=s at Gr KP HXT HXB;have HKC:=ga.mk (And.intro k0 (And.intro k1 (And.intro k2 (And.intro k3 (And.intro k4 (And.intro k5 k6))))));replace k0:=Yc k0 (Kept.Ad HI.out.bw (fun _=>False)) id;replace k1:=Yc k1 (Kept.Ad HI.out.bw (fun _=>False)) id;replace k2:=Yc k2 (Kept.Ad HI.out.bw (fun _=>False)) id;replace k3:=Yc k3 (Kept.Ad HI.out.bw (fun _=>False)) id;replace k4:=Yc k4 (Kept.Ad HI.out.bw (fun _=>False)) id;replace k5:=Yc k5 (Kept.Ad HI.out.bw (fun _=>False)) id;replace k6:=Yc k6 (Kept.Ad HI.out.bw (fun _=>False)) id;obtain ⟨nV,hdx⟩:=Y6 vZ.out;have HDE:=ga.mk nV;have HDX:=ga.mk hdx;have o_:=ga.mk (show wrap64 ((p:Int) - 1)=(p:Int) - 1 from ij (by omega));obtain ⟨kb,ZZ⟩:=Ev.rounds (BJ s x (by rw [KP.out];exact vZ.out));have x_:=ga.mk ZZ;clear nV hdx ZZ hz0;obtain ⟨wk,rfl⟩:∃ wk,wk=wr:=⟨_,rfl⟩
       by_cases hm:Vp x ≥ 0
       ·obtain ⟨D,hD⟩:∃ D:Nat,Vp x=(D:Int):=⟨(Vp x).toNat,(Int.toNat_of_nonneg hm).symm⟩;have hDn:D < n:=by have:=OZ vZ.out hm;omega
        have HMD:=ga.mk hD;have HF1:=ga.mk (show x.f1=(D:Int) from (HDX.out hm).trans hD);have nV:=HDE.out;rw [decide_eq_true hm] at nV;have D9:=ga.mk nV;clear nV hm hD HDE
        go_upto_region 16 with (first|(go_at_call 73;(with_reducible refine (qh.calls x.f0 x.f1 x.f2 x.f3 x.f4 x.f5 x.f6 true wk D9.out).mono ?_);rintro e Un ⟨rfl,hb⟩;have Er:=ga.mk hb;clear hb TD k0 k1 k2 k3 k4 k5 k6))
        have zag:=ga.mk ((HI.out.below Er.out).Ap (Q:=Wp P' x s 0) (fun a b=>Iff.intro Or.inl (fun h=>h.elim id (fun h=>absurd h.2.2.1 (Nat.not_lt_zero _)))));have MU:=ga.mk (Kd.Bd (Kd.xg (Kd.pg Gr.out Er.out)) (fun k hk=>hk.2.1):Kd.R Kd.bool _ Un N5 (fun k=>N5 ≤ k) _ s);have MJ:=ga.mk (Va HQ.out Er.out);have QJ:=ga.mk (show N5 ≤ Un.heap.size from Nat.le_trans QA.out Er.out.size);clear HI Gr HQ Er tS p1 p2 QA;go_wp2
        go_loopg [10] n (fun g7 v10 wr=>∃ (u:Nat),v10 = .int .i64 u∧u ≤ n∧n - u ≤ g7∧ga (tI w w6 (RD Xa Ra.length Ya La Ja n (some ag) Aa.length Fb) n PB v (Wp P' x s u) wr)∧ga (Kd.R Kd.bool 4 wr N5 (fun k=>N5 ≤ k) (.slice As n cs) s)∧ga (wr.heap[q7]? = some (.cells #[.slice (some aI) (Ea Aa (i:Int)).f0.length cc,.int .i64 (Ea Aa (i:Int)).f1,.int .i64 (Ea Aa (i:Int)).f2,.int .i64 (Ea Aa (i:Int)).f3,.int .i64 (Ea Aa (i:Int)).f4] 59 (0,0)))∧ga (N5 ≤ wr.heap.size))
        case atStart=>exact ⟨0,rfl,Nat.zero_le _,by omega,zag,MU,MJ,QJ⟩
        case round =>
         clear zag MU MJ QJ;(try clear HI);(try clear Gr);(try clear HQ);(try clear QA);obtain ⟨u,rfl,hu,hg7,HI,Gr,HQ,QA⟩:=hrel;have Lp:wr.cell? ⟨w.heap.size,3,none⟩=some (.int .i64 (n:Int)):=(ia HI.out.hx 3).trans rfl
         by_cases hun:u < n
         ·have hub:decide ((u:Int) < (n:Int))=true:=decide_eq_true (by omega);have u1:0 ≤ (u:Int):=by omega
          have u2:(u:Int) < (n:Int):=by omega
          have lV:=(Kd.Bc Gr.out).2.2;obtain ⟨aS,e7,hsc⟩:=Jx lV (show u < s.length by rw [KP.out];exact hun);subst e7;clear lV;cases wM:seen s u with
          | true =>
           rw [wM] at hsc;have TD:wr.cell? ⟨q7,0,none⟩=some (.slice (some aI) (Ea Aa (i:Int)).f0.length cc):=(ia HQ.out 0).trans rfl;obtain ⟨-,k1,-⟩:=HKC.out;replace k1:=Yc k1 (Kept.Ad HI.out.bw (fun _=>False)) id;rw [HF1.out] at k1;have p1:0 ≤ (p:Int):=by omega
           have p2:(p:Int) < ((Ea Aa (i:Int)).f0.length:Int):=by omega
           have HCM:=ga.mk (HI.out.call OJ.out hDn hun hn);have r_:=ga.mk wM;clear wM;go_wp2_with (first|(go_at_call 84;refine HCM.out.mono ?_;rintro e Ct ⟨rfl,h1,h2,h3⟩;have z9:=ga.mk h1;have K8:=ga.mk (Kd.Zw Gr.out h2 (fun k hk e=>by have:=(OJ.out k e).2;have:=RJ.out;omega));have aas:=ga.mk (Pf HQ.out h2 (fun e=>by have:=(OJ.out _ e).2;have:=L2.out;omega));have kag:=ga.mk (Nat.le_trans QA.out h2.1);clear h1 h2 h3 hsc TD k1 Lp))
           have vE:=ga.mk (z9.out.Ap (Q:=Wp P' x s (u + 1)) (fun a b=>by
            unfold Wp;have h1:=HMD.out
            constructor
            ·rintro ((h|⟨h2,h3,h4,h5⟩)|⟨rfl,rfl⟩)
             ·exact Or.inl h
             ·exact Or.inr ⟨h2,h3,by omega,h5⟩
             ·exact Or.inr ⟨by omega,by omega,by omega,r_.out⟩
            ·rintro (h|⟨h2,h3,h4,h5⟩)
             ·exact Or.inl (Or.inl h)
             ·by_cases e:b=u
              ·exact Or.inr ⟨by omega,e⟩
              ·exact Or.inl (Or.inr ⟨h2,h3,by omega,h5⟩)))
           go_roundg (n - (u + 1))
           case measure=>omega
           case rel=>exact ⟨u + 1,by go_num,by omega,by omega,vE,K8,aas,kag⟩
          | false =>
           rw [wM] at hsc
           have vE:=ga.mk (HI.out.Ap (Q:=Wp P' x s (u + 1)) (fun a b=>by
            unfold Wp
            constructor
            ·rintro (h|⟨h2,h3,h4,h5⟩)
             ·exact Or.inl h
             ·exact Or.inr ⟨h2,h3,by omega,h5⟩
            ·rintro (h|⟨h2,h3,h4,h5⟩)
             ·exact Or.inl h
             ·by_cases e:b=u
              ·subst e;rw [wM] at h5;cases h5
              ·exact Or.inr ⟨h2,h3,by omega,h5⟩))
           clear wM;go_wp2
           go_roundg (n - (u + 1))
           case measure=>omega
           case rel=>exact ⟨u + 1,by go_num,by omega,by omega,vE,Gr,HQ,QA⟩
         ·have hub:decide ((u:Int) < (n:Int))=false:=decide_eq_false (by omega)
          have uE:=ga.mk (HI.out.Ap (Q:=zg P' x s) (fun a b=>by
           unfold Wp zg
           constructor
           ·rintro (h|⟨h2,h3,h4,h5⟩)
            ·exact Or.inl h
            ·exact Or.inr ⟨h2,h3,h5⟩
           ·rintro (h|⟨h2,h3,h5⟩)
            ·exact Or.inl h
            ·exact Or.inr ⟨h2,h3,by have:=Sk h5;have:=KP.out;omega,h5⟩))
          clear HI;have TD:wr.cell? ⟨q7,0,none⟩=some (.slice (some aI) (Ea Aa (i:Int)).f0.length cc):=(ia HQ.out 0).trans rfl;obtain ⟨k0,k1,k2,k3,k4,k5,k6⟩:=HKC.out;replace k0:=Yc k0 (Kept.Ad uE.out.bw (fun _=>False)) id;replace k1:=Yc k1 (Kept.Ad uE.out.bw (fun _=>False)) id;replace k2:=Yc k2 (Kept.Ad uE.out.bw (fun _=>False)) id;replace k3:=Yc k3 (Kept.Ad uE.out.bw (fun _=>False)) id;replace k4:=Yc k4 (Kept.Ad uE.out.bw (fun _=>False)) id;replace k5:=Yc k5 (Kept.Ad uE.out.bw (fun _=>False)) id;replace k6:=Yc k6 (Kept.Ad uE.out.bw (fun _=>False)) id;have p1:0 ≤ (p:Int):=by omega
          have p2:(p:Int) < ((Ea Aa (i:Int)).f0.length:Int):=by omega
          have HCB:=ga.mk (Rw QA.out);have HSB:=ga.mk (show Kd.R Kd.bool 4 wr (oE wr N5).heap.size (fun k=>N5 ≤ k) (.slice As n cs) s by rw [xk QA.out];exact Gr.out);go_wp2_with (first|(go_at_call 44;(with_reducible refine (qc.calls kb x.f0 x.f1 x.f2 x.f3 x.f4 x.f5 x.f6 (fun k=>N5 ≤ k) (.slice As n cs) s (Am s x) (oE wr N5) wr HCB.out HSB.out x_.out).mono ?_);rintro e qw ⟨rfl,ho,hb,hk⟩;have J8:=ga.mk ho;have xw:=ga.mk hb;have bI:=ga.mk hk;clear ho hb hk TD k0 k1 k2 k3 k4 k5 k6));have uS:Below 0 wr qw:=⟨xw.out.os,xw.out.tape,xw.out.output,bI.out.1,fun k hk=>absurd hk (Nat.not_lt_zero _)⟩;have y9:=ga.mk (uE.out.far OJ.out HW6.out RJ.out.1 bI.out uS);have JK:=J8.out;rw [xk QA.out] at JK;have I8:=ga.mk (show Kd.R Kd.bool 4 qw N5 (fun _=>True) (.slice As n cs) (sr (Ea Aa (i:Int)).f0 p (Sg (Ea Aa (i:Int)) (ee (Ke Aa n) i))) from by rw [HXB.out];exact Kd.Bd JK (fun _ _=>trivial));have fR:=ga.mk (Pf HQ.out bI.out (by have:=RJ.out;omega));clear uS JK
          go_roundg p
          case measure=>omega
          case rel=>exact ⟨(p:Int) - 1,p,_,by first|rfl|(go_simp;done)|exact congrArg _ o_.out|go_num,by omega,by omega,Nat.le_refl _,HXT,y9,I8,⟨Nat.le_trans QA.out bI.out.1⟩,fR⟩
       ·have nV:=HDE.out;rw [decide_eq_false hm] at nV;have D9:=ga.mk nV
        have HI8:=ga.mk (HI.out.Ap (Q:=zg P' x s) (fun a b=>by
         unfold zg
         exact ⟨Or.inl,fun h=>h.elim id (fun h=>absurd h.1 hm)⟩))
        clear nV hm HDE HI
        go_upto_region 21 with (first|(go_at_call 73;(with_reducible refine (qh.calls x.f0 x.f1 x.f2 x.f3 x.f4 x.f5 x.f6 false wk D9.out).mono ?_);rintro e Un ⟨rfl,hb⟩;have Er:=ga.mk hb;clear hb TD k0 k1 k2 k3 k4 k5 k6))
        have uE:=ga.mk (HI8.out.below Er.out);have MU:=ga.mk (Kd.Bd (Kd.xg (Kd.pg Gr.out Er.out)) (fun k hk=>hk.2.1):Kd.R Kd.bool _ Un N5 (fun k=>N5 ≤ k) _ s);have MJ:=ga.mk (Va HQ.out Er.out);have QJ:=ga.mk (show N5 ≤ Un.heap.size from Nat.le_trans QA.out Er.out.size);clear HI8 Gr HQ Er tS p1 p2 QA;have Gr:=MU;have HQ:=MJ;have QA:=QJ;clear MU MJ QJ;have TD:Un.cell? ⟨q7,0,none⟩=some (.slice (some aI) (Ea Aa (i:Int)).f0.length cc):=(ia HQ.out 0).trans rfl;obtain ⟨k0,k1,k2,k3,k4,k5,k6⟩:=HKC.out;replace k0:=Yc k0 (Kept.Ad uE.out.bw (fun _=>False)) id;replace k1:=Yc k1 (Kept.Ad uE.out.bw (fun _=>False)) id;replace k2:=Yc k2 (Kept.Ad uE.out.bw (fun _=>False)) id;replace k3:=Yc k3 (Kept.Ad uE.out.bw (fun _=>False)) id;replace k4:=Yc k4 (Kept.Ad uE.out.bw (fun _=>False)) id;replace k5:=Yc k5 (Kept.Ad uE.out.bw (fun _=>False)) id;replace k6:=Yc k6 (Kept.Ad uE.out.bw (fun _=>False)) id;have p1:0 ≤ (p:Int):=by omega
        have p2:(p:Int) < ((Ea Aa (i:Int)).f0.length:Int):=by omega
        have HCB:=ga.mk (Rw QA.out);have HSB:=ga.mk (show Kd.R Kd.bool 4 Un (oE Un N5).heap.size (fun k=>N5 ≤ k) (.slice As n cs) s by rw [xk QA.out];exact Gr.out);go_wp2_with (first|(go_at_call 44;(with_reducible refine (qc.calls kb x.f0 x.f1 x.f2 x.f3 x.f4 x.f5 x.f6 (fun k=>N5 ≤ k) (.slice As n cs) s (Am s x) (oE Un N5) Un HCB.out HSB.out x_.out).mono ?_);rintro e qw ⟨rfl,ho,hb,hk⟩;have J8:=ga.mk ho;have xw:=ga.mk hb;have bI:=ga.mk hk;clear ho hb hk TD k0 k1 k2 k3 k4 k5 k6));have uS:Below 0 Un qw:=⟨xw.out.os,xw.out.tape,xw.out.output,bI.out.1,fun k hk=>absurd hk (Nat.not_lt_zero _)⟩;have y9:=ga.mk (uE.out.far OJ.out HW6.out RJ.out.1 bI.out uS);have JK:=J8.out;rw [xk QA.out] at JK;have I8:=ga.mk (show Kd.R Kd.bool 4 qw N5 (fun _=>True) (.slice As n cs) (sr (Ea Aa (i:Int)).f0 p (Sg (Ea Aa (i:Int)) (ee (Ke Aa n) i))) from by rw [HXB.out];exact Kd.Bd JK (fun _ _=>trivial));have fR:=ga.mk (Pf HQ.out bI.out (by have:=RJ.out;omega));clear uS JK
        go_roundg p
        case measure=>omega
        case rel=>exact ⟨(p:Int) - 1,p,_,by first|rfl|(go_simp;done)|exact congrArg _ o_.out|go_num,by omega,by omega,Nat.le_refl _,HXT,y9,I8,⟨Nat.le_trans QA.out bI.out.1⟩,fR⟩
      ·have tS:decide (z ≥ 0)=false:=decide_eq_false (by omega);obtain rfl:q=0:=by omega
       have jT:=XP.out;rw [List.take_zero,List.reverse_nil,show yp zg [] (sr (Ea Aa (i:Int)).f0 0 (Sg (Ea Aa (i:Int)) (ee (Ke Aa n) i))) P' = P' from rfl] at jT;have HFZ:=ga.mk jT;have q_:=ga.mk (Kd.Bd (Kd.xg Gr.out) (fun k hk=>hk.2.1):Kd.R Kd.bool _ wr N5 (fun k=>N5 ≤ k) _ _);have KP:=ga.mk (show (sr (Ea Aa (i:Int)).f0 0 (Sg (Ea Aa (i:Int)) (ee (Ke Aa n) i))).length=n by rw [cw,Nk];exact sV.out);have M8:=ga.mk (show i=0→(sr (Ea Aa (i:Int)).f0 0 (Sg (Ea Aa (i:Int)) (ee (Ke Aa n) i)))=ZC Aa n from fun e=>by subst e;rw [BD,Gx hlt];rfl);clear jT XP Gr;generalize (sr (Ea Aa (i:Int)).f0 0 (Sg (Ea Aa (i:Int)) (ee (Ke Aa n) i)))=s at q_ KP M8;obtain ⟨wk,rfl⟩:∃ wk,wk=wr:=⟨_,rfl⟩;have yag:=ga.mk (HI.out.Ap (Q:=fun a b=>P' a b ∨ (i=0∧a < 0∧b < a∧seen s a=true∧seen s b=true)) (fun a b=>Iff.intro Or.inl (fun h=>h.elim id (fun h=>absurd h.2.1 (Nat.not_lt_zero _)))));clear HI HQ QA sV;go_wp2
       go_loopg [11] n (fun g8 v11 wr=>∃ (u:Nat),v11 = .int .i64 u∧u ≤ n∧n - u ≤ g8∧ga (tI w w6 (RD Xa Ra.length Ya La Ja n (some ag) Aa.length Fb) n PB v (fun a b=>P' a b ∨ (i=0∧a < u∧b < a∧seen s a=true∧seen s b=true)) wr)∧ga (Kd.R Kd.bool 4 wr N5 (fun k=>N5 ≤ k) (.slice As n cs) s))
       case atStart=>exact ⟨0,rfl,Nat.zero_le _,by omega,yag,q_⟩
       case round =>
        clear yag q_ tS;(try clear HI);(try clear Gr);obtain ⟨u,rfl,hu,hg8,HI,Gr⟩:=hrel;have Lp:wr.cell? ⟨w.heap.size,3,none⟩=some (.int .i64 (n:Int)):=(ia HI.out.hx 3).trans rfl
        by_cases oI:u < n∧i=0
        ·obtain ⟨hun,hi0⟩:=oI;have hub:decide ((u:Int) < (n:Int))=true:=decide_eq_true (by omega);have hib:((i:Int) == 0)=true:=by rw [beq_iff_eq];omega
         have HI0:=ga.mk hi0;clear hi0;have u1:0 ≤ (u:Int):=by omega
         have u2:(u:Int) < (n:Int):=by omega
         obtain ⟨wo,rfl⟩:∃ wo,wo=wr:=⟨_,rfl⟩;have xag:=ga.mk (HI.out.Ap (Q:=fun a b=>(P' a b ∨ (i=0∧a < u∧b < a∧seen s a=true∧seen s b=true)) ∨ (a=u∧b < 0∧seen s a=true∧seen s b=true)) (fun a b=>Iff.intro Or.inl (fun h=>h.elim id (fun h=>absurd h.2.1 (Nat.not_lt_zero _)))))
         go_upto_region 26 with (fail)
         clear Lp
         go_loopg [12] u (fun g9 v12 wr=>∃ (t:Nat),v12 = .int .i64 t∧t ≤ u∧u - t ≤ g9∧ga (tI w w6 (RD Xa Ra.length Ya La Ja n (some ag) Aa.length Fb) n PB v (fun a b=>(P' a b ∨ (i=0∧a < u∧b < a∧seen s a=true∧seen s b=true)) ∨ (a=u∧b < t∧seen s a=true∧seen s b=true)) wr)∧ga (Kd.R Kd.bool 4 wr N5 (fun k=>N5 ≤ k) (.slice As n cs) s))
         case atStart=>exact ⟨0,rfl,Nat.zero_le _,by omega,xag,Gr⟩
         case round =>
          clear xag Gr HI hub hib;(try clear HI);(try clear Gr);obtain ⟨t,rfl,ht,hg9,HI,Gr⟩:=hrel
          by_cases htu:t < u
          ·have htb:decide ((t:Int) < (u:Int))=true:=decide_eq_true (by omega);have t1:0 ≤ (t:Int):=by omega
           have t2:(t:Int) < (n:Int):=by omega
           have lV:=(Kd.Bc Gr.out).2.2;obtain ⟨aS,e7,hsc⟩:=Jx lV (show u < s.length by rw [KP.out];exact hun);obtain ⟨aS2,e8,hsd⟩:=Jx lV (show t < s.length by rw [KP.out];omega);subst e7;obtain rfl:aS=aS2:=Option.some.inj e8;clear lV e8
           by_cases hbo:seen s u=true∧seen s t=true
           ·obtain ⟨hs1,kV⟩:=hbo;rw [hs1] at hsc;rw [kV] at hsd;have HCM:=ga.mk (HI.out.call OJ.out hun (show t < n by omega) hn);have r_:=ga.mk (And.intro hs1 kV);clear hs1 kV;go_wp2_with (first|(go_at_call 84;refine HCM.out.mono ?_;rintro e Ct ⟨rfl,h1,h2,h3⟩;have z9:=ga.mk h1;have K8:=ga.mk (Kd.Zw Gr.out h2 (fun k hk e=>by have:=(OJ.out k e).2;have:=RJ.out;omega));clear h1 h2 h3 hsc hsd))
            have vE:=ga.mk (z9.out.Ap (Q:=fun a b=>(P' a b ∨ (i=0∧a < u∧b < a∧seen s a=true∧seen s b=true)) ∨ (a=u∧b < t + 1∧seen s a=true∧seen s b=true)) (fun a b=>by
             constructor
             ·rintro ((h|⟨h2,h3,h4,h5⟩)|⟨rfl,rfl⟩)
              ·exact Or.inl h
              ·exact Or.inr ⟨h2,by omega,h4,h5⟩
              ·exact Or.inr ⟨rfl,by omega,r_.out.1,r_.out.2⟩
             ·rintro (h|⟨h2,h3,h4,h5⟩)
              ·exact Or.inl (Or.inl h)
              ·by_cases e:b=t
               ·exact Or.inr ⟨h2,e⟩
               ·exact Or.inl (Or.inr ⟨h2,by omega,h4,h5⟩)))
            go_roundg (u - (t + 1))
            case measure=>omega
            case rel=>exact ⟨t + 1,by go_num,by omega,by omega,vE,K8⟩
           ·have vE:=ga.mk (HI.out.Ap (Q:=fun a b=>(P' a b ∨ (i=0∧a < u∧b < a∧seen s a=true∧seen s b=true)) ∨ (a=u∧b < t + 1∧seen s a=true∧seen s b=true)) (fun a b=>by
             constructor
             ·rintro (h|⟨h2,h3,h4,h5⟩)
              ·exact Or.inl h
              ·exact Or.inr ⟨h2,by omega,h4,h5⟩
             ·rintro (h|⟨h2,h3,h4,h5⟩)
              ·exact Or.inl h
              ·by_cases e:b=t
               ·subst e;subst h2;exact absurd ⟨h4,h5⟩ hbo
               ·exact Or.inr ⟨h2,by omega,h4,h5⟩))
            have HBO:=ga.mk hbo;clear hbo HI;cases hs1:seen s u with
            | false =>
             rw [hs1] at hsc;clear hs1;go_wp2
             go_roundg (u - (t + 1))
             case measure=>omega
             case rel=>exact ⟨t + 1,by go_num,by omega,by omega,vE,Gr⟩
            | true =>
             have kV:seen s t=false:=by
              cases h:seen s t with
              | false=>rfl
              | true=>exact absurd ⟨hs1,h⟩ HBO.out
             rw [hs1] at hsc;rw [kV] at hsd;clear hs1 kV;go_wp2
             go_roundg (u - (t + 1))
             case measure=>omega
             case rel=>exact ⟨t + 1,by go_num,by omega,by omega,vE,Gr⟩
          ·have htb:decide ((t:Int) < (u:Int))=false:=decide_eq_false (by omega);obtain rfl:u=t:=by omega
           have vE:=ga.mk (HI.out.Ap (Q:=fun a b=>P' a b ∨ (i=0∧a < u + 1∧b < a∧seen s a=true∧seen s b=true)) (fun a b=>by
            constructor
            ·rintro ((h|⟨h2,h3,h4⟩)|⟨h2,h3,h4⟩)
             ·exact Or.inl h
             ·exact Or.inr ⟨h2,by omega,h4⟩
             ·exact Or.inr ⟨HI0.out,by omega,by omega,h4⟩
            ·rintro (h|⟨h2,h3,h4,h5⟩)
             ·exact Or.inl (Or.inl h)
             ·by_cases e:a=u
              ·exact Or.inr ⟨e,by omega,h5⟩
              ·exact Or.inl (Or.inr ⟨h2,by omega,h4,h5⟩)))
           clear HI;go_wp2
           go_roundg (n - (u + 1))
           case measure=>omega
           case rel=>exact ⟨u + 1,by go_num,by omega,by omega,vE,Gr⟩
        ·have TJ:=ga.mk (show ∀ a b,(Hg zg Aa (Ke Aa n) (i + 1) (fun a b=>P' a b ∨ (i=0∧a < u∧b < a∧seen s a=true∧seen s b=true)) a b ∨ (i + 1=0∧b < a∧seen (ZC Aa n) a=true∧seen (ZC Aa n) b=true)) ↔ C_ a b from fun a b=>by
          rw [← wZ.out a b,NH Aa (Ke Aa n) (Aa.length - (i + 1)) (i + 1) P' (fun a b=>i=0∧a < u∧b < a∧seen s a=true∧seen s b=true) a b (by omega),HFZ.out,← Bn zg hlt]
          constructor
          ·rintro ((h|⟨h1,h2,h3⟩)|h)
           ·exact Or.inl h
           ·exact Or.inr ⟨h1,by rw [← M8.out h1];exact h3⟩
           ·exact absurd h.1 (Nat.succ_ne_zero _)
          ·rintro (h|⟨h1,h3⟩)
           ·exact Or.inl (Or.inl h)
           ·rw [← M8.out h1] at h3;have hl:=Sk h3.2.1;rw [KP.out] at hl
            exact Or.inl (Or.inr ⟨h1,by omega,h3⟩))
         have HGO:=ga.mk oI;clear oI
         by_cases hun:u < n
         ·have hub:decide ((u:Int) < (n:Int))=true:=decide_eq_true (by omega);have hib:((i:Int) == 0)=false:=by rw [beq_eq_false_iff_ne];intro e;exact HGO.out ⟨hun,by omega⟩
          go_wp2
          go_roundg (Aa.length - (i + 1))
          case measure=>omega
          case rel=>exact ⟨i + 1,_,by go_num,by omega,by omega,TJ,HI⟩
         ·have hub:decide ((u:Int) < (n:Int))=false:=decide_eq_false (by omega);go_wp2
          go_roundg (Aa.length - (i + 1))
          case measure=>omega
          case rel=>exact ⟨i + 1,_,by go_num,by omega,by omega,TJ,HI⟩
    ·have dr:decide ((i:Int) < (Aa.length:Int))=false:=decide_eq_false (by omega);obtain rfl:i=Aa.length:=by omega
     have TJ:=ga.mk (show Kd.S (Kd.slice 4 Kd.bool) 60 wr w.heap.size (fun _=>True) v (oo Aa n) from by
      obtain ⟨T,t1,t2⟩:=HI.out.t
      have he:T=oo Aa n:=t2.ext (Yz Aa n) (fun a b hab=>by
       have hP:∀ a b,P a b ↔ C_ a b:=fun a b=>by
        have h:=wZ.out a b;rw [Xo] at h;exact ⟨fun hp=>h.1 (Or.inl hp),fun hf=>(h.2 hf).elim id (fun e=>by have:=e.1;omega)⟩
       rw [hP,hP,qas.out];unfold SC
       constructor
       ·rintro ((h|h)|(h|h))
        ·exact Or.inl (Or.inl h)
        ·exact Or.inl (Or.inr h.2)
        ·exact Or.inr (Or.inl h)
        ·exact Or.inr (Or.inr h.2)
       ·rintro ((h|h)|(h|h))
        ·exact Or.inl (Or.inl h)
        ·rcases Nat.lt_or_ge b a with e|e
         ·exact Or.inl (Or.inr ⟨e,h⟩)
         ·exact Or.inr (Or.inr ⟨by omega,h.2,h.1⟩)
        ·exact Or.inr (Or.inl h)
        ·rcases Nat.lt_or_ge b a with e|e
         ·exact Or.inl (Or.inr ⟨e,h.2,h.1⟩)
         ·exact Or.inr (Or.inr ⟨by omega,h⟩))
      rw [← he]
      exact Kd.Mg t1 (fun _ _=>trivial))
     have hone:v.oneCell' = true:=by obtain ⟨A,c,rfl⟩:=Kd.mh TJ.out;rfl
     go_wp2;go_ret;exact ⟨_,rfl,TJ.out,HI.out.bw⟩
end Go.Proofs.Ytkigbdceceeenaa.P
end
section
namespace Go.Proofs.Ytkigbdceceeenaa.P
open Go.RowKit Go.Proofs.Pa.Ub Go.Proofs.Pa.Sd Go.Proofs.Pa.Xe
set_option linter.unusedVariables false
set_option linter.unusedSimpArgs false
attribute [local go_sem] Jh Bi tj nk wh uh Ci Ai
mutual
noncomputable def Qc.l0:Nat→List (List Int)→List (List Bool)→Int→Option ((List (List Int)))
 | 0,_,_,_=>none
 | k + 1,x3,x4,x5=>if x5 < (x4.length:Int) then (Qc.l1 k x3 x4 x5 (([]:List Int)) 0) else (some x3)
noncomputable def Qc.l1:Nat→List (List Int)→List (List Bool)→Int→List Int→Int→Option ((List (List Int)))
 | 0,_,_,_,_,_=>none
 | k + 1,x3,x4,x5,x6,x7=>if x7 < (x4.length:Int) then (if 0 ≤ x5 then (if x5 < (x4.length:Int) then (if 0 ≤ x7 then (if x7 < ((Pd x4 x5).length:Int) then (if lg false (Pd x4 x5) x7=true then (if x6.length < 17592186044416 then (Qc.l1 k x3 x4 x5 (x6 ++ [x7]) (wrap64 (x7 + 1))) else (none)) else (Qc.l1 k x3 x4 x5 x6 (wrap64 (x7 + 1)))) else (none)) else (none)) else (none)) else (none)) else (if x3.length < 5864062014805 then (Qc.l0 k (x3 ++ [x6]) x4 (wrap64 (x5 + 1))) else (none))
end
noncomputable def Qc.f (k:Nat) (Ra:List Int) (La:Int) (Ja:Int) (Ma:Int) (Aa:List (Re)):Option ((List (List Int))):=(some (([]:List (List Int)):List (List Int))).bind fun ld=>((Wa.f k Ra La Ja Ma Aa).bind fun t105=>(if t105=true then ((jg.f Ra La Ja Ma Aa).bind fun t106=>(Qc.l0 k ld t106 0)) else (some ld)))
theorem Qc.calls (k:Nat) (Xa:Option Addr) (Ya:Nat) (Ra:List Int) (La:Int) (Ja:Int) (Ma:Int) (Mb:Option Addr) (Fb:Nat) (Aa:List (Re)) (r:List (List Int)) (w:World) (Xd:Kd.C (Kd.int .i64) w Xa Ra.length Ra) (Vd:Ra.length ≤ Ya) (Ff:Kd.C Kp w Mb Aa.length Aa) (uf:Aa.length ≤ Fb) (h:Qc.f k Ra La Ja Ma Aa=some r) :
  Calls Try.prog 24 #[.agg #[.slice Xa Ra.length Ya,.int .i64 La,.int .i64 Ja,.int .i64 Ma,.slice Mb Aa.length Fb]] w fun e w'=>∃ Hl:Value,e = .returned (Hl)∧Kd.S (Kd.slice 3 (Kd.int .i64)) 22 w' w.heap.size (fun _=>True) Hl r∧Below w.heap.size w w':=by
 have eE:=Try.underlying30;have Ye:=ga.mk Xd;have gf:=ga.mk Vd;clear Xd Vd;have wg:=ga.mk Ff;have ei:=ga.mk uf;clear Ff uf;have HB:=ga.mk (Below.refl w.heap.size w);have H:((some (([]:List (List Int)):List (List Int))).bind fun ld=>((Wa.f k Ra La Ja Ma Aa).bind fun t105=>(if t105=true then ((jg.f Ra La Ja Ma Aa).bind fun t106=>(Qc.l0 k ld t106 0)) else (some ld))))=some r:=h;clear h;obtain ⟨ld,tf⟩:∃ y_:List (List Int),y_=(([]:List (List Int))):=⟨_,rfl⟩;replace H:((Wa.f k Ra La Ja Ma Aa).bind fun t105=>(if t105=true then ((jg.f Ra La Ja Ma Aa).bind fun t106=>(Qc.l0 k ld t106 0)) else (some ld)))=some r:=by first|(rw [tf];with_reducible exact H)|(have Md:=(Option.bind_some _ _).symm.trans H;rw [tf];with_reducible exact Md)|(have Md:=(Option.bind_some _ _).symm.trans H;with_reducible exact Md)|with_reducible exact H|(rw [tf];exact H)|exact H
 have Ch:=ga.mk tf;clear tf;replace H:=Option.bind_eq_some_iff.mp H;obtain ⟨t105,xI,H⟩:=H;replace H:(if t105=true then ((jg.f Ra La Ja Ma Aa).bind fun t106=>(Qc.l0 k ld t106 0)) else (some ld))=some r:=H;have A2:=ga.mk xI;clear xI
 by_cases c3:t105=true
 ·subst c3;have H1:((jg.f Ra La Ja Ma Aa).bind fun t106=>(Qc.l0 k ld t106 0))=some r:=by rw [if_pos rfl] at H;exact H
  clear H;have H:=H1;clear H1;replace H:=Option.bind_eq_some_iff.mp H;obtain ⟨t106,fQ,H⟩:=H;replace H:(Qc.l0 k ld t106 0)=some r:=H;have A4:=ga.mk fQ;clear fQ;have H':=ga.mk H;clear H;go_enter Try.func24,Try.ntmps24;go_wp2_with (first|((with_reducible refine qb (N:=1) rfl ?_);refine Gb ?hg (N:=1) ?hd (cs:=#[.slice Xa Ra.length Ya,.int .i64 La,.int .i64 Ja,.int .i64 Ma,.slice Mb Aa.length Fb]) (t:=30) ?hr ?_;(case hd=>rfl);(case hg=>rfl);(case hr=>first|(go_simp;done)|(go_simp;rfl));intro ya hg w5 Ob hb;have yb:=ga.mk (Qa (by repeat (first|(with_reducible first|exact HB.out|apply qa|apply ja|apply ta)|exact HB.out)) hb);have Ib:=ga.mk (Ob);have Nb:=ga.mk ((by rw [hg];exact (Ia (by repeat (first|(with_reducible first|exact HB.out|apply qa|apply ja|apply ta)|exact HB.out))):w.heap.size ≤ ya));have Dc:=ga.mk ((by rw [hg];exact (Ia (by repeat (first|(with_reducible first|exact HB.out|apply qa|apply ja|apply ta)|exact HB.out))):w.heap.size ≤ ya));clear HB;have HB:=yb;have oa:=Ib;have Nd:=Nb;have Ta:=Dc;clear yb Ib Nb Dc hb Ob hg)|((with_reducible refine qb (N:=8) rfl ?_);refine Kd.uP (Kd.slice 3 (Kd.int .i64)) _ 22 ?hg (N:=8) ?hd (xs:=([]:List (List Int))) (inner:=[]) (ok:=fun _=>True) (Tg:=fun _=>True) ?hr ?hp (fun _ hk=>hk) trivial (Below.refl _ _) (Nat.le_refl _) (by simp) ?_;(case hd=>rfl);(case hg=>rfl);(case hr=>first|(go_simp;done)|(go_simp;rfl));(case hp=>exact (xd.none _ _));intro En w6 MS hb Al He;clear Al He;(first|rw [← Ch.out] at MS|(simp only [Int.reduceToNat] at MS;rw [← Ch.out] at MS));have yb:=ga.mk (Kd.Yo MS (Ia (by repeat (first|(with_reducible first|exact HB.out|apply qa|apply ja|apply ta|refine ua ?_ Ta.out)|exact HB.out))));have Ib:=ga.mk (Va (g:=ya) (o:=.cells #[.slice Xa Ra.length Ya,.int .i64 La,.int .i64 Ja,.int .i64 Ma,.slice Mb Aa.length Fb] 30 (0,0)) (by (with_reducible repeat (first|refine Ba ?_ _|refine Fa ?_|refine Ca ?_ _));exact oa.out) hb);have Nb:=ga.mk (Qa (by repeat (first|(with_reducible first|exact HB.out|apply qa|apply ja|apply ta|refine ua ?_ Ta.out)|exact HB.out)) hb);clear oa HB;have mg:=yb;have oa:=Ib;have HB:=Nb;clear yb Ib Nb hb MS;have su:w6.cell? ⟨ya,0,none⟩=some (.slice Xa Ra.length Ya):=(ia oa.out 0).trans rfl;have ru:w6.cell? ⟨ya,1,none⟩=some (.int .i64 La):=(ia oa.out 1).trans rfl;have qu:w6.cell? ⟨ya,2,none⟩=some (.int .i64 Ja):=(ia oa.out 2).trans rfl;have ou:w6.cell? ⟨ya,3,none⟩=some (.int .i64 Ma):=(ia oa.out 3).trans rfl;have nu:w6.cell? ⟨ya,4,none⟩=some (.slice Mb Aa.length Fb):=(ia oa.out 4).trans rfl;have lu:=aa oa.out 0;have ku:=aa oa.out 1;have ju:=aa oa.out 2;have iu:=aa oa.out 3;have gu:=aa oa.out 4)|((with_reducible refine mb (f:=40) rfl ?_);refine Fc (some 10) rfl rfl Try.func40 (by kernel_rfl) rfl #[.agg #[.slice Xa Ra.length Ya,.int .i64 La,.int .i64 Ja,.int .i64 Ma,.slice Mb Aa.length Fb]] rfl (by (try simp only [List.map_toArray,List.map_cons,List.map_nil]);first|done|rfl|(simp only [List.length_drop,List.length_take];rfl)) ?_;(with_reducible refine (Wa.calls k _ _ Ra La Ja Ma _ _ Aa true _ ?yc ?uc ?Gd ?Ed A2.out).mono ?_);(case yc=>repeat (first|exact (Kd.Jb Ye.out HB.out)|(with_reducible refine Kd.Rb ?_ _)|(with_reducible refine Kd.Qb ?_ _)|(with_reducible refine Kd.Yb ?_)));(case uc=>exact gf.out);(case Gd=>repeat (first|exact (Kd.Jb wg.out HB.out)|(with_reducible refine Kd.Rb ?_ _)|(with_reducible refine Kd.Qb ?_ _)|(with_reducible refine Kd.Yb ?_)));(case Ed=>exact ei.out);rintro e w9 ⟨rfl,hb⟩;refine ⟨_,rfl,?_⟩;have yb:=ga.mk (Kd.Yd (by (with_reducible repeat (first|apply Kd.Xc|apply Kd.Wc|apply Kd.yd));exact mg.out) hb);have Ib:=ga.mk (Va (g:=ya) (o:=.cells #[.slice Xa Ra.length Ya,.int .i64 La,.int .i64 Ja,.int .i64 Ma,.slice Mb Aa.length Fb] 30 (0,0)) (by (with_reducible repeat (first|refine Ba ?_ _|refine Fa ?_|refine Ca ?_ _));exact oa.out) hb);have Nb:=ga.mk (Qa (by repeat (first|(with_reducible first|exact HB.out|apply qa|apply ja|apply ta|refine ua ?_ Ta.out)|exact HB.out)) hb);clear mg oa HB;have mg:=yb;have oa:=Ib;have HB:=Nb;clear yb Ib Nb;(try clear hb);(try clear bk);(try clear hk);(try clear hi);have Yh:w9.cell? ⟨ya,0,none⟩=some (.slice Xa Ra.length Ya):=(ia oa.out 0).trans rfl;have Xh:w9.cell? ⟨ya,1,none⟩=some (.int .i64 La):=(ia oa.out 1).trans rfl;have Wh:w9.cell? ⟨ya,2,none⟩=some (.int .i64 Ja):=(ia oa.out 2).trans rfl;have Vh:w9.cell? ⟨ya,3,none⟩=some (.int .i64 Ma):=(ia oa.out 3).trans rfl;have Uh:w9.cell? ⟨ya,4,none⟩=some (.slice Mb Aa.length Fb):=(ia oa.out 4).trans rfl;have Th:=aa oa.out 0;have Sh:=aa oa.out 1;have Rh:=aa oa.out 2;have Qh:=aa oa.out 3;have Ph:=aa oa.out 4)|((with_reducible refine mb (f:=57) rfl ?_);refine Fc (some 14) rfl rfl Try.func57 (by kernel_rfl) rfl #[.agg #[.slice Xa Ra.length Ya,.int .i64 La,.int .i64 Ja,.int .i64 Ma,.slice Mb Aa.length Fb]] rfl (by (try simp only [List.map_toArray,List.map_cons,List.map_nil]);first|done|rfl|(simp only [List.length_drop,List.length_take];rfl)) ?_;(with_reducible refine (jg.calls _ _ Ra La Ja Ma _ _ Aa t106 _ ?yc ?uc ?Gd ?Ed A4.out).mono ?_);(case yc=>repeat (first|exact (Kd.Jb Ye.out HB.out)|(with_reducible refine Kd.Rb ?_ _)|(with_reducible refine Kd.Qb ?_ _)|(with_reducible refine Kd.Yb ?_)));(case uc=>exact gf.out);(case Gd=>repeat (first|exact (Kd.Jb wg.out HB.out)|(with_reducible refine Kd.Rb ?_ _)|(with_reducible refine Kd.Qb ?_ _)|(with_reducible refine Kd.Yb ?_)));(case Ed=>exact ei.out);rintro e Zi ⟨AR,rfl,Vj,hb⟩;refine ⟨_,rfl,?_⟩;have yb:=ga.mk (Kd.Yd (by (with_reducible repeat (first|apply Kd.Xc|apply Kd.Wc|apply Kd.yd));exact mg.out) hb);have Ib:=ga.mk (Kd.Yo Vj (Ia (by repeat (first|(with_reducible first|exact HB.out|apply qa|apply ja|apply ta|refine ua ?_ Ta.out)|exact HB.out))));have Nb:=ga.mk (Va (g:=ya) (o:=.cells #[.slice Xa Ra.length Ya,.int .i64 La,.int .i64 Ja,.int .i64 Ma,.slice Mb Aa.length Fb] 30 (0,0)) (by (with_reducible repeat (first|refine Ba ?_ _|refine Fa ?_|refine Ca ?_ _));exact oa.out) hb);have Dc:=ga.mk (Qa (by repeat (first|(with_reducible first|exact HB.out|apply qa|apply ja|apply ta|refine ua ?_ Ta.out)|exact HB.out)) hb);clear mg oa HB;have mg:=yb;have fj:=Ib;have oa:=Nb;have HB:=Dc;clear yb Ib Nb Dc;(try clear hb);(try clear bk);(try clear hk);(try clear hi);(try clear Vj)))
  go_loopg [3,5] k (fun kq v3 v5 w'=>∃ (od:List (List Int)) (Ga:Int),v5 = .int .i64 Ga∧ga (Qc.l0 kq od t106 Ga=some r)∧ga (kq ≤ k)∧ga (Kd.S (Kd.slice 3 (Kd.int .i64)) 22 w' w.heap.size (fun _=>True) v3 od)∧ga (Kd.S (Kd.slice 4 Kd.bool) 60 w' w.heap.size (fun _=>True) AR t106)∧ga (w'.heap[ya]? = some (.cells #[(.slice Xa Ra.length Ya),.int .i64 La,.int .i64 Ja,.int .i64 Ma,(.slice Mb Aa.length Fb)] 30 (0,0)))∧ga (Below w.heap.size w w'))
  case atStart=>exact ⟨(ld),(0),(by first|rfl|(simp;done)|(simp [*];done)),H',⟨Nat.le_refl _⟩,⟨by (with_reducible repeat (first|apply Kd.Xc|apply Kd.Wc|apply Kd.yd));exact mg.out⟩,⟨by (with_reducible repeat (first|apply Kd.Xc|apply Kd.Wc|apply Kd.yd));exact fj.out⟩,⟨by (with_reducible repeat (first|refine Ba ?_ _|refine Fa ?_|refine Ca ?_ _));exact oa.out⟩,⟨by repeat (first|(with_reducible first|exact HB.out|apply qa|apply ja|apply ta|refine ua ?_ Ta.out)|exact HB.out)⟩⟩
  case round =>
   clear H'
   try clear c2
   try clear p2
   try clear c3
   try clear c4
   try clear c5
   try clear Yh
   try clear Xh
   try clear Wh
   try clear Vh
   try clear Uh
   try clear su
   try clear ru
   try clear qu
   try clear ou
   try clear nu
   try clear Th
   try clear Sh
   try clear Rh
   try clear Qh
   try clear Ph
   try clear lu
   try clear ku
   try clear ju
   try clear iu
   try clear gu
   (try clear HA);(try clear Xf);(try clear Mc);(try clear Kk);(try clear oa);(try clear HB);obtain ⟨od,Ga,rfl,HA,Xf,Mc,Kk,oa,HB⟩:=hrel;cases gk with
   | zero=>exact absurd HA.out (by simp [Qc.l0])
   | succ k1 =>
    have H:=HA.out;clear HA;simp only [Qc.l0] at H
    by_cases wu:Ga < (t106.length:Int)
    ·rw [if_pos wu] at H;have SE:decide (Ga < (t106.length:Int))=true:=decide_eq_true wu;clear wu;obtain ⟨G_,VI⟩:∃ y_:List Int,y_=(([]:List Int)):=⟨_,rfl⟩;replace H:(Qc.l1 k1 od t106 Ga G_ 0)=some r:=by first|(rw [VI];with_reducible exact H)|(have Md:=(Option.bind_some _ _).symm.trans H;rw [VI];with_reducible exact Md)|(have Md:=(Option.bind_some _ _).symm.trans H;with_reducible exact Md)|with_reducible exact H|(rw [VI];exact H)|exact H
     have B2:=ga.mk VI;clear VI;have H':=ga.mk H;clear H;obtain ⟨gI,Bp,mL⟩:=Kd.mh Kk.out;subst mL;go_wp2_with (first|((with_reducible refine qb (N:=21) rfl ?_);refine Kd.ej (Kd.int .i64) _ 3 ?hg (N:=21) ?hd (xs:=([]:List Int)) (inner:=[]) (ok:=fun _=>True) (Tg:=fun _=>True) ?hr ?hp (fun _ hk=>hk) trivial (Below.refl _ _) (Nat.le_refl _) (by simp) ?_;(case hd=>rfl);(case hg=>rfl);(case hr=>first|(go_simp;done)|(go_simp;rfl));(case hp=>exact (xd.none _ _));intro iay Mw Jt hb Al He;clear Al He;(first|rw [← B2.out] at Jt|(simp only [Int.reduceToNat] at Jt;rw [← B2.out] at Jt));have yb:=ga.mk (Kd.yu (by (with_reducible repeat (first|apply Kd.Xc|apply Kd.Wc|apply Kd.yd));exact Mc.out) (Kd.ax Jt) hb);have Ib:=ga.mk (Kd.Yd (by (with_reducible repeat (first|apply Kd.Xc|apply Kd.Wc|apply Kd.yd));exact Kk.out) hb);have Nb:=ga.mk (Kd.we Jt (Ia (by repeat (first|(with_reducible first|exact HB.out|apply qa|apply ja|apply ta|refine ua ?_ Ta.out)|exact HB.out))));have Dc:=ga.mk (Va (g:=ya) (o:=.cells #[.slice Xa Ra.length Ya,.int .i64 La,.int .i64 Ja,.int .i64 Ma,.slice Mb Aa.length Fb] 30 (0,0)) (by (with_reducible repeat (first|refine Ba ?_ _|refine Fa ?_|refine Ca ?_ _));exact oa.out) hb);have Vf:=ga.mk (Qa (by repeat (first|(with_reducible first|exact HB.out|apply qa|apply ja|apply ta|refine ua ?_ Ta.out)|exact HB.out)) hb);clear Mc Kk oa HB;have Mc:=yb;have Kk:=Ib;have hag:=Nb;have oa:=Dc;have HB:=Vf;clear yb Ib Nb Dc Vf hb Jt))
     go_loopg [6,7] k1 (fun kq v6 v7 w'=>∃ (Tt:List Int) (El:Int),v7 = .int .i64 El∧ga (Qc.l1 kq od t106 Ga Tt El=some r)∧ga (kq ≤ k1)∧ga (Kd.S (Kd.slice 3 (Kd.int .i64)) 22 w' w.heap.size (fun k_=>some k_ ≠ (v6:Value).ownBlock) u3 od)∧ga (Kd.S (Kd.slice 4 Kd.bool) 60 w' w.heap.size (fun _=>True) (.slice gI t106.length Bp) t106)∧ga (Kd.R (Kd.int .i64) 3 w' w.heap.size (fun _=>True) v6 Tt)∧ga (w'.heap[ya]? = some (.cells #[(.slice Xa Ra.length Ya),.int .i64 La,.int .i64 Ja,.int .i64 Ma,(.slice Mb Aa.length Fb)] 30 (0,0)))∧ga (Below w.heap.size w w'))
     case atStart=>exact ⟨(G_),(0),(by first|rfl|(simp;done)|(simp [*];done)),H',⟨Nat.le_refl _⟩,⟨by (with_reducible repeat (first|apply Kd.Xc|apply Kd.Wc|apply Kd.yd));exact Kd.Mg Mc.out (fun _ hk=>hk.2)⟩,⟨by (with_reducible repeat (first|apply Kd.Xc|apply Kd.Wc|apply Kd.yd));exact Kk.out⟩,⟨by (with_reducible repeat (first|apply Kd.Ab|apply Kd.zb|apply Kd.Pb));exact hag.out⟩,⟨by (with_reducible repeat (first|refine Ba ?_ _|refine Fa ?_|refine Ca ?_ _));exact oa.out⟩,⟨by repeat (first|(with_reducible first|exact HB.out|apply qa|apply ja|apply ta|refine ua ?_ Ta.out)|exact HB.out)⟩⟩
     case round =>
      clear H'
      try clear c1
      try clear c2
      try clear p2
      try clear c3
      try clear c4
      try clear c5
      try clear wu
      try clear SE
      try clear Yh
      try clear Xh
      try clear Wh
      try clear Vh
      try clear Uh
      try clear su
      try clear ru
      try clear qu
      try clear ou
      try clear nu
      try clear Th
      try clear Sh
      try clear Rh
      try clear Qh
      try clear Ph
      try clear lu
      try clear ku
      try clear ju
      try clear iu
      try clear gu
      try clear p2
      (try clear HA);(try clear Dr);(try clear Mc);(try clear Kk);(try clear LD);(try clear oa);(try clear HB);obtain ⟨Tt,El,rfl,HA,Dr,Mc,Kk,LD,oa,HB⟩:=hrel;cases gk with
      | zero=>exact absurd HA.out (by simp [Qc.l1])
      | succ k2 =>
       have H:=HA.out;clear HA;simp only [Qc.l1] at H
       by_cases sI:El < (t106.length:Int)
       ·rw [if_pos sI] at H;have Uae:decide (El < (t106.length:Int))=true:=decide_eq_true sI;clear sI
        by_cases Qp:0 ≤ Ga
        ·rw [if_pos Qp] at H;have Dp:decide (0 ≤ Ga)=true:=decide_eq_true Qp;clear Qp
         by_cases Pp:Ga < (t106.length:Int)
         ·rw [if_pos Pp] at H;have qo:decide (Ga < (t106.length:Int))=true:=decide_eq_true Pp;clear Pp
          by_cases Pn:0 ≤ El
          ·rw [if_pos Pn] at H;have vu:decide (0 ≤ El)=true:=decide_eq_true Pn;clear Pn
           by_cases Np:El < ((Pd t106 Ga).length:Int)
           ·rw [if_pos Np] at H;have Jw:decide (El < ((Pd t106 Ga).length:Int))=true:=decide_eq_true Np;clear Np;obtain ⟨Xae,PT⟩:∃ b_:Bool,b_=(lg false (Pd t106 Ga) El):=⟨_,rfl⟩;replace H:(if Xae=true then (if Tt.length < 17592186044416 then (Qc.l1 k2 od t106 Ga (Tt ++ [El]) (wrap64 (El + 1))) else (none)) else (Qc.l1 k2 od t106 Ga Tt (wrap64 (El + 1))))=some r:=by rw [← PT] at H;exact H
            have C2:=ga.mk PT;clear PT
            by_cases mP:Xae=true
            ·subst mP;have H1:(if Tt.length < 17592186044416 then (Qc.l1 k2 od t106 Ga (Tt ++ [El]) (wrap64 (El + 1))) else (none))=some r:=by rw [if_pos rfl] at H;exact H
             clear H;have H:=H1;clear H1
             by_cases eB:Tt.length < 17592186044416
             ·rw [if_pos eB] at H;have xaf:=ga.mk eB;clear eB;obtain ⟨Dl,Kn⟩:∃ y_:List Int,y_=(Tt ++ [El]):=⟨_,rfl⟩;replace H:(Qc.l1 k2 od t106 Ga Dl (wrap64 (El + 1)))=some r:=by first|(rw [Kn];with_reducible exact H)|(have Md:=(Option.bind_some _ _).symm.trans H;rw [Kn];with_reducible exact Md)|(have Md:=(Option.bind_some _ _).symm.trans H;with_reducible exact Md)|with_reducible exact H|(rw [Kn];exact H)|exact H
              have OA:=ga.mk Kn;clear Kn;have H':=ga.mk H;clear H;have uF:0 ≤ (Ga:Int):=Ua;have qF:Ga < (t106.length:Int):=Ua;obtain ⟨eaf,R9,K7,U6,MF,zy,Ey⟩:=Vq (Kd.Uc Kk.out).2.2 Ga uF qF;cases U6;obtain ⟨qae,PK,SK,gD⟩:=Kd.CD Kk.out [] Ga uF (by first|exact qF|exact Ua|(have e_:=(Kd.Uc Kk.out).1;omega));obtain ⟨EV,rfl,jt⟩:=SK;have Zl:=gD 0 _ rfl;rw [Nat.add_zero,show ((Kd.slice 4 Kd.bool)).sz=1 from rfl,Nat.mul_one] at Zl;replace Zl:=Option.some.inj (Zl.symm.trans MF);rw [Zl] at jt;have sC:=ga.mk (show Kd.R Kd.bool 4 _ _ _ _ (Pd t106 Ga) from jt);clear Zl jt gD PK;have Ez:=ga.mk Ey;have BZ:=ga.mk zy;clear Ey zy;replace uF:=eq_true uF;replace qF:=eq_true qF;have uK:0 ≤ (El:Int):=Ua;have oK:El < ((Pd t106 Ga).length:Int):=Ua;obtain ⟨daf,S6,LF⟩:=Kd.Rj (by repeat (first|(with_reducible exact Ez.out)|(with_reducible refine Kd.Rb ?_ _)|(with_reducible refine Kd.Qb ?_ _)|(with_reducible refine Kd.Yb ?_)|exact Ez.out)) El uK oK;(try rw [← C2.out] at LF);cases S6;replace uK:=eq_true uK;replace oK:=eq_true oK;go_wp2_with (first|((with_reducible refine Ld (b:=.append) (xs:=#[.tmp 35,.tmp 37]) rfl ?_);at_builtin;refine Kd.Wg (Kd.int .i64) (w0:=w) w.heap.size rfl (.tmp 35) (.tmp 37) 22 3 (.int .i64 0) 8 rfl Try.underlying22 info3 rfl (by decide) (by omega) u6 Tt El [.int .i64 El] (fun _=>True) (fun _=>False) rfl rfl ?aP (fun _ hk=>hk.elim) ?aF ?aO ?aB ?aS ?aL ?_;(case aP=>exact rfl);(case aB=>exact (by repeat (first|(with_reducible first|exact HB.out|apply qa|apply ja|apply ta|refine ua ?_ Ta.out)|exact HB.out)));(case aF=>exact (fun _ _=>trivial));(case aO=>exact (by (with_reducible repeat (first|apply Kd.Ab|apply Kd.zb|apply Kd.Pb));exact LD.out));(case aS=>exact (Ia (by repeat (first|(with_reducible first|exact HB.out|apply qa|apply ja|apply ta|refine ua ?_ Ta.out)|exact HB.out))));(case aL=>have:=xaf.out;omega);intro BI mR ho hb hg hat;rw [← OA.out] at ho;have yb:=ga.mk (Kd.bZ (ok:=(fun _=>True)) (by (with_reducible repeat (first|apply Kd.Xc|apply Kd.Wc|apply Kd.yd));exact Kd.Mg Mc.out (fun _ hk=>⟨trivial,hk⟩)) hg hat);have Ib:=ga.mk (Kd.XH (by (with_reducible repeat (first|apply Kd.Xc|apply Kd.Wc|apply Kd.yd));exact Kk.out) (Kd.ew (by (with_reducible repeat (first|apply Kd.Ab|apply Kd.zb|apply Kd.Pb));exact LD.out)) (by decide) hg);have Nb:=ga.mk (td (g:=ya) (o:=.cells #[.slice Xa Ra.length Ya,.int .i64 La,.int .i64 Ja,.int .i64 Ma,.slice Mb Aa.length Fb] 30 (0,0)) (by (with_reducible repeat (first|refine Ba ?_ _|refine Fa ?_|refine Ca ?_ _));exact oa.out) hg (Kd.Bl LD.out oa.out (by decide)));have Dc:=ga.mk (Kd.gw (by (with_reducible repeat (first|apply Kd.Ab|apply Kd.zb|apply Kd.Pb));exact sC.out) (Kd.ew (by (with_reducible repeat (first|apply Kd.Ab|apply Kd.zb|apply Kd.Pb));exact LD.out)) (by decide) hg);have Vf:=ga.mk (hb);have Kg:=ga.mk (ho);clear Mc Kk oa sC HB LD;have Mc:=yb;have Kk:=Ib;have oa:=Nb;have sC:=Dc;have HB:=Vf;have Tn:=Kg;clear yb Ib Nb Dc Vf Kg ho hb hg hat))
              go_roundg k2
              case measure=>have:=Xf.out;have:=Dr.out;omega
              case rel=>exact ⟨(Dl),(wrap64 (El + 1)),(by first|rfl|(simp;done)|(simp [*];done)),H',⟨by have:=Xf.out;have:=Dr.out;omega⟩,⟨by (with_reducible repeat (first|apply Kd.Xc|apply Kd.Wc|apply Kd.yd));exact Kd.Mg Mc.out (fun _ hk=>hk.2)⟩,⟨by (with_reducible repeat (first|apply Kd.Xc|apply Kd.Wc|apply Kd.yd));exact Kk.out⟩,⟨by (with_reducible repeat (first|apply Kd.Ab|apply Kd.zb|apply Kd.Pb));exact Tn.out⟩,⟨by (with_reducible repeat (first|refine Ba ?_ _|refine Fa ?_|refine Ca ?_ _));exact oa.out⟩,⟨by repeat (first|(with_reducible first|exact HB.out|apply qa|apply ja|apply ta|refine ua ?_ Ta.out)|exact HB.out)⟩⟩
             ·rw [if_neg eB] at H;exact absurd H (by simp)
            ·replace mP:=Bool.eq_false_iff.mpr mP;subst mP;have H1:(Qc.l1 k2 od t106 Ga Tt (wrap64 (El + 1)))=some r:=by rw [if_neg (show ¬ (false=true) by decide)] at H;exact H
             clear H;have H:=H1;clear H1;have H':=ga.mk H;clear H;have uF:0 ≤ (Ga:Int):=Ua;have qF:Ga < (t106.length:Int):=Ua;obtain ⟨eaf,R9,K7,U6,MF,zy,Ey⟩:=Vq (Kd.Uc Kk.out).2.2 Ga uF qF;cases U6;obtain ⟨qae,PK,SK,gD⟩:=Kd.CD Kk.out [] Ga uF (by first|exact qF|exact Ua|(have e_:=(Kd.Uc Kk.out).1;omega));obtain ⟨EV,rfl,jt⟩:=SK;have Zl:=gD 0 _ rfl;rw [Nat.add_zero,show ((Kd.slice 4 Kd.bool)).sz=1 from rfl,Nat.mul_one] at Zl;replace Zl:=Option.some.inj (Zl.symm.trans MF);rw [Zl] at jt;have sC:=ga.mk (show Kd.R Kd.bool 4 _ _ _ _ (Pd t106 Ga) from jt);clear Zl jt gD PK;have Ez:=ga.mk Ey;have BZ:=ga.mk zy;clear Ey zy;replace uF:=eq_true uF;replace qF:=eq_true qF;have uK:0 ≤ (El:Int):=Ua;have oK:El < ((Pd t106 Ga).length:Int):=Ua;obtain ⟨daf,S6,LF⟩:=Kd.Rj (by repeat (first|(with_reducible exact Ez.out)|(with_reducible refine Kd.Rb ?_ _)|(with_reducible refine Kd.Qb ?_ _)|(with_reducible refine Kd.Yb ?_)|exact Ez.out)) El uK oK;(try rw [← C2.out] at LF);cases S6;replace uK:=eq_true uK;replace oK:=eq_true oK;go_wp2
             go_roundg k2
             case measure=>have:=Xf.out;have:=Dr.out;omega
             case rel=>exact ⟨(Tt),(wrap64 (El + 1)),(by first|rfl|(simp;done)|(simp [*];done)),H',⟨by have:=Xf.out;have:=Dr.out;omega⟩,⟨by (with_reducible repeat (first|apply Kd.Xc|apply Kd.Wc|apply Kd.yd));exact Mc.out⟩,⟨by (with_reducible repeat (first|apply Kd.Xc|apply Kd.Wc|apply Kd.yd));exact Kk.out⟩,⟨by (with_reducible repeat (first|apply Kd.Ab|apply Kd.zb|apply Kd.Pb));exact LD.out⟩,⟨by (with_reducible repeat (first|refine Ba ?_ _|refine Fa ?_|refine Ca ?_ _));exact oa.out⟩,⟨by repeat (first|(with_reducible first|exact HB.out|apply qa|apply ja|apply ta|refine ua ?_ Ta.out)|exact HB.out)⟩⟩
           ·rw [if_neg Np] at H;exact absurd H (by simp)
          ·rw [if_neg Pn] at H;exact absurd H (by simp)
         ·rw [if_neg Pp] at H;exact absurd H (by simp)
        ·rw [if_neg Qp] at H;exact absurd H (by simp)
       ·rw [if_neg sI] at H;have Uae:decide (El < (t106.length:Int))=false:=decide_eq_false sI;clear sI
        by_cases rI:od.length < 5864062014805
        ·rw [if_pos rI] at H;have waf:=ga.mk rI;clear rI;obtain ⟨gp,Jn⟩:∃ y_:List (List Int),y_=(od ++ [Tt]):=⟨_,rfl⟩;replace H:(Qc.l0 k2 gp t106 (wrap64 (Ga + 1)))=some r:=by first|(rw [Jn];with_reducible exact H)|(have Md:=(Option.bind_some _ _).symm.trans H;rw [Jn];with_reducible exact Md)|(have Md:=(Option.bind_some _ _).symm.trans H;with_reducible exact Md)|with_reducible exact H|(rw [Jn];exact H)|exact H
         have XE:=ga.mk Jn;clear Jn;have H':=ga.mk H;clear H;obtain ⟨Wag,lae,jar⟩:=Kd.Zd LD.out;subst jar;go_wp2_with (first|((with_reducible refine Ld (b:=.append) (xs:=#[.tmp 39,.tmp 41]) rfl ?_);at_builtin;refine Kd.tr (Kd.slice 3 (Kd.int .i64)) (w0:=w) w.heap.size rfl (.tmp 39) (.tmp 41) 42 22 (.slice none 0 0) 24 rfl Try.underlying42 pS rfl (by decide) (by omega) u3 od Tt [.slice Wag Tt.length lae] (fun _=>True) (fun k_=>some k_=(.slice Wag Tt.length lae:Value).ownBlock) rfl rfl ?aP (fun k_ nW=>((Kd.Bd (Ot:=fun k_=>((fun _=>True)) k_∧some k_ ≠ (u3:Value).ownBlock) (Kd.Rn (LD.out) (Kd.Bm Mc.out) (by decide)) (fun k_ hk=>⟨trivial,hk.2⟩))).1 k_ nW.symm) ?aF ?aO ?aB ?aS ?aL ?_;(case aP=>exact Kd.CP (Kd.Bd (Kd.Oq rfl (Kd.Bd (Ot:=fun k_=>((fun _=>True)) k_∧some k_ ≠ (u3:Value).ownBlock) (Kd.Rn (LD.out) (Kd.Bm Mc.out) (by decide)) (fun k_ hk=>⟨trivial,hk.2⟩))) (fun _ h_=>h_)));(case aB=>exact (by repeat (first|(with_reducible first|exact HB.out|apply qa|apply ja|apply ta|refine ua ?_ Ta.out)|exact HB.out)));(case aF=>exact (fun _ _=>trivial));(case aO=>exact (by (with_reducible repeat (first|apply Kd.Xc|apply Kd.Wc|apply Kd.yd));exact Kd.Mg Mc.out (fun k_ hk=>⟨trivial,fun e_=>hk e_⟩)));(case aS=>exact (Ia (by repeat (first|(with_reducible first|exact HB.out|apply qa|apply ja|apply ta|refine ua ?_ Ta.out)|exact HB.out))));(case aL=>have:=waf.out;omega);intro FV Dn ho hb hg hat;rw [← XE.out] at ho;have yb:=ga.mk (Kd.XH (by (with_reducible repeat (first|apply Kd.Xc|apply Kd.Wc|apply Kd.yd));exact Kk.out) (Kd.Bm (by (with_reducible repeat (first|apply Kd.Xc|apply Kd.Wc|apply Kd.yd));exact Mc.out)) (by decide) hg);have Ib:=ga.mk (td (g:=ya) (o:=.cells #[.slice Xa Ra.length Ya,.int .i64 La,.int .i64 Ja,.int .i64 Ma,.slice Mb Aa.length Fb] 30 (0,0)) (by (with_reducible repeat (first|refine Ba ?_ _|refine Fa ?_|refine Ca ?_ _));exact oa.out) hg (Kd.Z7 Mc.out oa.out (by decide)));have Nb:=ga.mk (hb);have Dc:=ga.mk (ho);clear Kk oa HB Mc LD;have Kk:=yb;have oa:=Ib;have HB:=Nb;have Hz:=Dc;clear yb Ib Nb Dc ho hb hg hat))
         go_roundg k2
         case measure=>have:=Xf.out;have:=Dr.out;omega
         case rel=>exact ⟨(gp),(wrap64 (Ga + 1)),(by first|rfl|(simp;done)|(simp [*];done)),H',⟨by have:=Xf.out;have:=Dr.out;omega⟩,⟨by (with_reducible repeat (first|apply Kd.Xc|apply Kd.Wc|apply Kd.yd));exact Hz.out⟩,⟨by (with_reducible repeat (first|apply Kd.Xc|apply Kd.Wc|apply Kd.yd));exact Kk.out⟩,⟨by (with_reducible repeat (first|refine Ba ?_ _|refine Fa ?_|refine Ca ?_ _));exact oa.out⟩,⟨by repeat (first|(with_reducible first|exact HB.out|apply qa|apply ja|apply ta|refine ua ?_ Ta.out)|exact HB.out)⟩⟩
        ·rw [if_neg rI] at H;exact absurd H (by simp)
    ·rw [if_neg wu] at H;have SE:decide (Ga < (t106.length:Int))=false:=decide_eq_false wu;clear wu;obtain rfl:=Option.some.inj H;obtain ⟨LaA,maz,iar⟩:=Kd.mh Kk.out;subst iar;go_wp2;go_ret;exact ⟨_,by first|rfl|(simp [Oa,Na] <;> rfl)|(simp [*,Oa,Na] <;> rfl),by (with_reducible repeat (first|apply Kd.Xc|apply Kd.Wc|apply Kd.yd));exact Mc.out,by repeat (first|(with_reducible first|exact HB.out|apply qa|apply ja|apply ta|refine ua ?_ Ta.out)|exact HB.out)⟩
 ·replace c3:=Bool.eq_false_iff.mpr c3;subst c3;have H1:(some ld)=some r:=by rw [if_neg (show ¬ (false=true) by decide)] at H;exact H
  clear H;have H:=H1;clear H1;obtain rfl:=Option.some.inj H;go_enter Try.func24,Try.ntmps24;go_wp2_with (first|((with_reducible refine qb (N:=1) rfl ?_);refine Gb ?hg (N:=1) ?hd (cs:=#[.slice Xa Ra.length Ya,.int .i64 La,.int .i64 Ja,.int .i64 Ma,.slice Mb Aa.length Fb]) (t:=30) ?hr ?_;(case hd=>rfl);(case hg=>rfl);(case hr=>first|(go_simp;done)|(go_simp;rfl));intro ya hg lF Ob hb;have yb:=ga.mk (Qa (by repeat (first|(with_reducible first|exact HB.out|apply qa|apply ja|apply ta)|exact HB.out)) hb);have Ib:=ga.mk (Ob);have Nb:=ga.mk ((by rw [hg];exact (Ia (by repeat (first|(with_reducible first|exact HB.out|apply qa|apply ja|apply ta)|exact HB.out))):w.heap.size ≤ ya));have Dc:=ga.mk ((by rw [hg];exact (Ia (by repeat (first|(with_reducible first|exact HB.out|apply qa|apply ja|apply ta)|exact HB.out))):w.heap.size ≤ ya));clear HB;have HB:=yb;have oa:=Ib;have Nd:=Nb;have Ta:=Dc;clear yb Ib Nb Dc hb Ob hg)|((with_reducible refine qb (N:=8) rfl ?_);refine Kd.uP (Kd.slice 3 (Kd.int .i64)) _ 22 ?hg (N:=8) ?hd (xs:=([]:List (List Int))) (inner:=[]) (ok:=fun _=>True) (Tg:=fun _=>True) ?hr ?hp (fun _ hk=>hk) trivial (Below.refl _ _) (Nat.le_refl _) (by simp) ?_;(case hd=>rfl);(case hg=>rfl);(case hr=>first|(go_simp;done)|(go_simp;rfl));(case hp=>exact (xd.none _ _));intro En Nz QS hb Al He;clear Al He;(first|rw [← Ch.out] at QS|(simp only [Int.reduceToNat] at QS;rw [← Ch.out] at QS));have yb:=ga.mk (Kd.Yo QS (Ia (by repeat (first|(with_reducible first|exact HB.out|apply qa|apply ja|apply ta|refine ua ?_ Ta.out)|exact HB.out))));have Ib:=ga.mk (Va (g:=ya) (o:=.cells #[.slice Xa Ra.length Ya,.int .i64 La,.int .i64 Ja,.int .i64 Ma,.slice Mb Aa.length Fb] 30 (0,0)) (by (with_reducible repeat (first|refine Ba ?_ _|refine Fa ?_|refine Ca ?_ _));exact oa.out) hb);have Nb:=ga.mk (Qa (by repeat (first|(with_reducible first|exact HB.out|apply qa|apply ja|apply ta|refine ua ?_ Ta.out)|exact HB.out)) hb);clear oa HB;have mg:=yb;have oa:=Ib;have HB:=Nb;clear yb Ib Nb hb QS;have SB:Nz.cell? ⟨ya,0,none⟩=some (.slice Xa Ra.length Ya):=(ia oa.out 0).trans rfl;have RB:Nz.cell? ⟨ya,1,none⟩=some (.int .i64 La):=(ia oa.out 1).trans rfl;have QB:Nz.cell? ⟨ya,2,none⟩=some (.int .i64 Ja):=(ia oa.out 2).trans rfl;have OB:Nz.cell? ⟨ya,3,none⟩=some (.int .i64 Ma):=(ia oa.out 3).trans rfl;have NB:Nz.cell? ⟨ya,4,none⟩=some (.slice Mb Aa.length Fb):=(ia oa.out 4).trans rfl;have sB:=aa oa.out 0;have rB:=aa oa.out 1;have qB:=aa oa.out 2;have oB:=aa oa.out 3;have nB:=aa oa.out 4)|((with_reducible refine mb (f:=40) rfl ?_);refine Fc (some 10) rfl rfl Try.func40 (by kernel_rfl) rfl #[.agg #[.slice Xa Ra.length Ya,.int .i64 La,.int .i64 Ja,.int .i64 Ma,.slice Mb Aa.length Fb]] rfl (by (try simp only [List.map_toArray,List.map_cons,List.map_nil]);first|done|rfl|(simp only [List.length_drop,List.length_take];rfl)) ?_;(with_reducible refine (Wa.calls k _ _ Ra La Ja Ma _ _ Aa false _ ?yc ?uc ?Gd ?Ed A2.out).mono ?_);(case yc=>repeat (first|exact (Kd.Jb Ye.out HB.out)|(with_reducible refine Kd.Rb ?_ _)|(with_reducible refine Kd.Qb ?_ _)|(with_reducible refine Kd.Yb ?_)));(case uc=>exact gf.out);(case Gd=>repeat (first|exact (Kd.Jb wg.out HB.out)|(with_reducible refine Kd.Rb ?_ _)|(with_reducible refine Kd.Qb ?_ _)|(with_reducible refine Kd.Yb ?_)));(case Ed=>exact ei.out);rintro e RL ⟨rfl,hb⟩;refine ⟨_,rfl,?_⟩;have yb:=ga.mk (Kd.Yd (by (with_reducible repeat (first|apply Kd.Xc|apply Kd.Wc|apply Kd.yd));exact mg.out) hb);have Ib:=ga.mk (Va (g:=ya) (o:=.cells #[.slice Xa Ra.length Ya,.int .i64 La,.int .i64 Ja,.int .i64 Ma,.slice Mb Aa.length Fb] 30 (0,0)) (by (with_reducible repeat (first|refine Ba ?_ _|refine Fa ?_|refine Ca ?_ _));exact oa.out) hb);have Nb:=ga.mk (Qa (by repeat (first|(with_reducible first|exact HB.out|apply qa|apply ja|apply ta|refine ua ?_ Ta.out)|exact HB.out)) hb);clear mg oa HB;have mg:=yb;have oa:=Ib;have HB:=Nb;clear yb Ib Nb;(try clear hb);(try clear bk);(try clear hk);(try clear hi)));go_ret;exact ⟨_,by first|rfl|(simp [Oa,Na] <;> rfl)|(simp [*,Oa,Na] <;> rfl),by (with_reducible repeat (first|apply Kd.Xc|apply Kd.Wc|apply Kd.yd));exact mg.out,by repeat (first|(with_reducible first|exact HB.out|apply qa|apply ja|apply ta|refine ua ?_ Ta.out)|exact HB.out)⟩
noncomputable def ye.l0:Nat→List (List Int)→List (List Bool)→Int→Int→Option ((List (List Int)))
 | 0,_,_,_,_=>none
 | k + 1,x3,x11,I_,jQ=>if jQ < I_ then (if 0 ≤ jQ then (if jQ < (x11.length:Int) then ((Jd.f k (Pd x11 jQ)).bind fun t110=>(if x3.length < 5864062014805 then (ye.l0 k (x3 ++ [t110]) x11 I_ (wrap64 (jQ + 1))) else (none))) else (none)) else (none)) else (some x3)
noncomputable def ye.f (k:Nat) (Ra:List Int) (La:Int) (Ja:Int) (Ma:Int) (Aa:List (Re)):Option ((List (List Int))):=(Vb.f k Ra La Ja Ma Aa).bind fun t102=>(if t102=true then ((zh.f Ra La Ja Ma Aa).bind fun t106=>(ye.l0 k (([]:List (List Int))) t106 (t106.length:Int) 0)) else (some ([]:List (List Int))))
theorem ye.calls (k:Nat) (Xa:Option Addr) (Ya:Nat) (Ra:List Int) (La:Int) (Ja:Int) (Ma:Int) (Mb:Option Addr) (Fb:Nat) (Aa:List (Re)) (r:List (List Int)) (w:World) (Xd:Kd.C (Kd.int .i64) w Xa Ra.length Ra) (Vd:Ra.length ≤ Ya) (Ff:Kd.C Kp w Mb Aa.length Aa) (uf:Aa.length ≤ Fb) (h:ye.f k Ra La Ja Ma Aa=some r) :
  Calls Try.prog 25 #[.agg #[.slice Xa Ra.length Ya,.int .i64 La,.int .i64 Ja,.int .i64 Ma,.slice Mb Aa.length Fb]] w fun e w'=>∃ Hl:Value,e = .returned (Hl)∧Kd.S (Kd.slice 3 (Kd.int .i64)) 22 w' w.heap.size (fun _=>True) Hl r∧Below w.heap.size w w':=by
 have eE:=Try.underlying30;have Ye:=ga.mk Xd;have gf:=ga.mk Vd;clear Xd Vd;have wg:=ga.mk Ff;have ei:=ga.mk uf;clear Ff uf;have HB:=ga.mk (Below.refl w.heap.size w);have H:((Vb.f k Ra La Ja Ma Aa).bind fun t102=>(if t102=true then ((zh.f Ra La Ja Ma Aa).bind fun t106=>(ye.l0 k (([]:List (List Int))) t106 (t106.length:Int) 0)) else (some ([]:List (List Int)))))=some r:=h;clear h;replace H:=Option.bind_eq_some_iff.mp H;obtain ⟨t102,xI,H⟩:=H;replace H:(if t102=true then ((zh.f Ra La Ja Ma Aa).bind fun t106=>(ye.l0 k (([]:List (List Int))) t106 (t106.length:Int) 0)) else (some ([]:List (List Int))))=some r:=H;have A2:=ga.mk xI;clear xI
 by_cases c3:t102=true
 ·subst c3;have H1:((zh.f Ra La Ja Ma Aa).bind fun t106=>(ye.l0 k (([]:List (List Int))) t106 (t106.length:Int) 0))=some r:=by rw [if_pos rfl] at H;exact H
  clear H;have H:=H1;clear H1;obtain ⟨Tf,Zj⟩:∃ y_:List (List Int),y_=(([]:List (List Int))):=⟨_,rfl⟩;replace H:((zh.f Ra La Ja Ma Aa).bind fun t106=>(ye.l0 k Tf t106 (t106.length:Int) 0))=some r:=by first|(rw [Zj];with_reducible exact H)|(have Md:=(Option.bind_some _ _).symm.trans H;rw [Zj];with_reducible exact Md)|(have Md:=(Option.bind_some _ _).symm.trans H;with_reducible exact Md)|with_reducible exact H|(rw [Zj];exact H)|exact H
  have PA:=ga.mk Zj;clear Zj;replace H:=Option.bind_eq_some_iff.mp H;obtain ⟨t106,fQ,H⟩:=H;replace H:(ye.l0 k Tf t106 (t106.length:Int) 0)=some r:=H;have A4:=ga.mk fQ;clear fQ;have H':=ga.mk H;clear H;go_enter Try.func25,Try.ntmps25;go_wp2_with (first|((with_reducible refine qb (N:=1) rfl ?_);refine Gb ?hg (N:=1) ?hd (cs:=#[.slice Xa Ra.length Ya,.int .i64 La,.int .i64 Ja,.int .i64 Ma,.slice Mb Aa.length Fb]) (t:=30) ?hr ?_;(case hd=>rfl);(case hg=>rfl);(case hr=>first|(go_simp;done)|(go_simp;rfl));intro ya hg w5 Ob hb;have yb:=ga.mk (Qa (by repeat (first|(with_reducible first|exact HB.out|apply qa|apply ja|apply ta)|exact HB.out)) hb);have Ib:=ga.mk (Ob);have Nb:=ga.mk ((by rw [hg];exact (Ia (by repeat (first|(with_reducible first|exact HB.out|apply qa|apply ja|apply ta)|exact HB.out))):w.heap.size ≤ ya));have Dc:=ga.mk ((by rw [hg];exact (Ia (by repeat (first|(with_reducible first|exact HB.out|apply qa|apply ja|apply ta)|exact HB.out))):w.heap.size ≤ ya));clear HB;have HB:=yb;have oa:=Ib;have Nd:=Nb;have Ta:=Dc;clear yb Ib Nb Dc hb Ob hg;have Vm:w5.cell? ⟨ya,0,none⟩=some (.slice Xa Ra.length Ya):=(ia oa.out 0).trans rfl;have Um:w5.cell? ⟨ya,1,none⟩=some (.int .i64 La):=(ia oa.out 1).trans rfl;have Sm:w5.cell? ⟨ya,2,none⟩=some (.int .i64 Ja):=(ia oa.out 2).trans rfl;have Rm:w5.cell? ⟨ya,3,none⟩=some (.int .i64 Ma):=(ia oa.out 3).trans rfl;have Qm:w5.cell? ⟨ya,4,none⟩=some (.slice Mb Aa.length Fb):=(ia oa.out 4).trans rfl;have Pm:=aa oa.out 0;have Om:=aa oa.out 1;have Nm:=aa oa.out 2;have Mm:=aa oa.out 3;have Lm:=aa oa.out 4)|((with_reducible refine mb (f:=46) rfl ?_);refine Fc (some 7) rfl rfl Try.func46 (by kernel_rfl) rfl #[.agg #[.slice Xa Ra.length Ya,.int .i64 La,.int .i64 Ja,.int .i64 Ma,.slice Mb Aa.length Fb]] rfl (by (try simp only [List.map_toArray,List.map_cons,List.map_nil]);first|done|rfl|(simp only [List.length_drop,List.length_take];rfl)) ?_;(with_reducible refine (Vb.calls k _ _ Ra La Ja Ma _ _ Aa true _ ?yc ?uc ?Gd ?Ed A2.out).mono ?_);(case yc=>repeat (first|exact (Kd.Jb Ye.out HB.out)|(with_reducible refine Kd.Rb ?_ _)|(with_reducible refine Kd.Qb ?_ _)|(with_reducible refine Kd.Yb ?_)));(case uc=>exact gf.out);(case Gd=>repeat (first|exact (Kd.Jb wg.out HB.out)|(with_reducible refine Kd.Rb ?_ _)|(with_reducible refine Kd.Qb ?_ _)|(with_reducible refine Kd.Yb ?_)));(case Ed=>exact ei.out);rintro e w7 ⟨rfl,hb⟩;refine ⟨_,rfl,?_⟩;have yb:=ga.mk (Va (g:=ya) (o:=.cells #[.slice Xa Ra.length Ya,.int .i64 La,.int .i64 Ja,.int .i64 Ma,.slice Mb Aa.length Fb] 30 (0,0)) (by (with_reducible repeat (first|refine Ba ?_ _|refine Fa ?_|refine Ca ?_ _));exact oa.out) hb);have Ib:=ga.mk (Qa (by repeat (first|(with_reducible first|exact HB.out|apply qa|apply ja|apply ta|refine ua ?_ Ta.out)|exact HB.out)) hb);clear oa HB;have oa:=yb;have HB:=Ib;clear yb Ib;(try clear hb);(try clear bk);(try clear hk);(try clear hi))|((with_reducible refine qb (N:=9) rfl ?_);refine Kd.uP (Kd.slice 3 (Kd.int .i64)) _ 22 ?hg (N:=9) ?hd (xs:=([]:List (List Int))) (inner:=[]) (ok:=fun _=>True) (Tg:=fun _=>True) ?hr ?hp (fun _ hk=>hk) trivial (Below.refl _ _) (Nat.le_refl _) (by simp) ?_;(case hd=>rfl);(case hg=>rfl);(case hr=>first|(go_simp;done)|(go_simp;rfl));(case hp=>exact (xd.none _ _));intro kay w8 KS hb Al He;clear Al He;(first|rw [← PA.out] at KS|(simp only [Int.reduceToNat] at KS;rw [← PA.out] at KS));have yb:=ga.mk (Kd.Yo KS (Ia (by repeat (first|(with_reducible first|exact HB.out|apply qa|apply ja|apply ta|refine ua ?_ Ta.out)|exact HB.out))));have Ib:=ga.mk (Va (g:=ya) (o:=.cells #[.slice Xa Ra.length Ya,.int .i64 La,.int .i64 Ja,.int .i64 Ma,.slice Mb Aa.length Fb] 30 (0,0)) (by (with_reducible repeat (first|refine Ba ?_ _|refine Fa ?_|refine Ca ?_ _));exact oa.out) hb);have Nb:=ga.mk (Qa (by repeat (first|(with_reducible first|exact HB.out|apply qa|apply ja|apply ta|refine ua ?_ Ta.out)|exact HB.out)) hb);clear oa HB;have SP:=yb;have oa:=Ib;have HB:=Nb;clear yb Ib Nb hb KS;have Yh:w8.cell? ⟨ya,0,none⟩=some (.slice Xa Ra.length Ya):=(ia oa.out 0).trans rfl;have Xh:w8.cell? ⟨ya,1,none⟩=some (.int .i64 La):=(ia oa.out 1).trans rfl;have Wh:w8.cell? ⟨ya,2,none⟩=some (.int .i64 Ja):=(ia oa.out 2).trans rfl;have Vh:w8.cell? ⟨ya,3,none⟩=some (.int .i64 Ma):=(ia oa.out 3).trans rfl;have Uh:w8.cell? ⟨ya,4,none⟩=some (.slice Mb Aa.length Fb):=(ia oa.out 4).trans rfl;have Th:=aa oa.out 0;have Sh:=aa oa.out 1;have Rh:=aa oa.out 2;have Qh:=aa oa.out 3;have Ph:=aa oa.out 4)|((with_reducible refine mb (f:=59) rfl ?_);refine Fc (some 11) rfl rfl Try.func59 (by kernel_rfl) rfl #[.agg #[.slice Xa Ra.length Ya,.int .i64 La,.int .i64 Ja,.int .i64 Ma,.slice Mb Aa.length Fb]] rfl (by (try simp only [List.map_toArray,List.map_cons,List.map_nil]);first|done|rfl|(simp only [List.length_drop,List.length_take];rfl)) ?_;(with_reducible refine (zh.calls _ _ Ra La Ja Ma _ _ Aa t106 _ ?yc ?uc ?Gd ?Ed A4.out).mono ?_);(case yc=>repeat (first|exact (Kd.Jb Ye.out HB.out)|(with_reducible refine Kd.Rb ?_ _)|(with_reducible refine Kd.Qb ?_ _)|(with_reducible refine Kd.Yb ?_)));(case uc=>exact gf.out);(case Gd=>repeat (first|exact (Kd.Jb wg.out HB.out)|(with_reducible refine Kd.Rb ?_ _)|(with_reducible refine Kd.Qb ?_ _)|(with_reducible refine Kd.Yb ?_)));(case Ed=>exact ei.out);rintro e Zi ⟨AR,rfl,Vj,hb⟩;refine ⟨_,rfl,?_⟩;have yb:=ga.mk (Kd.Yd (by (with_reducible repeat (first|apply Kd.Xc|apply Kd.Wc|apply Kd.yd));exact SP.out) hb);have Ib:=ga.mk (Kd.Yo Vj (Ia (by repeat (first|(with_reducible first|exact HB.out|apply qa|apply ja|apply ta|refine ua ?_ Ta.out)|exact HB.out))));have Nb:=ga.mk (Va (g:=ya) (o:=.cells #[.slice Xa Ra.length Ya,.int .i64 La,.int .i64 Ja,.int .i64 Ma,.slice Mb Aa.length Fb] 30 (0,0)) (by (with_reducible repeat (first|refine Ba ?_ _|refine Fa ?_|refine Ca ?_ _));exact oa.out) hb);have Dc:=ga.mk (Qa (by repeat (first|(with_reducible first|exact HB.out|apply qa|apply ja|apply ta|refine ua ?_ Ta.out)|exact HB.out)) hb);clear SP oa HB;have SP:=yb;have fj:=Ib;have oa:=Nb;have HB:=Dc;clear yb Ib Nb Dc;(try clear hb);(try clear bk);(try clear hk);(try clear hi);(try clear Vj);obtain ⟨Mas,j7,SY⟩:=Kd.mh fj.out;subst SY))
  go_loopg [3,13] k (fun kq v3 Z3 w'=>∃ (od:List (List Int)) (Ce:Int),Z3 = .int .i64 Ce∧ga (ye.l0 kq od t106 (t106.length:Int) Ce=some r)∧ga (kq ≤ k)∧ga (Kd.S (Kd.slice 3 (Kd.int .i64)) 22 w' w.heap.size (fun _=>True) v3 od)∧ga (Kd.S (Kd.slice 4 Kd.bool) 60 w' w.heap.size (fun _=>True) (.slice Mas t106.length j7) t106)∧ga (w'.heap[ya]? = some (.cells #[(.slice Xa Ra.length Ya),.int .i64 La,.int .i64 Ja,.int .i64 Ma,(.slice Mb Aa.length Fb)] 30 (0,0)))∧ga (Below w.heap.size w w'))
  case atStart=>exact ⟨(Tf),(0),(by first|rfl|(simp;done)|(simp [*];done)),H',⟨Nat.le_refl _⟩,⟨by (with_reducible repeat (first|apply Kd.Xc|apply Kd.Wc|apply Kd.yd));exact SP.out⟩,⟨by (with_reducible repeat (first|apply Kd.Xc|apply Kd.Wc|apply Kd.yd));exact fj.out⟩,⟨by (with_reducible repeat (first|refine Ba ?_ _|refine Fa ?_|refine Ca ?_ _));exact oa.out⟩,⟨by repeat (first|(with_reducible first|exact HB.out|apply qa|apply ja|apply ta|refine ua ?_ Ta.out)|exact HB.out)⟩⟩
  case round =>
   clear H'
   try clear c2
   try clear p2
   try clear c3
   try clear c4
   try clear c5
   try clear Yh
   try clear Xh
   try clear Wh
   try clear Vh
   try clear Uh
   try clear Vm
   try clear Um
   try clear Sm
   try clear Rm
   try clear Qm
   try clear Th
   try clear Sh
   try clear Rh
   try clear Qh
   try clear Ph
   try clear Pm
   try clear Om
   try clear Nm
   try clear Mm
   try clear Lm
   (try clear HA);(try clear Xf);(try clear Mc);(try clear zu);(try clear oa);(try clear HB);obtain ⟨od,Ce,rfl,HA,Xf,Mc,zu,oa,HB⟩:=hrel;cases gk with
   | zero=>exact absurd HA.out (by simp [ye.l0])
   | succ k1 =>
    have H:=HA.out;clear HA;simp only [ye.l0] at H
    by_cases nC:Ce < (t106.length:Int)
    ·rw [if_pos nC] at H;have P1:decide (Ce < (t106.length:Int))=true:=decide_eq_true nC;clear nC
     by_cases lU:0 ≤ Ce
     ·rw [if_pos lU] at H;have Yaw:decide (0 ≤ Ce)=true:=decide_eq_true lU;clear lU
      by_cases yD:Ce < (t106.length:Int)
      ·rw [if_pos yD] at H;have xD:decide (Ce < (t106.length:Int))=true:=decide_eq_true yD;clear yD;replace H:=Option.bind_eq_some_iff.mp H;obtain ⟨t110,iah,H⟩:=H;replace H:(if od.length < 5864062014805 then (ye.l0 k1 (od ++ [t110]) t106 (t106.length:Int) (wrap64 (Ce + 1))) else (none))=some r:=H;have A16:=ga.mk iah;clear iah
       by_cases Qp:od.length < 5864062014805
       ·rw [if_pos Qp] at H;have zaf:=ga.mk Qp;clear Qp;obtain ⟨F_,UI⟩:∃ y_:List (List Int),y_=(od ++ [t110]):=⟨_,rfl⟩;replace H:(ye.l0 k1 F_ t106 (t106.length:Int) (wrap64 (Ce + 1)))=some r:=by first|(rw [UI];with_reducible exact H)|(have Md:=(Option.bind_some _ _).symm.trans H;rw [UI];with_reducible exact Md)|(have Md:=(Option.bind_some _ _).symm.trans H;with_reducible exact Md)|with_reducible exact H|(rw [UI];exact H)|exact H
        have naf:=ga.mk UI;clear UI;have H':=ga.mk H;clear H;have zo:0 ≤ (Ce:Int):=Ua;have xo:Ce < (t106.length:Int):=Ua;obtain ⟨Ig,Lk,Fk,sD,ri,Nh,Oh⟩:=Vq (Kd.Uc zu.out).2.2 Ce zo xo;cases sD;obtain ⟨Uaw,l6,E6,MT⟩:=Kd.CD zu.out [] Ce zo (by first|exact xo|exact Ua|(have e_:=(Kd.Uc zu.out).1;omega));obtain ⟨oah,rfl,GH⟩:=E6;have xy:=MT 0 _ rfl;rw [Nat.add_zero,show ((Kd.slice 4 Kd.bool)).sz=1 from rfl,Nat.mul_one] at xy;replace xy:=Option.some.inj (xy.symm.trans ri);rw [xy] at GH;have mw:=ga.mk (show Kd.R Kd.bool 4 _ _ _ _ (Pd t106 Ce) from GH);clear xy GH MT l6;have Em:=ga.mk Oh;have nw:=ga.mk Nh;clear Oh Nh;replace zo:=eq_true zo;replace xo:=eq_true xo;go_wp2_with (first|((with_reducible refine mb (f:=48) rfl ?_);refine Fc (some 19) rfl rfl Try.func48 (by kernel_rfl) rfl #[.slice Lk (Pd t106 Ce).length Fk] rfl (by (try simp only [List.map_toArray,List.map_cons,List.map_nil]);first|done|rfl|(simp only [List.length_drop,List.length_take];rfl)) ?_;(with_reducible refine (Jd.calls k1 _ _ (Pd t106 Ce) t110 _ ?yc ?uc A16.out).mono ?_);(case yc=>repeat (first|exact (by repeat (first|(with_reducible exact Em.out)|(with_reducible refine Kd.Rb ?_ _)|(with_reducible refine Kd.Qb ?_ _)|(with_reducible refine Kd.Yb ?_)|exact Em.out))|(with_reducible refine Kd.Rb ?_ _)|(with_reducible refine Kd.Qb ?_ _)|(with_reducible refine Kd.Yb ?_)));(case uc=>exact nw.out);rintro e kQ ⟨hay,rfl,Vj,hb⟩;refine ⟨_,rfl,?_⟩;have yb:=ga.mk (Kd.yu (by (with_reducible repeat (first|apply Kd.Xc|apply Kd.Wc|apply Kd.yd));exact Mc.out) (Kd.ax Vj) hb);have Ib:=ga.mk (Kd.Yd (by (with_reducible repeat (first|apply Kd.Xc|apply Kd.Wc|apply Kd.yd));exact zu.out) hb);have Nb:=ga.mk (Kd.pg (by (with_reducible repeat (first|apply Kd.Ab|apply Kd.zb|apply Kd.Pb));exact mw.out) hb);have Dc:=ga.mk (Kd.we Vj (Ia (by repeat (first|(with_reducible first|exact HB.out|apply qa|apply ja|apply ta|refine ua ?_ Ta.out)|exact HB.out))));have Vf:=ga.mk (Va (g:=ya) (o:=.cells #[.slice Xa Ra.length Ya,.int .i64 La,.int .i64 Ja,.int .i64 Ma,.slice Mb Aa.length Fb] 30 (0,0)) (by (with_reducible repeat (first|refine Ba ?_ _|refine Fa ?_|refine Ca ?_ _));exact oa.out) hb);have Kg:=ga.mk (Kd.Jb (by repeat (first|(with_reducible exact Em.out)|(with_reducible refine Kd.Rb ?_ _)|(with_reducible refine Kd.Qb ?_ _)|(with_reducible refine Kd.Yb ?_)|exact Em.out)) hb);have Rg:=ga.mk (Qa (by repeat (first|(with_reducible first|exact HB.out|apply qa|apply ja|apply ta|refine ua ?_ Ta.out)|exact HB.out)) hb);clear Mc zu mw oa Em HB;have Mc:=yb;have zu:=Ib;have mw:=Nb;have RP:=Dc;have oa:=Vf;have Em:=Kg;have HB:=Rg;clear yb Ib Nb Dc Vf Kg Rg;(try clear hb);(try clear bk);(try clear hk);(try clear hi);(try clear Vj);obtain ⟨Xag,nae,lar⟩:=Kd.Zd RP.out;subst lar)|((with_reducible refine Ld (b:=.append) (xs:=#[.tmp 17,.tmp 20]) rfl ?_);at_builtin;refine Kd.tr (Kd.slice 3 (Kd.int .i64)) (w0:=w) w.heap.size rfl (.tmp 17) (.tmp 20) 42 22 (.slice none 0 0) 24 rfl Try.underlying42 pS rfl (by decide) (by omega) u3 od t110 [.slice Xag t110.length nae] (fun _=>True) (fun k_=>some k_=(.slice Xag t110.length nae:Value).ownBlock) rfl rfl ?aP (fun k_ nW=>((Kd.Bd (Ot:=fun k_=>((fun _=>True)) k_∧some k_ ≠ (u3:Value).ownBlock) (Kd.Rn (RP.out) (Kd.Bm Mc.out) (by decide)) (fun k_ hk=>⟨trivial,hk.2⟩))).1 k_ nW.symm) ?aF ?aO ?aB ?aS ?aL ?_;(case aP=>exact Kd.CP (Kd.Bd (Kd.Oq rfl (Kd.Bd (Ot:=fun k_=>((fun _=>True)) k_∧some k_ ≠ (u3:Value).ownBlock) (Kd.Rn (RP.out) (Kd.Bm Mc.out) (by decide)) (fun k_ hk=>⟨trivial,hk.2⟩))) (fun _ h_=>h_)));(case aB=>exact (by repeat (first|(with_reducible first|exact HB.out|apply qa|apply ja|apply ta|refine ua ?_ Ta.out)|exact HB.out)));(case aF=>exact (fun _ _=>trivial));(case aO=>exact (by (with_reducible repeat (first|apply Kd.Xc|apply Kd.Wc|apply Kd.yd));exact Kd.Mg Mc.out (fun k_ hk=>⟨trivial,fun e_=>hk.2 e_⟩)));(case aS=>exact (Ia (by repeat (first|(with_reducible first|exact HB.out|apply qa|apply ja|apply ta|refine ua ?_ Ta.out)|exact HB.out))));(case aL=>have:=zaf.out;omega);intro gay qw ho hb hg hat;rw [← naf.out] at ho;have yb:=ga.mk (Kd.XH (by (with_reducible repeat (first|apply Kd.Xc|apply Kd.Wc|apply Kd.yd));exact zu.out) (Kd.Bm (by (with_reducible repeat (first|apply Kd.Xc|apply Kd.Wc|apply Kd.yd));exact Mc.out)) (by decide) hg);have Ib:=ga.mk (td (g:=ya) (o:=.cells #[.slice Xa Ra.length Ya,.int .i64 La,.int .i64 Ja,.int .i64 Ma,.slice Mb Aa.length Fb] 30 (0,0)) (by (with_reducible repeat (first|refine Ba ?_ _|refine Fa ?_|refine Ca ?_ _));exact oa.out) hg (Kd.Z7 Mc.out oa.out (by decide)));have Nb:=ga.mk (Kd.gw (by (with_reducible repeat (first|apply Kd.Ab|apply Kd.zb|apply Kd.Pb));exact mw.out) (Kd.Bm (by (with_reducible repeat (first|apply Kd.Xc|apply Kd.Wc|apply Kd.yd));exact Mc.out)) (by decide) hg);have Dc:=ga.mk (hb);have Vf:=ga.mk (ho);clear zu oa mw HB Mc RP;have zu:=yb;have oa:=Ib;have mw:=Nb;have HB:=Dc;have fag:=Vf;clear yb Ib Nb Dc Vf ho hb hg hat))
        go_roundg k1
        case measure=>have:=Xf.out;omega
        case rel=>exact ⟨(F_),(wrap64 (Ce + 1)),(by first|rfl|(simp;done)|(simp [*];done)),H',⟨by have:=Xf.out;omega⟩,⟨by (with_reducible repeat (first|apply Kd.Xc|apply Kd.Wc|apply Kd.yd));exact fag.out⟩,⟨by (with_reducible repeat (first|apply Kd.Xc|apply Kd.Wc|apply Kd.yd));exact zu.out⟩,⟨by (with_reducible repeat (first|refine Ba ?_ _|refine Fa ?_|refine Ca ?_ _));exact oa.out⟩,⟨by repeat (first|(with_reducible first|exact HB.out|apply qa|apply ja|apply ta|refine ua ?_ Ta.out)|exact HB.out)⟩⟩
       ·rw [if_neg Qp] at H;exact absurd H (by simp)
      ·rw [if_neg yD] at H;exact absurd H (by simp)
     ·rw [if_neg lU] at H;exact absurd H (by simp)
    ·rw [if_neg nC] at H;have P1:decide (Ce < (t106.length:Int))=false:=decide_eq_false nC;clear nC;obtain rfl:=Option.some.inj H;go_wp2;go_ret;exact ⟨_,by first|rfl|(simp [Oa,Na] <;> rfl)|(simp [*,Oa,Na] <;> rfl),by (with_reducible repeat (first|apply Kd.Xc|apply Kd.Wc|apply Kd.yd));exact Mc.out,by repeat (first|(with_reducible first|exact HB.out|apply qa|apply ja|apply ta|refine ua ?_ Ta.out)|exact HB.out)⟩
 ·replace c3:=Bool.eq_false_iff.mpr c3;subst c3;have H1:(some ([]:List (List Int)))=some r:=by rw [if_neg (show ¬ (false=true) by decide)] at H;exact H
  clear H;have H:=H1;clear H1;obtain rfl:=Option.some.inj H;go_enter Try.func25,Try.ntmps25;go_wp2_with (first|((with_reducible refine qb (N:=1) rfl ?_);refine Gb ?hg (N:=1) ?hd (cs:=#[.slice Xa Ra.length Ya,.int .i64 La,.int .i64 Ja,.int .i64 Ma,.slice Mb Aa.length Fb]) (t:=30) ?hr ?_;(case hd=>rfl);(case hg=>rfl);(case hr=>first|(go_simp;done)|(go_simp;rfl));intro ya hg Xn Ob hb;have yb:=ga.mk (Qa (by repeat (first|(with_reducible first|exact HB.out|apply qa|apply ja|apply ta)|exact HB.out)) hb);have Ib:=ga.mk (Ob);have Nb:=ga.mk ((by rw [hg];exact (Ia (by repeat (first|(with_reducible first|exact HB.out|apply qa|apply ja|apply ta)|exact HB.out))):w.heap.size ≤ ya));have Dc:=ga.mk ((by rw [hg];exact (Ia (by repeat (first|(with_reducible first|exact HB.out|apply qa|apply ja|apply ta)|exact HB.out))):w.heap.size ≤ ya));clear HB;have HB:=yb;have oa:=Ib;have Nd:=Nb;have Ta:=Dc;clear yb Ib Nb Dc hb Ob hg;have Uv:Xn.cell? ⟨ya,0,none⟩=some (.slice Xa Ra.length Ya):=(ia oa.out 0).trans rfl;have Tv:Xn.cell? ⟨ya,1,none⟩=some (.int .i64 La):=(ia oa.out 1).trans rfl;have Sv:Xn.cell? ⟨ya,2,none⟩=some (.int .i64 Ja):=(ia oa.out 2).trans rfl;have Rv:Xn.cell? ⟨ya,3,none⟩=some (.int .i64 Ma):=(ia oa.out 3).trans rfl;have Qv:Xn.cell? ⟨ya,4,none⟩=some (.slice Mb Aa.length Fb):=(ia oa.out 4).trans rfl;have qv:=aa oa.out 0;have ov:=aa oa.out 1;have nv:=aa oa.out 2;have jv:=aa oa.out 3;have gv:=aa oa.out 4)|((with_reducible refine mb (f:=46) rfl ?_);refine Fc (some 7) rfl rfl Try.func46 (by kernel_rfl) rfl #[.agg #[.slice Xa Ra.length Ya,.int .i64 La,.int .i64 Ja,.int .i64 Ma,.slice Mb Aa.length Fb]] rfl (by (try simp only [List.map_toArray,List.map_cons,List.map_nil]);first|done|rfl|(simp only [List.length_drop,List.length_take];rfl)) ?_;(with_reducible refine (Vb.calls k _ _ Ra La Ja Ma _ _ Aa false _ ?yc ?uc ?Gd ?Ed A2.out).mono ?_);(case yc=>repeat (first|exact (Kd.Jb Ye.out HB.out)|(with_reducible refine Kd.Rb ?_ _)|(with_reducible refine Kd.Qb ?_ _)|(with_reducible refine Kd.Yb ?_)));(case uc=>exact gf.out);(case Gd=>repeat (first|exact (Kd.Jb wg.out HB.out)|(with_reducible refine Kd.Rb ?_ _)|(with_reducible refine Kd.Qb ?_ _)|(with_reducible refine Kd.Yb ?_)));(case Ed=>exact ei.out);rintro e Hr ⟨rfl,hb⟩;refine ⟨_,rfl,?_⟩;have yb:=ga.mk (Va (g:=ya) (o:=.cells #[.slice Xa Ra.length Ya,.int .i64 La,.int .i64 Ja,.int .i64 Ma,.slice Mb Aa.length Fb] 30 (0,0)) (by (with_reducible repeat (first|refine Ba ?_ _|refine Fa ?_|refine Ca ?_ _));exact oa.out) hb);have Ib:=ga.mk (Qa (by repeat (first|(with_reducible first|exact HB.out|apply qa|apply ja|apply ta|refine ua ?_ Ta.out)|exact HB.out)) hb);clear oa HB;have oa:=yb;have HB:=Ib;clear yb Ib;(try clear hb);(try clear bk);(try clear hk);(try clear hi)));go_ret;exact ⟨_,by first|rfl|(simp [Oa,Na] <;> rfl)|(simp [*,Oa,Na] <;> rfl),by first|exact Kd.HJ _ _ _ _ _|exact Kd.D2 _ _ _ _ _|exact Kd.V1 _ _ _ _ _|exact Kd.Z1 _ _ _ _ _|exact Kd.WE _ _ _ _ _,by repeat (first|(with_reducible first|exact HB.out|apply qa|apply ja|apply ta|refine ua ?_ Ta.out)|exact HB.out)⟩
def Dt (T:List (List Bool)) (n m:Nat):List (List Int):=(List.range m).map (fun i=>Wj (ee T i) n)
theorem KC (T:List (List Bool)) (n m:Nat):Dt T n (m + 1)=Dt T n m ++ [Wj (ee T m) n]:=by
 unfold Dt;rw [List.range_succ,List.map_append]
 rfl
theorem Tz (T:List (List Bool)) (n m:Nat):(Dt T n m).length=m:=by simp [Dt]
section
variable {n:Nat} {T:List (List Bool)} {R:List (List Int)}
theorem gE {i:Nat} (hT:T.length=n) (hr:(ee T i).length=n) (hi:i < n) (hn:n ≤ 1048576) (X:List (List Int)) (hX:X.length=i) (hK:Ev (fun k=>Qc.l0 k (X ++ [Wj (ee T i) n]) T ((i + 1:Nat):Int)) R) :
  ∀ (d u:Nat),u + d=n→Ev (fun k=>Qc.l1 k X T (i:Int) (Wj (ee T i) u) (u:Int)) R:=by
 intro d
 induction d with
 | zero =>
  intro u hu;obtain rfl:u=n:=by omega
  refine Ev.step (fun k=>by rw [Qc.l1]) ?_;rw [De hi (by omega)];exact Ev.neg (by omega) (Ev.pos (by omega) hK)
 | succ d ih =>
  intro u hu;have hl:=Iu (ee T i) u;have h:=ih (u + 1) (by omega);refine Ev.step (fun k=>by rw [Qc.l1]) ?_;rw [Wz];refine Ev.pos (by omega) (Ev.pos (by omega) (Ev.pos (by omega) (Ev.pos (by omega) (Ev.pos (by omega) ?_))));rw [Ix,De (show u < n by omega) (by omega)]
  by_cases hs:seen (ee T i) u=true
  ·rw [CE hs] at h;exact Ev.pos hs (Ev.pos (by omega) h)
  ·rw [DE hs] at h;exact Ev.neg hs h
theorem iE (hT:T.length=n) (hr:∀ i,i < n→(ee T i).length=n) (hn:n ≤ 1048576):∀ (d i:Nat),i + d=n→Ev (fun k=>Qc.l0 k (Dt T n i) T (i:Int)) (Dt T n n):=by
 intro d
 induction d with
 | zero =>
  intro i hi;obtain rfl:i=n:=by omega
  refine Ev.step (fun k=>by rw [Qc.l0]) ?_;exact Ev.neg (by omega) (Ev.now _)
 | succ d ih =>
  intro i hi;have h:=ih (i + 1) (by omega);rw [KC] at h;refine Ev.step (fun k=>by rw [Qc.l0]) ?_;exact Ev.pos (by omega) (gE hT (hr i (by omega)) (by omega) hn (Dt T n i) (Tz _ _ _) h n 0 (by omega))
theorem nE (hT:T.length=n) (hr:∀ i,i < n→(ee T i).length=n) (hn:n ≤ 1048576):∀ (d i:Nat),i + d=n→Ev (fun k=>ye.l0 k (Dt T n i) T (n:Int) (i:Int)) (Dt T n n):=by
 intro d
 induction d with
 | zero =>
  intro i hi;obtain rfl:i=n:=by omega
  refine Ev.step (fun k=>by rw [ye.l0]) ?_;exact Ev.neg (by omega) (Ev.now _)
 | succ d ih =>
  intro i hi;have h:=ih (i + 1) (by omega);have hl:=Tz T n i;have hs:=mD (ee T i) (by rw [hr i (by omega)];exact hn);rw [hr i (by omega)] at hs;rw [KC] at h;refine Ev.step (fun k=>by rw [ye.l0]) ?_;rw [Wz,De (show i < n by omega) (by omega)];exact Ev.pos (by omega) (Ev.pos (by omega) (Ev.pos (by omega) (Ev.bind hs (Ev.pos (by omega) h))))
end
theorem cS {l0:List Int} {p v:Int} {n:Nat} {bs:List Re} (hO:jo bs n):zh.f l0 p v (n:Int) bs=some (oo bs n):=by
 unfold zh.f;rw [if_pos ⟨by omega,by rw [Int.toNat_natCast];exact hO⟩,Int.toNat_natCast]
theorem CR {l0:List Int} {p v:Int} {n:Nat} {bs:List Re} (hO:jo bs n):jg.f l0 p v (n:Int) bs=some (oo bs n):=by
 unfold jg.f;rw [if_pos ⟨by omega,by rw [Int.toNat_natCast];exact hO⟩,Int.toNat_natCast]
theorem XT (l0:List Int) (p v s:Int) (bs:List Re) (h0:l0.length ≤ 1048576) (hl:bs.length ≤ 1048576) (ht:fe bs ≤ 1048576) :
  ∃ r:List (List Int),Ev (fun k=>Qc.f k l0 p v s bs) r∧Ev (fun k=>ye.f k l0 p v s bs) r∧r.length ≤ 1048576∧∀ x ∈ r,x.length ≤ 1048576:=by
 by_cases hok:ym l0 p v s bs=true
 ·have hh:=iA (wz hok).1;obtain ⟨n,rfl⟩:∃ n:Nat,s=(n:Int):=⟨s.toNat,by omega⟩;have hO:=dW hok ht;have hn:=hO.2.1;have hT:=IE bs n;have hr:∀ i,i < n→(ee (oo bs n) i).length=n:=fun i hi=>sQ hi
  refine ⟨Dt (oo bs n) n n,?_,?_,by rw [Tz];exact hn,fun x hx=>?_⟩
  ·unfold Qc.f;exact Ev.val (Ev.bind (qD h0 hl ht) (Ev.pos hok (Ev.bind (Ev.here (CR hO)) (iE hT hr hn n 0 (by omega)))))
  ·unfold ye.f;refine Ev.bind (nD h0 hl ht) (Ev.pos hok (Ev.bind (Ev.here (cS hO)) ?_));rw [hT];exact nE hT hr hn n 0 (by omega)
  ·unfold Dt at hx;obtain ⟨i,_,rfl⟩:=List.mem_map.1 hx;exact Nat.le_trans (Iu _ _) hn
 ·refine ⟨[],?_,?_,Nat.zero_le _,fun x hx=>by cases hx⟩
  ·unfold Qc.f;exact Ev.val (Ev.bind (qD h0 hl ht) (Ev.neg hok (Ev.now _)))
  ·unfold ye.f;exact Ev.bind (nD h0 hl ht) (Ev.neg hok (Ev.now _))
end Go.Proofs.Ytkigbdceceeenaa.P
end
section
namespace Go.Proofs.Ytkigbdceceeenaa.P
open Go.RowKit Go.Proofs.Pa.Ub Go.Proofs.Pa.Sd Go.Proofs.Pa.Xe
set_option linter.unusedVariables false
set_option linter.unusedSimpArgs false
attribute [local go_sem] Jh Bi tj nk wh uh Ci Ai
def ie.l0:Nat→List Int→Int→Int→Option (Int × List Int)
 | 0,_,_,_=>none
 | k + 1,x0,x1,x5=>if x5 < (x0.length:Int) then (if 0 ≤ x5 then (ie.l0 k (x0.set (x5:Int).toNat x1) (wrap64 (x1 + 1)) (wrap64 (x5 + 1))) else (none)) else (some (x1,x0))
def ie.f (k:Nat) (l0:List Int) (a1:Int):Option (Int × List Int):=ie.l0 k l0 a1 0
theorem ie.calls (k:Nat) (Ki:Nat→Prop) (Lf:Value) (l0:List Int) (a1:Int) (r1:Int) (r2:List Int) (w0 w:World) (hB:Below w0.heap.size w0 w) (Vj:Kd.R (Kd.int .i64) 3 w w0.heap.size Ki Lf l0) (h:ie.f k l0 a1=some (r1,r2)) :
  Calls Try.prog 19 #[Lf,.int .i64 a1] w fun e w'=>e = .returned (.int .i64 r1)∧Kd.R (Kd.int .i64) 3 w' w0.heap.size (fun k_=>(Ki k_ ∨ w.heap.size ≤ k_)) Lf r2∧Below w0.heap.size w0 w'∧Kept w w' (fun k_=>Ki k_):=by
 have bF:=ga.mk (show Kd.R (Kd.int .i64) 3 w w0.heap.size (fun k_=>(Ki k_ ∨ w.heap.size ≤ k_)) Lf l0 from Kd.Bd Vj (fun k_ hk=>(.inl hk)));have HK:=ga.mk (Kept.refl w (fun k_=>Ki k_));have HW0:=ga.mk hB.size;have HB:=ga.mk hB;clear hB;have H:(ie.l0 k l0 a1 0)=some (r1,r2):=h;clear h;have H':=ga.mk H;clear H;go_enter Try.func19,Try.ntmps19;go_wp2
 go_loopg [1,5] k (fun kq v1 v5 w'=>∃ (Ge:List Int) (qe:Int) (Ga:Int),v1 = .int .i64 qe∧v5 = .int .i64 Ga∧ga (ie.l0 kq Ge qe Ga=some (r1,r2))∧ga (kq ≤ k)∧ga (Kd.R (Kd.int .i64) 3 w' w0.heap.size (fun k_=>(Ki k_ ∨ w.heap.size ≤ k_)) Lf Ge)∧ga (Kept w w' (fun k_=>Ki k_))∧ga (Below w0.heap.size w0 w'))
 case atStart=>exact ⟨(l0),(a1),(0),(by first|rfl|(simp;done)|(simp [*];done)),(by first|rfl|(simp;done)|(simp [*];done)),H',⟨Nat.le_refl _⟩,⟨by (with_reducible repeat (first|apply Kd.Ab|apply Kd.zb|apply Kd.Pb));exact bF.out⟩,⟨by repeat (first|(with_reducible first|exact HK.out|apply Kept.alloc|apply Kept.drewN|apply Kept.drew)|exact HK.out)⟩,⟨by repeat (first|(with_reducible first|exact HB.out|apply qa|apply ja|apply ta)|exact HB.out)⟩⟩
 case round =>
  clear H'
  try clear c1
  try clear p2
  (try clear HA);(try clear Xf);(try clear Me);(try clear HK);(try clear HB);obtain ⟨Ge,qe,Ga,rfl,rfl,HA,Xf,Me,HK,HB⟩:=hrel;cases gk with
  | zero=>exact absurd HA.out (by simp [ie.l0])
  | succ k1 =>
   have H:=HA.out;clear HA;simp only [ie.l0] at H
   by_cases c3:Ga < (Ge.length:Int)
   ·rw [if_pos c3] at H;have Vg:decide (Ga < (Ge.length:Int))=true:=decide_eq_true c3;clear c3
    by_cases c4:0 ≤ Ga
    ·rw [if_pos c4] at H;have cj:decide (0 ≤ Ga)=true:=decide_eq_true c4;clear c4;obtain ⟨Qf,Uf⟩:∃ y_:List Int,y_=(Ge.set (Ga:Int).toNat qe):=⟨_,rfl⟩;replace H:(ie.l0 k1 Qf (wrap64 (qe + 1)) (wrap64 (Ga + 1)))=some (r1,r2):=by first|(rw [Uf];with_reducible exact H)|(have Md:=(Option.bind_some _ _).symm.trans H;rw [Uf];with_reducible exact Md)|(have Md:=(Option.bind_some _ _).symm.trans H;with_reducible exact Md)|with_reducible exact H|(rw [Uf];exact H)|exact H
     have Qk:=ga.mk Uf;clear Uf;have H':=ga.mk H;clear H;obtain ⟨Ao6,co6,eo6⟩:=Kd.Zd Me.out;subst eo6;have p5:0 ≤ (Ga:Int):=Ua;have q5:(Ga:Int) < ((Ge.length:Int):Int):=Ua;obtain ⟨ig,co5,O6,gb5,gl5,cl5,E3⟩:=Kd.Cm Me.out (by omega);(first|cases O6|(injection O6 with Zk ZA bB;(first|subst Zk|(injection Zk with Zk;subst Zk));subst bB;clear ZA));have GZ:=ga.mk gb5;have GG5:=ga.mk E3;clear gb5 gl5 E3;have lag:=ga.mk (show (Ki ig ∨ w.heap.size ≤ ig) from (Me.out.1 _ rfl));obtain ⟨baa,kac⟩:=Kd.zk 0 Me.out (Ga:Int) p5 q5;replace p5:=eq_true p5;replace q5:=eq_true q5;have HP7:=Kd.Hp Me.out (Ga:Int) qe;go_wp2_with (first|((with_reducible refine Df (t:=3) (p:=15) rfl ?_);refine Oe (t:=3) (p:=15) (v:=?aat) (w1:=(wr.setCell ⟨ig,(Ga:Int).toNat,none⟩ (.int .i64 qe))) ?hg ?ho ?hn ?hr ?_;(case ho=>rfl);(case hg=>rfl);(case hn=>rfl);(case hr=>first|(go_simp;done)|(go_simp;rfl));intro w8 hw;have hg:wr.grownBy w8 (some ig):=(by rw [hw];exact HP7.2);have Mn:Kd.R (Kd.int .i64) 3 w8 w0.heap.size (fun k_=>(Ki k_ ∨ w.heap.size ≤ k_)) (.slice (some ⟨ig,0,none⟩) Ge.length co6) Qf:=(by rw [hw,Qk.out];exact HP7.1);clear HP7;have yb:=ga.mk (Mn);have Ib:=ga.mk ((by rw [hw];exact ua (HB.out) GZ.out:Below w0.heap.size w0 w8));have Nb:=ga.mk (Kept.Ih (S:=(fun k_=>Ki k_)) hg (by repeat (first|(with_reducible first|exact HK.out|apply Kept.alloc|apply Kept.drewN|apply Kept.drew)|exact HK.out)) (fun k_ e_=>(Me.out.1 k_ e_)));clear Me HB HK;have Me:=yb;have HB:=Ib;have HK:=Nb;clear yb Ib Nb hg hw Mn))
     go_roundg k1
     case measure=>have:=Xf.out;omega
     case rel=>exact ⟨(Qf),(wrap64 (qe + 1)),(wrap64 (Ga + 1)),(by first|rfl|(simp;done)|(simp [*];done)),(by first|rfl|(simp;done)|(simp [*];done)),H',⟨by have:=Xf.out;omega⟩,⟨by (with_reducible repeat (first|apply Kd.Ab|apply Kd.zb|apply Kd.Pb));exact Me.out⟩,⟨by repeat (first|(with_reducible first|exact HK.out|apply Kept.alloc|apply Kept.drewN|apply Kept.drew)|exact HK.out)⟩,⟨by repeat (first|(with_reducible first|exact HB.out|apply qa|apply ja|apply ta)|exact HB.out)⟩⟩
    ·rw [if_neg c4] at H;exact absurd H (by simp)
   ·rw [if_neg c3] at H;have Vg:decide (Ga < (Ge.length:Int))=false:=decide_eq_false c3;clear c3;simp only [Option.some.injEq,Prod.mk.injEq] at H;obtain ⟨rfl,rfl⟩:=H;obtain ⟨Ao9,co9,eo9⟩:=Kd.Zd Me.out;subst eo9;go_wp2;go_ret;exact ⟨by first|rfl|(simp [Oa,Na] <;> rfl)|(simp [*,Oa,Na] <;> rfl),by (with_reducible repeat (first|apply Kd.Ab|apply Kd.zb|apply Kd.Pb));exact Me.out,by repeat (first|(with_reducible first|exact HB.out|apply qa|apply ja|apply ta)|exact HB.out),by repeat (first|(with_reducible first|exact HK.out|apply Kept.alloc|apply Kept.drewN|apply Kept.drew)|exact HK.out)⟩
def Zc.l0:Nat→Int→ByteArray→Option (ByteArray)
 | 0,_,_=>none
 | k + 1,x0,x3=>if x0 > 0 then ((some (([(wrap64 (48 + (Int.tmod x0 10))) % 256]:List Int):List Int)).bind fun Qf=>(if (strOfNums Qf).size + x3.size ≤ 9223372036854775807 then (Zc.l0 k (wrap64 (Int.tdiv x0 10)) ((strOfNums Qf) ++ x3)) else (none))) else (if 1 + x3.size ≤ 9223372036854775807 then (some ((⟨#[109]⟩:ByteArray) ++ x3)) else (none))
def Zc.f (k:Nat) (a0:Int):Option (ByteArray):=if a0 ≤ 0 then (some (⟨#[109,48]⟩:ByteArray)) else (Zc.l0 k a0 (⟨#[]⟩:ByteArray))
theorem Zc.calls (k:Nat) (a0:Int) (r:ByteArray) (w:World) (h:Zc.f k a0=some r) :
  Calls Try.prog 106 #[.int .i64 a0] w fun e w'=>e = .returned (.string r)∧Below w.heap.size w w':=by
 have HB:=ga.mk (Below.refl w.heap.size w);have H:(if a0 ≤ 0 then (some (⟨#[109,48]⟩:ByteArray)) else (Zc.l0 k a0 (⟨#[]⟩:ByteArray)))=some r:=h;clear h
 by_cases c2:a0 ≤ 0
 ·rw [if_pos c2] at H;have vw:decide (a0 ≤ 0)=true:=decide_eq_true c2;clear c2;obtain rfl:=Option.some.inj H;go_enter Try.func106,Try.ntmps106;go_wp2;go_ret;exact ⟨by first|rfl|(simp [Oa,Na] <;> rfl)|(simp [*,Oa,Na] <;> rfl),by repeat (first|(with_reducible first|exact HB.out|apply qa|apply ja|apply ta)|exact HB.out)⟩
 ·rw [if_neg c2] at H;have vw:decide (a0 ≤ 0)=false:=decide_eq_false c2;clear c2;have H':=ga.mk H;clear H;go_enter Try.func106,Try.ntmps106;go_wp2
  go_loopg [0,3] k (fun kq v0 v3 w'=>∃ (Ge:Int) (od:ByteArray),v0 = .int .i64 Ge∧v3 = .string od∧ga (Zc.l0 kq Ge od=some r)∧ga (kq ≤ k)∧ga (Below w.heap.size w w'))
  case atStart=>exact ⟨(a0),((⟨#[]⟩:ByteArray)),(by first|rfl|(simp;done)|(simp [*];done)),(by first|rfl|(simp;done)|(simp [*];done)),H',⟨Nat.le_refl _⟩,⟨by repeat (first|(with_reducible first|exact HB.out|apply qa|apply ja|apply ta)|exact HB.out)⟩⟩
  case round =>
   clear H'
   try clear c1
   try clear c2
   try clear vw
   try clear p2
   (try clear HA);(try clear Xf);(try clear HB);obtain ⟨Ge,od,rfl,rfl,HA,Xf,HB⟩:=hrel;cases gk with
   | zero=>exact absurd HA.out (by simp [Zc.l0])
   | succ k1 =>
    have H:=HA.out;clear HA;simp only [Zc.l0] at H
    by_cases c3:Ge > 0
    ·rw [if_pos c3] at H;have Vg:decide (0 < Ge)=true:=decide_eq_true c3;clear c3;obtain ⟨Qf,Uf⟩:∃ y_:List Int,y_=(([(wrap64 (48 + (Int.tmod Ge 10))) % 256]:List Int)):=⟨_,rfl⟩;replace H:(if (strOfNums Qf).size + od.size ≤ 9223372036854775807 then (Zc.l0 k1 (wrap64 (Int.tdiv Ge 10)) ((strOfNums Qf) ++ od)) else (none))=some r:=by first|(rw [Uf];with_reducible exact H)|(have Md:=(Option.bind_some _ _).symm.trans H;rw [Uf];with_reducible exact Md)|(have Md:=(Option.bind_some _ _).symm.trans H;with_reducible exact Md)|with_reducible exact H|(rw [Uf];exact H)|exact H
     have Qk:=ga.mk Uf;clear Uf
     by_cases c4:(strOfNums Qf).size + od.size ≤ 9223372036854775807
     ·rw [if_pos c4] at H;have cj:=eq_true c4;have VY:decide ((strOfNums Qf).size + od.size ≤ 9223372036854775807)=true:=decide_eq_true c4
      try have Daz:(9223372036854775807 < (strOfNums Qf).size + od.size)=False:=eq_false (Nat.not_lt.2 c4)
      have H':=ga.mk H;clear H;go_wp2_with (first|((with_reducible refine qb (N:=12) rfl ?_);refine Kd.ej (Kd.int .u8) _ 5 ?hg (N:=12) ?hd (xs:=([(wrap64 (48 + (Int.tmod Ge 10))) % 256]:List Int)) (inner:=[.int .u8 ((wrap64 (48 + (Int.tmod Ge 10))) % 256)]) (ok:=fun _=>True) (Tg:=fun _=>True) ?hr ?hp (fun _ hk=>hk) trivial (Below.refl _ _) (Nat.le_refl _) (by simp) ?_;(case hd=>rfl);(case hg=>rfl);(case hr=>first|(go_simp;done)|(go_simp;rfl));(case hp=>exact (xd.one (show Kd.M (Kd.int .u8) _ _ _ ((wrap64 (48 + (Int.tmod Ge 10))) % 256) [.int .u8 ((wrap64 (48 + (Int.tmod Ge 10))) % 256)] from rfl) (xd.none _ _)));intro CI w5 XI hb Al He;clear Al He;(first|rw [← Qk.out] at XI|(simp only [Int.reduceToNat] at XI;rw [← Qk.out] at XI));have yb:=ga.mk (Kd.we XI (Ia (by repeat (first|(with_reducible first|exact HB.out|apply qa|apply ja|apply ta)|exact HB.out))));have Ib:=ga.mk (Qa (by repeat (first|(with_reducible first|exact HB.out|apply qa|apply ja|apply ta)|exact HB.out)) hb);clear HB;have Cr:=yb;have HB:=Ib;clear yb Ib hb XI;have Say:=AK (P:=Try.prog) Try.underlying140 Try.underlying5 Try.underlying9 (Kd.PC Cr.out)))
      go_roundg k1
      case measure=>have:=Xf.out;omega
      case rel=>exact ⟨(wrap64 (Int.tdiv Ge 10)),((strOfNums Qf) ++ od),(by first|rfl|(simp;done)|(simp [*];done)),(by first|rfl|(simp;done)|(simp [*];done)),H',⟨by have:=Xf.out;omega⟩,⟨by repeat (first|(with_reducible first|exact HB.out|apply qa|apply ja|apply ta)|exact HB.out)⟩⟩
     ·rw [if_neg c4] at H;exact absurd H (by simp)
    ·rw [if_neg c3] at H;have Vg:decide (0 < Ge)=false:=decide_eq_false c3;clear c3
     by_cases c8:1 + od.size ≤ 9223372036854775807
     ·rw [if_pos c8] at H;have Uq:=eq_true c8;have CJ:decide (1 + od.size ≤ 9223372036854775807)=true:=decide_eq_true c8
      try have xae:(9223372036854775807 < 1 + od.size)=False:=eq_false (Nat.not_lt.2 c8)
      obtain rfl:=Option.some.inj H;go_wp2;go_ret;exact ⟨by first|rfl|(simp [Oa,Na] <;> rfl)|(simp [*,Oa,Na] <;> rfl),by repeat (first|(with_reducible first|exact HB.out|apply qa|apply ja|apply ta)|exact HB.out)⟩
     ·rw [if_neg c8] at H;exact absurd H (by simp)
end Go.Proofs.Ytkigbdceceeenaa.P
end
