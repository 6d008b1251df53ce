import Derived.Shelf.Abstract
import Derived.Outline
import Derived.RegionTactic
import Derived.StillTailTactics
import Derived.Test.YtkigbdceceeenaaQSpilled1
import Derived.Test.YtkigbdceceeenaaQSpilled8
import Derived.Test.YtkigbdceceeenaaQSpilled9
import Derived.Test.YtkigbdceceeenaaQSpilled7
import Derived.Test.YtkigbdceceeenaaQSpilled4
import Derived.Test.YtkigbdceceeenaaQSpilled3
import Derived.Test.YtkigbdceceeenaaQSpilled2
set_option maxHeartbeats 16000000
set_option maxRecDepth 100000
section
namespace Go.Proofs.Ytkigbdceceeenaa.P
open Go.RowKit Go.Proofs.Ma.Wb Go.Proofs.Ma.Jd Go.Proofs.Ma.Fe
set_option linter.unusedVariables false
set_option linter.unusedSimpArgs false
theorem TV (P:Program) (w:World) (a:Addr) (m:Mode) (fn:Fn) (x y:Array Value):(store a (.func fn x y) m).run P w=stored P w a (.func fn x y) m:=run_store P w a _ m rfl
attribute [local go_sem] TV
noncomputable def Ej.f (Qa:List Int) (Ja:Int) (Ga:Int) (Ia:Int) (Aa:List (He)):Option (List (List Bool)):=open Classical in if 0 ≤ Ia∧Lm Aa Ia.toNat then some (kn Aa Ia.toNat) else none
theorem Hv {N:Nat} {w w5 w9:World} {S:Nat→Prop} (h:Below N w w5) (hN:N ≤ w5.heap.size) (hk:Kept w5 w9 S) (hS:∀ k,S k→N ≤ k) (hb:Below 0 w5 w9):Below N w w9 :=
 h.trans ⟨hb.os,hb.tape,hb.output,hk.1,fun k h1=>hk.2 k (by omega) (fun e=>by have:=hS k e;omega)⟩
theorem PG {s:List Bool} {a:Nat}:(a:Int) ∈ jn s s.length ↔ seen s a=true:=by
 unfold jn;rw [List.mem_map]
 constructor
 ·rintro ⟨u,hu,he⟩;obtain rfl:u=a:=by omega
  exact (List.mem_filter.1 hu).2
 ·intro h;exact ⟨a,List.mem_filter.2 ⟨List.mem_range.2 (Em h),h⟩,rfl⟩
theorem AU {s:List Bool} {z:Int} (h:z ∈ jn s s.length):∃ a:Nat,z=(a:Int)∧a < s.length:=by
 unfold jn at h;obtain ⟨u,hu,he⟩:=List.mem_map.1 h;exact ⟨u,he.symm,List.mem_range.1 (List.mem_filter.1 hu).1⟩
theorem FH {xs:List Int} {A:Option Addr} {W:World} {i:Nat} (hC:Kd.C (Kd.int .i64) W A xs.length xs) (hi:i < xs.length):∃ ad:Addr,A=some ad∧W.cell? (ad.add i)=some (.int .i64 xs[i]):=by
 obtain ⟨ad,e1,hx⟩:=Kd.Rf hC (i:Int) (by omega) (by omega);rw [Int.toNat_natCast,Oo hi] at hx;exact ⟨ad,e1,hx⟩
theorem Ej.calls (Wa:Option Addr) (Xa:Nat) (Qa:List Int) (Ja:Int) (Ga:Int) (Ia:Int) (Jb:Option Addr) (yb:Nat) (Aa:List (He)) (r:List (List Bool)) (w:World) (Od:Kd.C (Kd.int .i64) w Wa Qa.length Qa) (Md:Qa.length ≤ Xa) (Re:Kd.C iq w Jb Aa.length Aa) (Qe:Aa.length ≤ yb) (h:Ej.f Qa Ja Ga Ia Aa=some r) :
  Calls Try.prog 59 #[.agg #[.slice Wa Qa.length Xa,.int .i64 Ja,.int .i64 Ga,.int .i64 Ia,.slice Jb Aa.length yb]] w fun e w'=>∃ wm:Value,e = .returned (wm)∧Kd.S (Kd.slice 4 Kd.bool) 60 w' w.heap.size (fun _=>True) wm r∧Below w.heap.size w w':=by
 unfold Ej.f at h
 by_cases hf:0 ≤ Ia∧Lm Aa Ia.toNat
 case neg=>rw [if_neg hf] at h;cases h
 rw [if_pos hf] at h;obtain rfl:=Option.some.inj h;obtain ⟨hn0,hO⟩:=hf;obtain ⟨n,rfl⟩:∃ n:Nat,Ia=(n:Int):=⟨Ia.toNat,(Int.toNat_of_nonneg hn0).symm⟩;rw [Int.toNat_natCast] at hO ⊢;clear h hn0;have HO:=ga.mk hO;have hn:n ≤ 1048576:=hO.2.1;have hm0:0 < Aa.length:=hO.1.1;have hm1:Aa.length ≤ 1048576:=hO.1.2.1;clear hO;have Io:=ga.mk Od;have gH:=ga.mk Re;have gU:=ga.mk Md;have wN:=ga.mk Qe;obtain ⟨W1,zg⟩:∃ W1,W1=(((w.alloc (.cells #[.slice Wa Qa.length Xa,.int .i64 Ja,.int .i64 Ga,.int .i64 (n:Int),.slice Jb Aa.length yb] 30 (0,0))).alloc (.cells #[] 60 (0,0))).alloc (.cells #[.slice (some ⟨w.heap.size + 1,0,none⟩) 0 0] 55 (0,0))):=⟨_,rfl⟩;have HW:=ga.mk zg
 have HAV:=ga.mk (show Ur w (sy Wa Qa.length Xa Ja Ga n Jb Aa.length yb) (fun k=>k=w.heap.size + 1) (.slice (some ⟨w.heap.size + 1,0,none⟩) 0 0) (.slice none 0 0) [] [] W1∧W1.heap[w.heap.size + 2]? = some (.cells #[.slice (some ⟨w.heap.size + 1,0,none⟩) 0 0] 55 (0,0)) from by
  have z1:(w.alloc (.cells #[.slice Wa Qa.length Xa,.int .i64 Ja,.int .i64 Ga,.int .i64 (n:Int),.slice Jb Aa.length yb] 30 (0,0))).heap.size=w.heap.size + 1:=by simp
  have b1:=Mj w (.cells #[.slice Wa Qa.length Xa,.int .i64 Ja,.int .i64 Ga,.int .i64 (n:Int),.slice Jb Aa.length yb] 30 (0,0));have e1:=qa (Below.refl w.heap.size w) (.cells #[.slice Wa Qa.length Xa,.int .i64 Ja,.int .i64 Ga,.int .i64 (n:Int),.slice Jb Aa.length yb] 30 (0,0));rw [zg];generalize w.alloc (.cells #[.slice Wa Qa.length Xa,.int .i64 Ja,.int .i64 Ga,.int .i64 (n:Int),.slice Jb Aa.length yb] 30 (0,0))=u1 at z1 b1 e1 ⊢;have z2:(u1.alloc (.cells #[] 60 (0,0))).heap.size=w.heap.size + 2:=by simp [z1]
  have s1:=iB (Kd.slice 4 Kd.bool) 60 u1 w.heap.size (by omega);have e2:=qa (Below.refl u1.heap.size u1) (.cells #[] 60 (0,0));rw [z1] at s1;generalize u1.alloc (.cells #[] 60 (0,0))=u2 at z2 s1 e2 ⊢;have b2:=Mj u2 (.cells #[.slice (some ⟨w.heap.size + 1,0,none⟩) 0 0] 55 (0,0));have e3:=qa (Below.refl u2.heap.size u2) (.cells #[.slice (some ⟨w.heap.size + 1,0,none⟩) 0 0] 55 (0,0));have z3:(u2.alloc (.cells #[.slice (some ⟨w.heap.size + 1,0,none⟩) 0 0] 55 (0,0))).heap.size=w.heap.size + 3:=by simp [z2]
  rw [z2] at b2
  exact ⟨⟨Na (Na e1 e2) e3,Va (Va b1 e2) e3,Kd.lg s1 e3,Kd.OM _ _ _ _ _,fun k hk=>⟨by omega,by omega⟩⟩,b2⟩)
 have lad:=ga.mk (show ¬ (fun k=>k=w.heap.size + 1) (w.heap.size + 2) from fun e=>by have e:w.heap.size + 2=w.heap.size + 1:=e;omega);clear zg Od Re Md Qe;go_enter Try.func59,Try.ntmps59
 go_upto_region 2 with (fail)
 rw [← HW.out];clear HW;have HA:=ga.mk HAV.out.1;have HV:=ga.mk HAV.out.2;clear HAV;have HQB:=ga.mk (show w.heap.size < w.heap.size + 2 from by omega);generalize w.heap.size + 2=q at HV lad HQB ⊢;generalize (Value.slice (some ⟨w.heap.size + 1,0,none⟩) 0 0)=v0 at HA HV ⊢;have br:=PC HA.out;go_wp2;clear br
 go_loopg [14] n (fun gg v14 wr=>∃ (j:Nat) (PB:Nat→Prop) (v:Value),v14 = .int .i64 j∧j ≤ n∧n - j ≤ gg∧ga (Ur w (sy Wa Qa.length Xa Ja Ga n Jb Aa.length yb) PB v (.slice none 0 0) (List.replicate j (List.replicate n false)) [] wr)∧ga (wr.heap[q]? = some (.cells #[v] 55 (0,0)))∧ga (¬ PB q))
 case atStart=>exact ⟨0,_,_,rfl,Nat.zero_le _,by omega,HA,HV,lad⟩
 case round =>
  clear HA HV lad;(try clear PB);(try clear HA);(try clear HV);(try clear HPQ);obtain ⟨j,PB,v,rfl,hj,xV,HA,HV,HPQ⟩:=hrel
  by_cases hlt:j < n
  ·have Pt:decide ((j:Int) < (n:Int))=true:=decide_eq_true (by omega);have R9:(0:Int) ≤ (n:Int):=by omega
   have R_:=ga.mk (show ((n:Int)).toNat * 1 ≤ 281474976710656 from by omega);have HLL:=ga.mk (show ((List.replicate j (List.replicate n false)).length + 1) * 24 ≤ 140737488355328 from by rw [List.length_replicate];omega)
   go_upto_region 4 with (fail)
   have NZ:=ga.mk (HA.out.below (Po (Below.refl wr.heap.size wr)));have HVd:=ga.mk (show wr.drew.heap[q]? = some (.cells #[v] 55 (0,0)) from HV.out);clear HA HV;refine Mo (n:=7) (S:=fun w'=>w'.cell? ⟨q,0,none⟩=some v∧w'.cell? ⟨w.heap.size,3,none⟩=some (.int .i64 (n:Int))) (ds:=[6]) #[false,false,false,false,false,false,false] (by kernel_rfl) rfl rfl ⟨(ia HVd.out 0).trans rfl,PC NZ.out⟩ (fun hHeld=>?_);generalize wr.drew=wd at NZ HVd hHeld ⊢;refine Ud (i:=1) (N:=some 17) (v:=?_) (a':=?_) #[false,true,false,false,false,false,false] rfl rfl (by kernel_rfl) (fun _ _ _ h=>h) (Or.inl ⟨by rfl,?_⟩) ?_ ?_;rotate_left
   ·intro w';go_simp;with_reducible rfl
   rotate_left
   ·simp only [Act.put,List.setIfInBounds_toArray,List.set_cons_zero,List.set_cons_succ,qc,tc]
    rfl
   refine Fi (i:=0) (N:=some 16) (v:=?_) (a':=?_) #[true,true,false,false,false,false,false] rfl rfl (by kernel_rfl) (fun _ _ _ h=>h) (Or.inl ⟨by rfl,?_⟩) hHeld ?_ ?_;rotate_left
   ·rintro w' ⟨s0,s1⟩;go_simp;with_reducible rfl
   rotate_left
   ·simp only [Act.put,List.setIfInBounds_toArray,List.set_cons_zero,List.set_cons_succ,qc,tc]
    rfl
   refine Fi (i:=2) (N:=some 18) (v:=?_) (a':=?_) #[true,true,true,false,false,false,false] rfl rfl (by kernel_rfl) (fun _ _ _ h=>h) (Or.inl ⟨by rfl,?_⟩) hHeld ?_ ?_;rotate_left
   ·rintro w' ⟨s0,s1⟩;go_simp;with_reducible rfl
   rotate_left
   ·simp only [Act.put,List.setIfInBounds_toArray,List.set_cons_zero,List.set_cons_succ,qc,tc]
    rfl
   refine Qy (i:=3) (N:=some 19) #[true,true,true,true,false,false,false] rfl rfl (by kernel_rfl) (by decide) (fun K hK=>?_);refine Kd.QM Kd.bool (w0:=wd) wd.heap.size 4 (by rfl) (N:=19) rfl 60 _ _ rfl (n:Int) rfl rfl Try.underlying60 (.bool false) 1 Qv rfl (by decide) (by omega) false (ok:=fun k=>wd.heap.size ≤ k) (Di:=fun k=>wd.heap.size ≤ k) rfl (fun _ hk=>hk) (Nat.le_refl _) R9 R_.out (Below.refl _ _) (Nat.le_refl _) ?_;intro v19 Ut ho hb hg hat;rw [Int.toNat_natCast] at ho;obtain ⟨A19,Ll,Wae⟩:=Kd.Bd ho;rw [List.length_replicate] at Wae;subst Wae;have aay:=ga.mk (YP ho NZ.out.bl.size);have Cw:=ga.mk hb;have mV:=ga.mk (Na NZ.out.bl hb);have Rak:=ga.mk (Va HVd.out hb);clear ho hb hg hat;refine hK.out _ _ ⟨(ia Rak.out 0).trans rfl,PC (NZ.out.below Cw.out)⟩ (fun hHeld=>?_);clear hK K;refine Zq (a':=?_) ?_ ?_;rotate_left
   ·show Act.put _ (some 19) _=_
    simp only [Act.put,List.setIfInBounds_toArray,List.set_cons_zero,List.set_cons_succ,qc,tc]
    rfl
   refine Qy (i:=4) (N:=some 20) #[true,true,true,true,true,false,false] rfl rfl (by kernel_rfl) (by decide) (fun K hK=>?_);refine yaa (w1:=?_) (v:=?_) (by rfl) rfl ?_ ?_;rotate_left 2
   ·go_simp
    constructor
    ·rfl
    ·rfl
   refine hK.out _ _ ⟨(ia (Va Rak.out (qa (Below.refl _ _) _)) 0).trans rfl,PC ((NZ.out.below Cw.out).below (qa (Below.refl _ _) _))⟩ (fun hHeld=>?_);clear hK K;refine Zq (a':=?_) ?_ ?_;rotate_left
   ·show Act.put _ (some 20) _=_
    simp only [Act.put,List.setIfInBounds_toArray,List.set_cons_zero,List.set_cons_succ,qc,tc]
    rfl
   refine Qy (i:=5) (N:=some 21) #[true,true,true,true,true,true,false] rfl rfl (by kernel_rfl) (by decide) (fun K hK=>?_);refine Kd.BG (Kd.slice 4 Kd.bool) (w0:=w) w.heap.size (by rfl) (.tmp 16) (.tmp 20) 55 60 (.slice none 0 0) 24 rfl Try.underlying55 cF rfl (by decide) (by omega) v (List.replicate j (List.replicate n false)) (List.replicate n false) [.slice A19 n Ll] (fun k=>PB k ∨ wd.heap.size ≤ k) (fun k=>wd.heap.size ≤ k) rfl rfl aay.out NZ.out.neX (NZ.out.frX Cw.out) (NZ.out.okX Cw.out) mV.out mV.out.size HLL.out ?_;intro v21 Vq hs hb hg hat;obtain ⟨zP,Ir,Vae⟩:=Kd.Bi hs;rw [← List.replicate_succ',List.length_replicate] at Vae;subst Vae;have sV:=ga.mk (NZ.out.Hac Cw.out hs hb hg);have I_:=ga.mk (show ¬ (PB q ∨ (wd.heap.size ≤ q∧q < Vq.heap.size)) from fun e=>e.elim HPQ.out (fun e=>by have:=Pc HVd.out;omega));have R7:=ga.mk (xd (Va HVd.out Cw.out) hg (fun e=>HPQ.out ((Kd.PM NZ.out.x).1 q e.symm)));clear hs hb hg hat;refine hK.out _ _ ⟨(ia R7.out 0).trans rfl,PC sV.out⟩ (fun hHeld=>?_);clear hK K;refine Zq (a':=?_) ?_ ?_;rotate_left
   ·show Act.put _ (some 21) _=_
    simp only [Act.put,List.setIfInBounds_toArray,List.set_cons_zero,List.set_cons_succ,qc,tc]
    rfl
   refine Rae (i:=6) (N:=none) #[true,true,true,true,true,true,true] rfl rfl (by kernel_rfl) (by decide) (fun K hK=>?_);have hfz:=aa R7.out 0;have hcz:Vq.cell? ⟨q,0,none⟩=some v:=(ia R7.out 0).trans rfl;have Jax:=ga.mk (show (Vq.setCell ⟨q,0,none⟩ (.slice zP (j + 1) Ir)).heap[q]? = some (.cells #[.slice zP (j + 1) Ir] 55 (0,0)) from rK R7.out 0 _);have Gad:=ga.mk ((Kept.refl Vq (fun k=>k=q)).setCell (p:=⟨q,0,none⟩) (Or.inl rfl) (.slice zP (j + 1) Ir));have F8:=ga.mk (show Below w.heap.size w (Vq.setCell ⟨q,0,none⟩ (.slice zP (j + 1) Ir)) from sV.out.bl.setCell (Nat.le_of_lt HQB.out) _);refine Kae (w1:=?_) (by rfl) rfl ?_ ?_;rotate_left
   ·go_simp
    rfl
   refine hK.out _ _ ?_;clear hK K;refine bu (by kernel_rfl) ?_;clear hHeld
   have yay:=ga.mk (show Ur w (sy Wa Qa.length Xa Ja Ga n Jb Aa.length yb) (fun k=>PB k ∨ (wd.heap.size ≤ k∧k < Vq.heap.size)) (.slice zP (j + 1) Ir) (.slice none 0 0) (List.replicate (j + 1) (List.replicate n false)) [] (Vq.setCell ⟨q,0,none⟩ (.slice zP (j + 1) Ir)) from by
    have hx:=sV.out.x;rw [← List.replicate_succ'] at hx
    exact ⟨F8.out,Ve sV.out.hx Gad.out (fun e=>by have:=HQB.out;omega),Kd.xC hx Gad.out (fun k hk e=>I_.out (e ▸ hk)),Kd.OM _ _ _ _ _,fun k hk=>⟨(sV.out.pb k hk).1,Nat.lt_of_lt_of_le (sV.out.pb k hk).2 Gad.out.1⟩⟩)
   go_wp2
   go_roundg (n - (j + 1))
   case measure=>omega
   case rel=>exact ⟨j + 1,_,_,by go_num,by omega,by omega,yay,Jax,I_⟩
  ·have Pt:decide ((j:Int) < (n:Int))=false:=decide_eq_false (by omega);obtain rfl:j=n:=by omega
   have HT:=ga.mk (show ∃ T,Kd.S (Kd.slice 4 Kd.bool) 60 wr w.heap.size PB v T∧NM j T aQ from ⟨_,HA.out.x,NM.start j⟩);have HXg:=ga.mk HA.out.hx;have HBw:=ga.mk HA.out.bl;have XY:=ga.mk HA.out.pb;clear HA xV hj
   go_upto_region 7 with (fail)
   have hb5:=qa (Below.refl wr.heap.size wr) (.cells #[.func (.func 85) #[] #[.pointer (some ⟨q,0,none⟩)]] 101 (0,0));have hv5:=Mj wr (.cells #[.func (.func 85) #[] #[.pointer (some ⟨q,0,none⟩)]] 101 (0,0));generalize wr.alloc (.cells #[.func (.func 85) #[] #[.pointer (some ⟨q,0,none⟩)]] 101 (0,0))=w5 at hb5 hv5 ⊢
   have P0:=ga.mk (show tN w.heap.size j q wr.heap.size PB v aQ w5 from by
    obtain ⟨T,h1,h2⟩:=HT.out
    exact ⟨hv5,Va HV.out hb5,fun e=>by have:=(XY.out _ e).2;omega,HPQ.out,T,Kd.lg h1 hb5,h2⟩)
   have HX5:=ga.mk (Va HXg.out hb5);have qL:=ga.mk (Na HBw.out hb5);have HP5:=ga.mk (show ∀ k,PB k→w.heap.size < k∧k < w5.heap.size from fun k hk=>⟨(XY.out k hk).1,Nat.lt_of_lt_of_le (XY.out k hk).2 hb5.size⟩);clear hb5 hv5 HT HXg HBw XY HV;generalize wr.heap.size=qf at P0 ⊢;have hx0:w5.cell? ⟨w.heap.size,0,none⟩=some (.slice Wa Qa.length Xa):=(ia HX5.out 0).trans rfl;have hx1:w5.cell? ⟨w.heap.size,1,none⟩=some (.int .i64 Ja):=(ia HX5.out 1).trans rfl;have Lw:w5.cell? ⟨w.heap.size,2,none⟩=some (.int .i64 Ga):=(ia HX5.out 2).trans rfl;have br:w5.cell? ⟨w.heap.size,3,none⟩=some (.int .i64 (j:Int)):=(ia HX5.out 3).trans rfl;have Tr:w5.cell? ⟨w.heap.size,4,none⟩=some (.slice Jb Aa.length yb):=(ia HX5.out 4).trans rfl
   have HLV:=ga.mk (show Nm.f Qa Ja Ga (j:Int) Aa=some (bf Aa j) by
    unfold Nm.f
    rw [if_pos ⟨by omega,by rw [Int.toNat_natCast];exact HO.out⟩,Int.toNat_natCast])
   go_upto_region 8 with (first|(go_at_call 47;(with_reducible refine (Nm.calls Wa Xa Qa Ja Ga (j:Int) Jb yb Aa (bf Aa j) w5 (Kd.Ab Io.out qL.out) gU.out (Kd.Ab gH.out qL.out) wN.out HLV.out).mono ?_);rintro e w6 ⟨v6,rfl,ho,hb⟩;obtain ⟨A4,c4,rfl⟩:=Kd.Bi ho;have oP:=ga.mk ho;have nD:=ga.mk hb;clear ho hb hx0 hx1 Lw br Tr))
   rw [Rj] at oP ⊢;have A_:=ga.mk (Va HX5.out nD.out);have O0:=ga.mk (P0.out.below nD.out);have pL:=ga.mk (Na qL.out nD.out);have VM:=ga.mk (show ∀ k,PB k→w.heap.size < k∧k < w6.heap.size from fun k hk=>⟨(HP5.out k hk).1,Nat.lt_of_lt_of_le (HP5.out k hk).2 nD.out.size⟩);have HCL:=ga.mk (show Aa.length ≤ c4 from (Kd.me oP.out).2.1);have HLC:=ga.mk (show ∀ W,Kept w6 W (L8 PB w6)→Kd.C (Kd.slice 4 Kd.bool) W A4 (bf Aa j).length (bf Aa j) from fun W hk=>(Kd.me (Kd.xC (Kd.Gj (Kd.Iv oP.out) (fun k hk=>⟨hk.2.1,hk.2.2.1⟩):Kd.S (Kd.slice 4 Kd.bool) _ w6 _ (fun k=>w5.heap.size ≤ k∧k < w6.heap.size) _ _) hk (fun k hk e=>e.elim (fun e=>by have:=(HP5.out k e).2;omega) (fun e=>by omega)))).2.2);clear HX5 P0 qL HP5 nD oP;have hx0:w6.cell? ⟨w.heap.size,0,none⟩=some (.slice Wa Qa.length Xa):=(ia A_.out 0).trans rfl;have hx1:w6.cell? ⟨w.heap.size,1,none⟩=some (.int .i64 Ja):=(ia A_.out 1).trans rfl;have Lw:w6.cell? ⟨w.heap.size,2,none⟩=some (.int .i64 Ga):=(ia A_.out 2).trans rfl;have br:w6.cell? ⟨w.heap.size,3,none⟩=some (.int .i64 (j:Int)):=(ia A_.out 3).trans rfl;have Tr:w6.cell? ⟨w.heap.size,4,none⟩=some (.slice Jb Aa.length yb):=(ia A_.out 4).trans rfl;have hmf:∀ (fn:Fn) (first cap:Array Value) (w:World),(Instr.makeFunc fn first cap).run Try.prog w = .ok (.func fn first cap) w:=fun _ _ _ _=>rfl
   have hev:=iK bh (fun P W=>tN w.heap.size j q qf PB v P W) PB 86 #[.pointer (some ⟨qf,0,none⟩)] (enters_of Try.func86 (by kernel_rfl) rfl)
    Wa Xa Qa Ja Ga j Jb yb Aa A4 c4 (bf Aa j) aQ w w6 pL.out (fun k e=>Nat.le_of_lt (VM.out k e).1) (fun k e=>(VM.out k e).2) Io.out gU.out gH.out wN.out
    (fun W hk=>HLC.out W hk) (by rw [Rj];exact HCL.out) HO.out (Rj _ _) (fun i hi=>by rw [Cz hi];exact Yj _ _ _)
    O0.out (fun P W W' h1 h2 h3=>by
     have hk:Kept W W' (fun k=>w6.heap.size ≤ k):=⟨h2,fun k _ hk=>h3 k (by omega)⟩;obtain ⟨T,t1,t2⟩:=h1.t
     exact ⟨Ve h1.hf hk (fun e=>by have:=Pc O0.out.hf;omega),Ve h1.hx hk (fun e=>by have:=Pc O0.out.hx;omega),h1.pf,h1.pq,T,Kd.xC t1 hk (fun k hk e=>by have:=(VM.out k hk).2;omega),t2⟩)
    (fun W P x A c s hk hv hx NW hC hl=>(DH w.heap.size j q qf PB v P x A c s W hv (fun k hk2=>Nat.lt_of_lt_of_le (VM.out k hk2).2 hk.1) hx NW hn hC hl).mono (fun e w' h=>h))
   rw [Rj] at hev;have HEV:=ga.mk hev;clear hev
   go_upto_region 9 with (first|(go_at_call 50;(with_reducible refine HEV.out.mono ?_);rintro e w9 ⟨rfl,hv9,hk9,hb9⟩;have EG:=ga.mk hv9;have HK9:=ga.mk hk9;have HZ9:=ga.mk hb9;clear hv9 hk9 hb9 hx0 hx1 Lw br Tr))
   have HX9:=ga.mk (Ve A_.out HK9.out (fun e=>e.elim (fun e=>by have:=(VM.out _ e).1;omega) (fun e=>by have:=Pc A_.out;omega)));have HB9:=ga.mk (Hv pL.out pL.out.size HK9.out (fun k e=>e.elim (fun e=>Nat.le_of_lt (VM.out k e).1) (fun e=>Nat.le_trans pL.out.size e)) HZ9.out);have HP9:=ga.mk (show ∀ k,PB k→w.heap.size < k∧k < w9.heap.size from fun k hk=>⟨(VM.out k hk).1,Nat.lt_of_lt_of_le (VM.out k hk).2 HK9.out.1⟩);have hrw:Be (bf Aa j) 0=pn Aa j 0:=Cz hm0;obtain ⟨kl,qN⟩:=Ev.rounds (YU HO.out hm0 (bf Aa j) (Rj Aa j) (by rw [hrw];exact Yj _ _ _) Qa Ja Ga (j:Int));rw [hrw,show QC (za Aa ((0:Nat):Int)) (pn Aa j 0)=eF Aa j from rfl] at qN;have hc:=Df.calls kl Wa Xa Qa Ja Ga (j:Int) Jb yb Aa A4 c4 (bf Aa j) ((0:Nat):Int) _ w9 (Kd.Ab Io.out HB9.out) gU.out (Kd.Ab gH.out HB9.out) wN.out (HLC.out w9 HK9.out) (by rw [Rj];exact HCL.out) qN;rw [Rj,show ((0:Nat):Int)=0 from rfl] at hc;have HLI:=ga.mk hc;have hin:(eF Aa j).length=j:=by unfold eF;rw [Es,Yj]
   have uP:=ga.mk hin;obtain ⟨ko,hko⟩:=Ev.rounds (lO (eF Aa j) (by rw [hin];exact hn));have HKO:=ga.mk hko;have HME:=ga.mk (show ∀ a b,WE Aa j a b ↔ (Fh bh Aa (bf Aa j) 0 aQ a b ∨ ((a:Int) ∈ jn (eF Aa j) (eF Aa j).length∧(b:Int) ∈ jn (eF Aa j) (eF Aa j).length)) from fun a b=>by rw [PG,PG];rfl);have HNT:=ga.mk (fun z=>AU (s:=eF Aa j) (z:=z));have hLl:=Nat.le_trans (MG (eF Aa j) (eF Aa j).length) (Nat.le_of_eq hin);have HLn:=ga.mk hLl;clear qN hc hin hko hrw hmf A_ O0 pL VM HK9 HZ9 HEV HLC hLl;have hx0:w9.cell? ⟨w.heap.size,0,none⟩=some (.slice Wa Qa.length Xa):=(ia HX9.out 0).trans rfl;have hx1:w9.cell? ⟨w.heap.size,1,none⟩=some (.int .i64 Ja):=(ia HX9.out 1).trans rfl;have Lw:w9.cell? ⟨w.heap.size,2,none⟩=some (.int .i64 Ga):=(ia HX9.out 2).trans rfl;have br:w9.cell? ⟨w.heap.size,3,none⟩=some (.int .i64 (j:Int)):=(ia HX9.out 3).trans rfl;have Tr:w9.cell? ⟨w.heap.size,4,none⟩=some (.slice Jb Aa.length yb):=(ia HX9.out 4).trans rfl;generalize eF Aa j=r0 at HLI uP HKO HME HNT HLn ⊢;generalize Fh bh Aa (bf Aa j) 0 aQ=E0 at EG HME ⊢
   go_upto_region 10 with (first|(go_at_call 49;(with_reducible refine HLI.out.mono ?_);rintro e Yp ⟨v10,rfl,ho,hb⟩;obtain ⟨A10,Gt,rfl⟩:=Kd.Bd ho;have iad:=ga.mk ho;have xP:=ga.mk hb;clear ho hb hx0 hx1 Lw br Tr)|(go_at_call 48;(with_reducible refine (Ce.calls ko A10 Gt r0 (jn r0 r0.length) Yp (Kd.Vb iad.out).2.2 (Kd.Vb iad.out).2.1 HKO.out).mono ?_);rintro e Xj ⟨v11,rfl,ho,hb⟩;obtain ⟨FV,zG,rfl⟩:=Kd.Bd ho;have gad:=ga.mk ho;have YK:=ga.mk hb;clear ho hb))
   generalize jn r0 r0.length=L at gad HME HNT HLn ⊢;have xal:=ga.mk ((EG.out.below xP.out).below YK.out);have HBB:=ga.mk (Na (Na HB9.out xP.out) YK.out);have HLR:=ga.mk (show ∀ W,Kept Xj W PB→Kd.C (Kd.int .i64) W FV L.length L from fun W hk=>(Kd.Vb (Kd.Km (Kd.Xd (Kd.Bg gad.out) (fun k hk=>hk.2.1):Kd.R (Kd.int .i64) _ Xj _ (fun k=>Yp.heap.size ≤ k) _ _) hk (fun k hk e=>by have:=(HP9.out k e).2;have:=xP.out.size;omega))).2.2);have HPL:=ga.mk (fun k e=>Nat.le_of_lt (HP9.out k e).1);have tal:=ga.mk uP.out;clear EG HX9 HB9 iad xP gad YK HLI HKO HP9 uP;have eg:∀ args w,(callFunc 85 args).run Try.prog w = .ok (.enter 85 args) w:=enters_of Try.func85 (by kernel_rfl) rfl;have hLn:L.length ≤ 1048576:=Nat.le_trans HLn.out hn;go_wp2
   go_loopg [36] L.length (fun gg v36 wr=>∃ (i:Nat),v36 = .int .i64 i∧i ≤ L.length∧L.length - i ≤ gg∧ga (tN w.heap.size j q qf PB v (fun a b=>E0 a b ∨ ((a:Int) ∈ L.take i∧(b:Int) ∈ L)) wr)∧ga (Kept Xj wr PB)∧ga (Below 0 Xj wr))
   case atStart=>exact ⟨0,rfl,Nat.zero_le _,by omega,⟨xal.out.Dr (fun a b=>⟨Or.inl,fun h=>h.elim id (fun h=>absurd h.1 (by rw [List.take_zero];exact List.not_mem_nil))⟩)⟩,⟨Kept.refl _ _⟩,⟨Below.refl _ _⟩⟩
   case round =>
    clear xal;(try clear HI);(try clear HK);(try clear HZ);obtain ⟨i,rfl,hi,xV,HI,HK,HZ⟩:=hrel
    by_cases hli:i < L.length
    ·have Tav:decide ((i:Int) < (L.length:Int))=true:=decide_eq_true (by omega);have i1:0 ≤ (i:Int):=by omega
     have i2:(i:Int) < (L.length:Int):=by omega
     obtain ⟨ad,e1,Xk⟩:=FH (HLR.out wr HK.out) hli;subst e1;obtain ⟨x,hx,hxn⟩:=HNT.out L[i] (List.getElem_mem hli);rw [hx] at Xk;have HXE:=ga.mk hx;have HXN:=ga.mk hxn;clear hx hxn;obtain ⟨wo,rfl⟩:∃ wo,wo=wr:=⟨_,rfl⟩;go_wp2;clear Xk i1 i2
     go_loopg [42] L.length (fun g4 v42 wr=>∃ (i4:Nat),v42 = .int .i64 i4∧i4 ≤ L.length∧L.length - i4 ≤ g4∧ga (tN w.heap.size j q qf PB v (fun a b=>(E0 a b ∨ ((a:Int) ∈ L.take i∧(b:Int) ∈ L)) ∨ (a=x∧(b:Int) ∈ L.take i4)) wr)∧ga (Kept Xj wr PB)∧ga (Below 0 Xj wr))
     case atStart=>exact ⟨0,rfl,Nat.zero_le _,by omega,⟨HI.out.Dr (fun a b=>⟨Or.inl,fun h=>h.elim id (fun h=>absurd h.2 (by rw [List.take_zero];exact List.not_mem_nil))⟩)⟩,HK,HZ⟩
     case round =>
      clear HI HK HZ;(try clear HI);(try clear HK);(try clear HZ);obtain ⟨i4,rfl,hi4,mL,HI,HK,HZ⟩:=hrel
      by_cases hl4:i4 < L.length
      ·have Vav:decide ((i4:Int) < (L.length:Int))=true:=decide_eq_true (by omega);have i1:0 ≤ (i4:Int):=by omega
       have i2:(i4:Int) < (L.length:Int):=by omega
       obtain ⟨ad2,e1,Xk⟩:=FH (HLR.out wr HK.out) hl4;obtain rfl:ad=ad2:=Option.some.inj e1;obtain ⟨y,hy,hyn⟩:=HNT.out L[i4] (List.getElem_mem hl4);rw [hy] at Xk;have HYE:=ga.mk hy;have hf0:wr.cell? ⟨qf,0,none⟩=some (.func (.func 85) #[] #[.pointer (some ⟨q,0,none⟩)]):=(ia HI.out.hf 0).trans rfl;have pay:=ga.mk (HI.out.call (show x < j from by have:=HXN.out;have:=tal.out;omega) (show y < j from by have:=tal.out;omega) hn);clear hy hyn e1;go_wp2_with (go_at_fn 85;refine pay.out.mono ?_;rintro e w3 ⟨rfl,h1,h2,h3⟩;have HI3:=ga.mk h1;have Rp:=ga.mk (HK.out.Fp h2 (fun _ h=>Or.inl h));have HZ3:=ga.mk (HZ.out.trans h3);clear h1 h2 h3 hf0 Xk)
       have HI4:=ga.mk (HI3.out.Dr (Q:=fun a b=>(E0 a b ∨ ((a:Int) ∈ L.take i∧(b:Int) ∈ L)) ∨ (a=x∧(b:Int) ∈ L.take (i4 + 1))) (fun a b=>by
        rw [List.take_succ_eq_append_getElem hl4,List.mem_append,List.mem_singleton,HYE.out]
        constructor
        ·rintro ((h|h)|⟨h1,h2⟩)
         ·exact Or.inl h
         ·exact Or.inr ⟨h.1,Or.inl h.2⟩
         ·exact Or.inr ⟨h1,Or.inr (by omega)⟩
        ·rintro (h|⟨h1,h2|h2⟩)
         ·exact Or.inl (Or.inl h)
         ·exact Or.inl (Or.inr ⟨h1,h2⟩)
         ·exact Or.inr ⟨h1,by omega⟩))
       go_roundg (L.length - (i4 + 1))
       case measure=>omega
       case rel=>exact ⟨i4 + 1,by go_num,by omega,by omega,HI4,Rp,HZ3⟩
      ·have Vav:decide ((i4:Int) < (L.length:Int))=false:=decide_eq_false (by omega);obtain rfl:i4=L.length:=by omega
       have HI4:=ga.mk (HI.out.Dr (Q:=fun a b=>E0 a b ∨ ((a:Int) ∈ L.take (i + 1)∧(b:Int) ∈ L)) (fun a b=>by
        rw [List.take_length,List.take_succ_eq_append_getElem hli,List.mem_append,List.mem_singleton,HXE.out]
        constructor
        ·rintro ((h|h)|⟨h1,h2⟩)
         ·exact Or.inl h
         ·exact Or.inr ⟨Or.inl h.1,h.2⟩
         ·exact Or.inr ⟨Or.inr (by omega),h2⟩
        ·rintro (h|⟨h1|h1,h2⟩)
         ·exact Or.inl (Or.inl h)
         ·exact Or.inl (Or.inr ⟨h1,h2⟩)
         ·exact Or.inr ⟨by omega,h2⟩))
       go_wp2
       go_roundg (L.length - (i + 1))
       case measure=>omega
       case rel=>exact ⟨i + 1,by go_num,by omega,by omega,HI4,HK,HZ⟩
    ·have Tav:decide ((i:Int) < (L.length:Int))=false:=decide_eq_false (by omega);obtain rfl:i=L.length:=by omega
     have cN:=ga.mk (show Kd.S (Kd.slice 4 Kd.bool) 60 wr w.heap.size (fun _=>True) v (kn Aa j) from by
      obtain ⟨T,t1,t2⟩:=HI.out.t;have he:T=kn Aa j:=(t2.Dr (fun a b=>by rw [List.take_length];exact (HME.out a b).symm)).ext (Uq Aa j) (fun _ _ _=>Iff.rfl);rw [← he]
      exact Kd.Gj t1 (fun _ _=>trivial))
     have E8:=ga.mk (Hv HBB.out HBB.out.size HK.out HPL.out HZ.out);have hq0:wr.cell? ⟨q,0,none⟩=some v:=(ia HI.out.hx 0).trans rfl;have hone:v.oneCell' = true:=by obtain ⟨A,c,rfl⟩:=Kd.Bi cN.out;rfl
     go_wp2;go_ret;exact ⟨_,rfl,cN.out,E8.out⟩
noncomputable def jh.f (Qa:List Int) (Ja:Int) (Ga:Int) (Ia:Int) (Aa:List (He)):Option (List (List Bool)):=open Classical in if 0 ≤ Ia∧Lm Aa Ia.toNat then some (kn Aa Ia.toNat) else none
theorem JO {n:Nat} {x:Le} (hx:Wt n x):Ig.f x.f0 x.f1 x.f2 x.f3 x.f4 x.f5 x.f6=some (decide (Xm x ≥ 0))∧(Xm x ≥ 0→x.f1=Xm x):=by
 have h2:=hx.2;unfold Ig.f Xm
 by_cases h4:x.f0=4
 ·rw [if_pos h4,if_pos h4,decide_eq_false (by omega)];exact ⟨rfl,fun h=>by omega⟩
 ·rw [if_neg h4,if_neg h4]
  by_cases h6:x.f0=6
  ·rw [if_pos h6,decide_eq_false (by omega),h6];exact ⟨rfl,fun h=>by omega⟩
  ·rw [if_neg h6,decide_eq_true (h2 h4 h6).1];exact ⟨by simp [h6],fun _=>rfl⟩
structure oL (w w6:World) (o:Obj) (n:Nat) (PB:Nat→Prop) (v:Value) (P:Nat→Nat→Prop) (wr:World):Prop where
 bw:Below w.heap.size w wr
 k:Kept w6 wr (L8 PB w6)
 hx:wr.heap[w.heap.size]? = some o
 t:∃ T,Kd.S (Kd.slice 4 Kd.bool) 60 wr w.heap.size PB v T∧NM n T P
section
variable {w w6 wr W:World} {o:Obj} {n:Nat} {PB:Nat→Prop} {v:Value} {P Q:Nat→Nat→Prop}
theorem oL.below (h:oL w w6 o n PB v P wr) (hb:Below wr.heap.size wr W):oL w w6 o n PB v P W:=by
 obtain ⟨T,h1,h2⟩:=h.t;exact ⟨Na h.bw hb,h.k.below hb,Va h.hx hb,T,Kd.lg h1 hb,h2⟩
theorem oL.Dr (h:oL w w6 o n PB v P wr) (hp:∀ i j,P i j ↔ Q i j):oL w w6 o n PB v Q wr:=by
 obtain ⟨T,h1,h2⟩:=h.t;exact ⟨h.bw,h.k,h.hx,T,h1,h2.Dr hp⟩
theorem oL.far {N:Nat} (h:oL w w6 o n PB v P wr) (HP:∀ k,PB k→w.heap.size < k∧k < w6.heap.size) (h6:w.heap.size < w6.heap.size) (hN:w6.heap.size ≤ N) (hk:Kept wr W (fun k=>N ≤ k)) (hz:Below 0 wr W):oL w w6 o n PB v P W:=by
 obtain ⟨T,h1,h2⟩:=h.t;exact ⟨Hv h.bw h.bw.size hk (fun k e=>by omega) hz,h.k.Fp hk (fun k e=>Or.inl (Or.inr (by omega))),Ve h.hx hk (fun e=>by omega),T,Kd.xC h1 hk (fun k e1 e2=>by have:=(HP k e1).2;omega),h2⟩
theorem oL.call {a b:Nat} (h:oL w w6 o n PB v P wr) (HP:∀ k,PB k→w.heap.size < k∧k < w6.heap.size) (ha:a < n) (hb:b < n) (hn:n ≤ 1048576) :
  Calls Try.prog 84 #[v,.int .i64 (a:Int),.int .i64 (b:Int)] wr fun e w'=>e = .returned (.tuple #[])∧oL w w6 o n PB v (fun i j=>P i j ∨ (i=a∧j=b)) w'∧Kept wr w' PB∧Below 0 wr w':=by
 obtain ⟨T,h1,h2⟩:=h.t;refine (wH w.heap.size n a b PB v T wr h1 h2.sq ha hb hn).mono ?_;rintro e w' ⟨e1,e2,e3,e4⟩;exact ⟨e1,⟨Hv h.bw h.bw.size e3 (fun k e=>Nat.le_of_lt (HP k e).1) e4,h.k.Fp e3 (fun k e=>Or.inl (Or.inl e)),Ve h.hx e3 (fun e=>by have:=(HP _ e).1;omega),_,e2,h2.meet ha hb⟩,e3,e4⟩
end
theorem jh.calls (Wa:Option Addr) (Xa:Nat) (Qa:List Int) (Ja:Int) (Ga:Int) (Ia:Int) (Jb:Option Addr) (yb:Nat) (Aa:List (He)) (r:List (List Bool)) (w:World) (Od:Kd.C (Kd.int .i64) w Wa Qa.length Qa) (Md:Qa.length ≤ Xa) (Re:Kd.C iq w Jb Aa.length Aa) (Qe:Aa.length ≤ yb) (h:jh.f Qa Ja Ga Ia Aa=some r) :
  Calls Try.prog 57 #[.agg #[.slice Wa Qa.length Xa,.int .i64 Ja,.int .i64 Ga,.int .i64 Ia,.slice Jb Aa.length yb]] w fun e w'=>∃ wm:Value,e = .returned (wm)∧Kd.S (Kd.slice 4 Kd.bool) 60 w' w.heap.size (fun _=>True) wm r∧Below w.heap.size w w':=by
 unfold jh.f at h
 by_cases hf:0 ≤ Ia∧Lm Aa Ia.toNat
 case neg=>rw [if_neg hf] at h;cases h
 rw [if_pos hf] at h;obtain rfl:=Option.some.inj h;obtain ⟨hn0,hO⟩:=hf;obtain ⟨n,rfl⟩:∃ n:Nat,Ia=(n:Int):=⟨Ia.toNat,(Int.toNat_of_nonneg hn0).symm⟩;rw [Int.toNat_natCast] at hO ⊢;clear h hn0;have HO:=ga.mk hO;have hn:n ≤ 1048576:=hO.2.1;have hm0:0 < Aa.length:=hO.1.1;have hm1:Aa.length ≤ 1048576:=hO.1.2.1;clear hO;have Io:=ga.mk Od;have gH:=ga.mk Re;have gU:=ga.mk Md;have wN:=ga.mk Qe;obtain ⟨W1,zg⟩:∃ W1,W1=((w.alloc (.cells #[.slice Wa Qa.length Xa,.int .i64 Ja,.int .i64 Ga,.int .i64 (n:Int),.slice Jb Aa.length yb] 30 (0,0))).alloc (.cells #[] 60 (0,0))):=⟨_,rfl⟩;have HW:=ga.mk zg
 have HA:=ga.mk (show Ur w (sy Wa Qa.length Xa Ja Ga n Jb Aa.length yb) (fun k=>k=w.heap.size + 1) (.slice (some ⟨w.heap.size + 1,0,none⟩) 0 0) (.slice none 0 0) [] [] W1 from by
  have z1:(w.alloc (.cells #[.slice Wa Qa.length Xa,.int .i64 Ja,.int .i64 Ga,.int .i64 (n:Int),.slice Jb Aa.length yb] 30 (0,0))).heap.size=w.heap.size + 1:=by simp
  have b1:=Mj w (.cells #[.slice Wa Qa.length Xa,.int .i64 Ja,.int .i64 Ga,.int .i64 (n:Int),.slice Jb Aa.length yb] 30 (0,0));have e1:=qa (Below.refl w.heap.size w) (.cells #[.slice Wa Qa.length Xa,.int .i64 Ja,.int .i64 Ga,.int .i64 (n:Int),.slice Jb Aa.length yb] 30 (0,0));rw [zg];generalize w.alloc (.cells #[.slice Wa Qa.length Xa,.int .i64 Ja,.int .i64 Ga,.int .i64 (n:Int),.slice Jb Aa.length yb] 30 (0,0))=u1 at z1 b1 e1 ⊢;have z2:(u1.alloc (.cells #[] 60 (0,0))).heap.size=w.heap.size + 2:=by simp [z1]
  have s1:=iB (Kd.slice 4 Kd.bool) 60 u1 w.heap.size (by omega);have e2:=qa (Below.refl u1.heap.size u1) (.cells #[] 60 (0,0));rw [z1] at s1
  exact ⟨Na e1 e2,Va b1 e2,s1,Kd.OM _ _ _ _ _,fun k hk=>⟨by omega,by omega⟩⟩)
 clear zg Od Re Md Qe;go_enter Try.func57,Try.ntmps57
 go_upto_region 2 with (fail)
 rw [← HW.out];clear HW;go_wp2
 go_loopg [3,4] n (fun gg v3 v4 wr=>∃ (j:Nat) (PB:Nat→Prop),v4 = .int .i64 j∧j ≤ n∧n - j ≤ gg∧ga (Ur w (sy Wa Qa.length Xa Ja Ga n Jb Aa.length yb) PB v3 (.slice none 0 0) (List.replicate j (List.replicate n false)) [] wr))
 case atStart=>exact ⟨0,_,rfl,Nat.zero_le _,by omega,HA⟩
 case round =>
  clear HA;(try clear PB);(try clear HA);obtain ⟨j,PB,rfl,hj,xV,HA⟩:=hrel;have br:=PC HA.out
  by_cases hlt:j < n
  ·have Pt:decide ((j:Int) < (n:Int))=true:=decide_eq_true (by omega);have R9:(0:Int) ≤ (n:Int):=by omega
   have R_:=ga.mk (show ((n:Int)).toNat * 1 ≤ 281474976710656 from by omega);have HLL:=ga.mk (show ((List.replicate j (List.replicate n false)).length + 1) * 24 ≤ 140737488355328 from by rw [List.length_replicate];omega)
   go_upto_region 4 with (first|((with_reducible refine qb (N:=23) rfl ?_);refine Kd.Kv Kd.bool (w0:=wr) wr.heap.size 4 rfl (N:=23) rfl 60 _ _ rfl (n:Int) rfl rfl Try.underlying60 (.bool false) 1 Qv rfl (by decide) (by omega) false (ok:=fun k=>wr.heap.size ≤ k) (Di:=fun k=>wr.heap.size ≤ k) rfl (fun _ hk=>hk) (Nat.le_refl _) R9 R_.out (Below.refl _ _) (Nat.le_refl _) ?_;intro v23 Qq ho hb hg hat;rw [Int.toNat_natCast] at ho;obtain ⟨A23,Dy,rfl⟩:=Kd.Bd ho;have oal:=ga.mk (YP ho HA.out.bl.size);simp only [List.length_replicate] at oal;have rV:=ga.mk hb;have aal:=ga.mk (Na HA.out.bl hb);clear ho hb hg hat br)|((with_reducible refine qb (N:=25) rfl ?_);refine Kd.jB (Kd.slice 4 Kd.bool) (w0:=w) w.heap.size rfl (.tmp 20) (.tmp 24) 55 60 (.slice none 0 0) 24 rfl Try.underlying55 cF rfl (by decide) (by omega) _ (List.replicate j (List.replicate n false)) (List.replicate n false) _ (fun k=>PB k ∨ wr.heap.size ≤ k) (fun k=>wr.heap.size ≤ k) rfl rfl oal.out HA.out.neX (HA.out.frX rV.out) (HA.out.okX rV.out) aal.out aal.out.size HLL.out ?_;intro v25 Jy hs hb hg hat;have I8:=ga.mk (HA.out.Hac rV.out hs hb hg);clear hs hb hg hat))
   go_wp2
   go_roundg (n - (j + 1))
   case measure=>omega
   case rel =>
    have h2:=I8.out;rw [← List.replicate_succ'] at h2;exact ⟨j + 1,_,by go_num,by omega,by omega,⟨h2⟩⟩
  ·have Pt:decide ((j:Int) < (n:Int))=false:=decide_eq_false (by omega);obtain rfl:n=j:=by omega
   obtain ⟨wb,rfl⟩:∃ wb,wb=wr:=⟨_,rfl⟩;have hx0:wb.cell? ⟨w.heap.size,0,none⟩=some (.slice Wa Qa.length Xa):=(ia HA.out.hx 0).trans rfl;have hx1:wb.cell? ⟨w.heap.size,1,none⟩=some (.int .i64 Ja):=(ia HA.out.hx 1).trans rfl;have Lw:wb.cell? ⟨w.heap.size,2,none⟩=some (.int .i64 Ga):=(ia HA.out.hx 2).trans rfl;have Tr:wb.cell? ⟨w.heap.size,4,none⟩=some (.slice Jb Aa.length yb):=(ia HA.out.hx 4).trans rfl;obtain ⟨klv,Kaf⟩:=Ev.rounds (nO Qa Ja Ga HO.out);have HLV:=ga.mk Kaf;clear Kaf xV hj;obtain ⟨AT,cT,hvT⟩:=Kd.Bi HA.out.x;rw [List.length_replicate] at hvT;subst hvT
   go_upto_region 7 with (first|(go_at_call 41;(with_reducible refine (xb.calls klv Wa Xa Qa Ja Ga (n:Int) Jb yb Aa (bf Aa n) wb (Kd.Ab Io.out HA.out.bl) gU.out (Kd.Ab gH.out HA.out.bl) wN.out HLV.out).mono ?_);rintro e w6 ⟨v6,rfl,ho,hb⟩;obtain ⟨A5,c5,rfl⟩:=Kd.Bi ho;have oP:=ga.mk ho;have nD:=ga.mk hb;clear ho hb hx0 hx1 Lw br Tr))
   rw [Rj] at oP ⊢;have XY:=ga.mk (show ∀ k,PB k→w.heap.size < k∧k < wb.heap.size from HA.out.pb);have VM:=ga.mk (show ∀ k,PB k→w.heap.size < k∧k < w6.heap.size from fun k hk=>⟨(XY.out k hk).1,Nat.lt_of_lt_of_le (XY.out k hk).2 nD.out.size⟩);have HCL:=ga.mk (show Aa.length ≤ c5 from (Kd.me oP.out).2.1);have HLC:=ga.mk (show ∀ W,Kept w6 W (L8 PB w6)→Kd.C (Kd.slice 4 Kd.bool) W A5 (bf Aa n).length (bf Aa n) from fun W hk=>(Kd.me (Kd.xC (Kd.Gj (Kd.Iv oP.out) (fun k hk=>⟨hk.2.1,hk.2.2.1⟩):Kd.S (Kd.slice 4 Kd.bool) _ w6 _ (fun k=>wb.heap.size ≤ k∧k < w6.heap.size) _ _) hk (fun k hk e=>e.elim (fun e=>by have:=(XY.out k e).2;omega) (fun e=>by omega)))).2.2);have HW6:=ga.mk (show w.heap.size < w6.heap.size from by have:=Pc HA.out.hx;have:=nD.out.size;omega);have O0:=ga.mk (show oL w w6 (sy Wa Qa.length Xa Ja Ga n Jb Aa.length yb) n PB (.slice AT n cT) aQ w6 from ⟨Na HA.out.bl nD.out,Kept.refl _ _,Va HA.out.hx nD.out,_,Kd.lg HA.out.x nD.out,NM.start n⟩);clear HA nD oP XY HLV;generalize Value.slice AT n cT=v at O0 ⊢;obtain ⟨FIN,Nab⟩:∃ FIN:Nat→Nat→Prop,FIN=fun a b=>Fh bh Aa (bf Aa n) 0 aQ a b ∨ (b < a∧seen (eF Aa n) a=true∧seen (eF Aa n) b=true):=⟨_,rfl⟩
   have nay:=ga.mk Nab;have HFO:=ga.mk (show ∀ a b,(Fh bh Aa (bf Aa n) 0 aQ a b ∨ (b < a∧seen (eF Aa n) a=true∧seen (eF Aa n) b=true)) ↔ FIN a b from fun a b=>by rw [Nab]);clear Nab;go_wp2
   go_loopg [6] Aa.length (fun gg v6 wr=>∃ (i:Nat) (P:Nat→Nat→Prop),v6 = .int .i64 i∧i ≤ Aa.length∧Aa.length - i ≤ gg∧ga (∀ a b,(Fh bh Aa (bf Aa n) i P a b ∨ (i=0∧b < a∧seen (eF Aa n) a=true∧seen (eF Aa n) b=true)) ↔ FIN a b)∧ga (oL w w6 (sy Wa Qa.length Xa Ja Ga n Jb Aa.length yb) n PB v P wr))
   case atStart=>exact ⟨0,aQ,rfl,Nat.zero_le _,by omega,⟨fun a b=>⟨fun h=>(HFO.out a b).1 (h.imp id (fun h=>h.2)),fun h=>((HFO.out a b).2 h).imp id (fun h=>⟨rfl,h⟩)⟩⟩,O0⟩
   case round =>
    clear O0 HFO hlt Pt;(try clear P);(try clear iU);(try clear HI);obtain ⟨i,P,rfl,hi,xV,iU,HI⟩:=hrel;have Tr:wr.cell? ⟨w.heap.size,4,none⟩=some (.slice Jb Aa.length yb):=(ia HI.out.hx 4).trans rfl
    by_cases hlt:i < Aa.length
    ·have Pt:decide ((i:Int) < (Aa.length:Int))=true:=decide_eq_true (by omega);have i1:0 ≤ (i:Int):=by omega
     have i2:(i:Int) < (Aa.length:Int):=by omega
     obtain ⟨ag,Ac,cc,e1,hc0,Xk,fy,oC,aK,Xv,AX⟩:=Fj gH.out (i:Int) (by omega) (by omega);subst e1;simp only [Int.toNat_natCast] at hc0 Xk fy oC aK;have LZ:=ga.mk AX;have m8:=ga.mk Xv;replace hc0:=dc hc0 (Kept.mc HI.out.bw (fun _=>False)) id;replace Xk:=dc Xk (Kept.mc HI.out.bw (fun _=>False)) id;replace fy:=dc fy (Kept.mc HI.out.bw (fun _=>False)) id;replace oC:=dc oC (Kept.mc HI.out.bw (fun _=>False)) id;replace aK:=dc aK (Kept.mc HI.out.bw (fun _=>False)) id;clear AX Xv
     go_upto_region 11 with (fail)
     have uw:=qa (Below.refl wr.heap.size wr) (.cells #[.slice Ac (za Aa (i:Int)).f0.length cc,.int .i64 (za Aa (i:Int)).f1,.int .i64 (za Aa (i:Int)).f2,.int .i64 (za Aa (i:Int)).f3,.int .i64 (za Aa (i:Int)).f4] 59 (0,0));have Sy:=Mj wr (.cells #[.slice Ac (za Aa (i:Int)).f0.length cc,.int .i64 (za Aa (i:Int)).f1,.int .i64 (za Aa (i:Int)).f2,.int .i64 (za Aa (i:Int)).f3,.int .i64 (za Aa (i:Int)).f4] 59 (0,0));generalize wr.alloc (.cells #[.slice Ac (za Aa (i:Int)).f0.length cc,.int .i64 (za Aa (i:Int)).f1,.int .i64 (za Aa (i:Int)).f2,.int .i64 (za Aa (i:Int)).f3,.int .i64 (za Aa (i:Int)).f4] 59 (0,0))=Wr at uw Sy ⊢;have IC:=ga.mk ((HI.out.below uw).below (Po (Below.refl Wr.heap.size Wr)));have Bm:=ga.mk (show Wr.drew.heap[wr.heap.size]? = _ from Sy);have pP:=ga.mk (show w6.heap.size ≤ wr.heap.size from HI.out.k.1);clear uw Sy HI Tr hc0 Xk fy oC aK i1 i2 Pt;generalize wr.heap.size=q7 at Bm pP ⊢;have wP:=ga.mk (Ot HO.out hlt);have N0:=ga.mk (show (Be (bf Aa n) i).length=n from by rw [Cz hlt];exact Yj _ _ _);have E8:=ga.mk (gV (b:=(za Aa (i:Int))) (s:=(Be (bf Aa n) i)) (by rw [N0.out];exact wP.out) (by rw [N0.out];exact hn));obtain ⟨a5,Ar,cr,e5,hrc,hrl,hrC⟩:=Qo (HLC.out Wr.drew IC.out.k) (i:Int) (by omega) (by rw [Rj];omega);subst e5;rw [Int.toNat_natCast] at hrc;rw [wu] at hrc hrl hrC;have HRC:=ga.mk (And.intro hrc (And.intro hrl hrC));have i1:0 ≤ (i:Int):=by omega
     have i2:(i:Int) < (Aa.length:Int):=by omega
     clear hrc hrl hrC;refine Mo (n:=7) (S:=fun w'=>w'.cell? ⟨q7,0,none⟩=some (.slice Ac (za Aa (i:Int)).f0.length cc)∧w'.cell? ⟨q7,1,none⟩=some (.int .i64 (za Aa (i:Int)).f1)∧w'.cell? ⟨q7,2,none⟩=some (.int .i64 (za Aa (i:Int)).f2)∧w'.cell? ⟨q7,3,none⟩=some (.int .i64 (za Aa (i:Int)).f3)∧w'.cell? ⟨q7,4,none⟩=some (.int .i64 (za Aa (i:Int)).f4)∧w'.cell? (a5.add i)=some (.slice Ar (Be (bf Aa n) i).length cr)) (ds:=[]) #[false,false,false,false,false,false,false] (by kernel_rfl) rfl rfl ⟨(ia Bm.out 0).trans rfl,(ia Bm.out 1).trans rfl,(ia Bm.out 2).trans rfl,(ia Bm.out 3).trans rfl,(ia Bm.out 4).trans rfl,HRC.out.1⟩ (fun hHeld=>?_);generalize Wr.drew=wd at IC Bm HRC hHeld ⊢;refine Ud (i:=1) (N:=some 41) (v:=?_) (a':=?_) #[false,true,false,false,false,false,false] rfl rfl (by kernel_rfl) (fun _ _ _ h=>h) (Or.inl ⟨by rfl,?_⟩) ?_ ?_;rotate_left
     ·intro w';go_simp;with_reducible rfl
     rotate_left
     ·simp only [Act.put,List.setIfInBounds_toArray,List.set_cons_zero,List.set_cons_succ,qc,tc]
      rfl
     refine Ud (i:=2) (N:=some 42) (v:=?_) (a':=?_) #[false,true,true,false,false,false,false] rfl rfl (by kernel_rfl) (fun _ _ _ h=>h) (Or.inl ⟨by rfl,?_⟩) ?_ ?_;rotate_left
     ·intro w';go_simp;with_reducible rfl
     rotate_left
     ·simp only [Act.put,List.setIfInBounds_toArray,List.set_cons_zero,List.set_cons_succ,qc,tc]
      rfl
     refine Ud (i:=3) (N:=some 43) (v:=?_) (a':=?_) #[false,true,true,true,false,false,false] rfl rfl (by kernel_rfl) (fun _ _ _ h=>h) (Or.inl ⟨by rfl,?_⟩) ?_ ?_;rotate_left
     ·intro w';go_simp;with_reducible rfl
     rotate_left
     ·simp only [Act.put,List.setIfInBounds_toArray,List.set_cons_zero,List.set_cons_succ,qc,tc]
      rfl
     refine Fi (i:=0) (N:=some 40) (v:=?_) (a':=?_) #[true,true,true,true,false,false,false] rfl rfl (by kernel_rfl) (fun _ _ _ h=>h) (Or.inl ⟨by rfl,?_⟩) hHeld ?_ ?_;rotate_left
     ·rintro w' ⟨s0,s1,s2,s3,s4,s5⟩;go_simp;with_reducible rfl
     rotate_left
     ·simp only [Act.put,List.setIfInBounds_toArray,List.set_cons_zero,List.set_cons_succ,qc,tc]
      rfl
     refine Fi (i:=4) (N:=some 44) (v:=?_) (a':=?_) #[true,true,true,true,true,false,false] rfl rfl (by kernel_rfl) (fun _ _ _ h=>h) (Or.inl ⟨by rfl,?_⟩) hHeld ?_ ?_;rotate_left
     ·rintro w' ⟨s0,s1,s2,s3,s4,s5⟩;go_simp;with_reducible rfl
     rotate_left
     ·simp only [Act.put,List.setIfInBounds_toArray,List.set_cons_zero,List.set_cons_succ,qc,tc]
      rfl
     refine Qy (i:=5) (N:=some 45) #[true,true,true,true,true,true,false] rfl rfl (by kernel_rfl) (by decide) (fun K hK=>?_);refine Rv Try.func42 (by kernel_rfl) rfl #[.agg #[.slice Ac (za Aa (i:Int)).f0.length cc,.int .i64 (za Aa (i:Int)).f1,.int .i64 (za Aa (i:Int)).f2,.int .i64 (za Aa (i:Int)).f3,.int .i64 (za Aa (i:Int)).f4],.slice Ar (Be (bf Aa n) i).length cr] (by rfl) rfl rfl (by simp only [List.map_toArray,List.map_cons,List.map_nil];rfl) ?_;with_reducible refine (Qg.calls Ac cc (za Aa (i:Int)).f0 (za Aa (i:Int)).f1 (za Aa (i:Int)).f2 (za Aa (i:Int)).f3 (za Aa (i:Int)).f4 Ar cr (Be (bf Aa n) i) (Ei (za Aa (i:Int)) (Be (bf Aa n) i)) wd (Kd.Ab LZ.out IC.out.bw) m8.out HRC.out.2.2 HRC.out.2.1 E8.out).mono ?_
     rintro e Ky ⟨v14,rfl,ho,hb⟩;refine ⟨_,rfl,?_⟩;obtain ⟨As,cs,hvs⟩:=Kd.Bd ho;rw [xm,N0.out] at hvs;subst hvs;have dad:=ga.mk ho;have mD:=ga.mk (IC.out.below hb);have gz:=ga.mk (Va Bm.out hb);have Xak:=ga.mk ((Kept.mc hb (fun _=>False)).2);have N7:=ga.mk (And.intro (Pc Bm.out) hb.size);have D9:=dc HRC.out.1 (Kept.mc hb (fun _=>False)) id;clear ho hb;refine hK.out _ _ ⟨(ia gz.out 0).trans rfl,(ia gz.out 1).trans rfl,(ia gz.out 2).trans rfl,(ia gz.out 3).trans rfl,(ia gz.out 4).trans rfl,D9⟩ (fun hHeld=>?_);clear hK K;refine Zq (a':=?_) ?_ ?_;rotate_left
     ·show Act.put _ (some 45) _=_
      simp only [Act.put,List.setIfInBounds_toArray,List.set_cons_zero,List.set_cons_succ,qc,tc]
      rfl
     refine Ud (i:=6) (N:=some 8) (v:=?_) (a':=?_) #[true,true,true,true,true,true,true] rfl rfl (by kernel_rfl) (fun _ _ _ h=>h) (Or.inl ⟨by rfl,?_⟩) ?_ ?_;rotate_left
     ·intro w';go_simp;with_reducible rfl
     rotate_left
     ·simp only [Act.put,List.setIfInBounds_toArray,List.set_cons_zero,List.set_cons_succ,qc,tc]
      rfl
     refine bu (by kernel_rfl) ?_;clear hHeld D9 Xak HRC IC Bm;have HLW:=ga.mk mD.out.k.1;have YM:=ga.mk (show w6.heap.size ≤ wd.heap.size∧q7 < wd.heap.size∧wd.heap.size ≤ Ky.heap.size from ⟨by have:=N7.out;have:=pP.out;omega,N7.out.1,N7.out.2⟩);clear N7 HLW;generalize wd.heap.size=N5 at dad YM;have Sx:Ky.cell? ⟨q7,0,none⟩=some (.slice Ac (za Aa (i:Int)).f0.length cc):=(ia gz.out 0).trans rfl;have Xv:(za Aa (i:Int)).f0.length ≤ 1048576:=wP.out.1;have LW:wrap64 (((za Aa (i:Int)).f0.length:Int) - 1)=((za Aa (i:Int)).f0.length:Int) - 1:=Pk Xv;have HWR:=ga.mk LW;clear LW i1 i2;have hU:=ga.mk (show Br bh ((za Aa (i:Int)).f0.take (za Aa (i:Int)).f0.length).reverse (nu (za Aa (i:Int)).f0 (za Aa (i:Int)).f0.length (Ei (za Aa (i:Int)) (Be (bf Aa n) i))) P=zy bh Aa (bf Aa n) P i from by rw [List.take_length,Gv];rfl);have vu:=ga.mk (show Kd.R Kd.bool 4 Ky N5 (fun _=>True) (.slice As n cs) (nu (za Aa (i:Int)).f0 (za Aa (i:Int)).f0.length (Ei (za Aa (i:Int)) (Be (bf Aa n) i))) from by rw [Gv];exact dad.out);clear dad;go_wp2;clear Sx
     go_loopg [9] (za Aa (i:Int)).f0.length (fun g6 v9 wr=>∃ (z:Int) (q:Nat) (P':Nat→Nat→Prop),v9 = .int .i64 z∧z + 1=(q:Int)∧q ≤ (za Aa (i:Int)).f0.length∧q ≤ g6∧ga (Br bh ((za Aa (i:Int)).f0.take q).reverse (nu (za Aa (i:Int)).f0 q (Ei (za Aa (i:Int)) (Be (bf Aa n) i))) P' = zy bh Aa (bf Aa n) P i)∧ga (oL w w6 (sy Wa Qa.length Xa Ja Ga n (some ag) Aa.length yb) n PB v P' wr)∧ga (Kd.R Kd.bool 4 wr N5 (fun _=>True) (.slice As n cs) (nu (za Aa (i:Int)).f0 q (Ei (za Aa (i:Int)) (Be (bf Aa n) i))))∧ga (N5 ≤ wr.heap.size)∧ga (wr.heap[q7]? = some (.cells #[.slice Ac (za Aa (i:Int)).f0.length cc,.int .i64 (za Aa (i:Int)).f1,.int .i64 (za Aa (i:Int)).f2,.int .i64 (za Aa (i:Int)).f3,.int .i64 (za Aa (i:Int)).f4] 59 (0,0))))
     case atStart=>exact ⟨((za Aa (i:Int)).f0.length:Int) - 1,(za Aa (i:Int)).f0.length,P,by first|rfl|(go_simp;done)|exact congrArg _ HWR.out|go_num,by omega,Nat.le_refl _,Nat.le_refl _,hU,mD,vu,⟨YM.out.2.2⟩,gz⟩
     case round =>
      clear hU mD vu gz;(try clear P);(try clear hU);(try clear HI);(try clear vu);(try clear YC);(try clear HQ);obtain ⟨z,q,P',rfl,hz,hq,hg6,hU,HI,vu,YC,HQ⟩:=hrel
      by_cases hz0:0 ≤ z
      ·obtain ⟨p,rfl⟩:∃ p:Nat,z=(p:Int):=⟨z.toNat,(Int.toNat_of_nonneg hz0).symm⟩;obtain rfl:q=p + 1:=by omega
       have P2:p < (za Aa (i:Int)).f0.length:=by omega
       have zW:decide ((p:Int) ≥ 0)=true:=decide_eq_true (by omega);have p1:0 ≤ (p:Int):=by omega
       have p2:(p:Int) < ((za Aa (i:Int)).f0.length:Int):=by omega
       have Sx:wr.cell? ⟨q7,0,none⟩=some (.slice Ac (za Aa (i:Int)).f0.length cc):=(ia HQ.out 0).trans rfl;obtain ⟨aI,e6,k0,k1,k2,k3,k4,k5,k6⟩:=Jm LZ.out (p:Int) (by omega) (by omega);subst e6;simp only [Int.toNat_natCast] at k0 k1 k2 k3 k4 k5 k6;have TK:=ga.mk (jw wP.out P2)
       have HXT:=ga.mk (show Br bh ((za Aa (i:Int)).f0.take p).reverse (nu (za Aa (i:Int)).f0 p (Ei (za Aa (i:Int)) (Be (bf Aa n) i))) (bh P' (Ea (za Aa (i:Int)).f0 (p:Int)) (nu (za Aa (i:Int)).f0 (p + 1) (Ei (za Aa (i:Int)) (Be (bf Aa n) i))))=zy bh Aa (bf Aa n) P i from by
        have h:=hU.out;rw [sF bh P2,← Mr P2] at h
        exact h)
       have HXB:=ga.mk (show (nu (za Aa (i:Int)).f0 p (Ei (za Aa (i:Int)) (Be (bf Aa n) i)))=vo (nu (za Aa (i:Int)).f0 (p + 1) (Ei (za Aa (i:Int)) (Be (bf Aa n) i))) (Ea (za Aa (i:Int)).f0 (p:Int)) from Mr P2 _);have XT:=ga.mk (show (nu (za Aa (i:Int)).f0 (p + 1) (Ei (za Aa (i:Int)) (Be (bf Aa n) i))).length=n by rw [Tx,xm];exact N0.out);generalize Ea (za Aa (i:Int)).f0 (p:Int)=x at k0 k1 k2 k3 k4 k5 k6 TK HXT HXB;generalize (nu (za Aa (i:Int)).f0 (p + 1) (Ei (za Aa (i:Int)) (Be (bf Aa n) i)))=s at vu XT HXT HXB;have FZ:=ga.mk (And.intro k0 (And.intro k1 (And.intro k2 (And.intro k3 (And.intro k4 (And.intro k5 k6))))));replace k0:=dc k0 (Kept.mc HI.out.bw (fun _=>False)) id;replace k1:=dc k1 (Kept.mc HI.out.bw (fun _=>False)) id;replace k2:=dc k2 (Kept.mc HI.out.bw (fun _=>False)) id;replace k3:=dc k3 (Kept.mc HI.out.bw (fun _=>False)) id;replace k4:=dc k4 (Kept.mc HI.out.bw (fun _=>False)) id;replace k5:=dc k5 (Kept.mc HI.out.bw (fun _=>False)) id;replace k6:=dc k6 (Kept.mc HI.out.bw (fun _=>False)) id;obtain ⟨xy,C9⟩:=JO TK.out;have Q0:=ga.mk xy;have HDX:=ga.mk C9;have HWP:=ga.mk (show wrap64 ((p:Int) - 1)=(p:Int) - 1 from Pk (by omega));obtain ⟨kb,CQ⟩:=Ev.rounds (CM s x (by rw [XT.out];exact TK.out));have HKB:=ga.mk CQ;clear xy C9 CQ hz0;obtain ⟨wk,rfl⟩:∃ wk,wk=wr:=⟨_,rfl⟩
       by_cases hm:Xm x ≥ 0
       ·obtain ⟨D,hD⟩:∃ D:Nat,Xm x=(D:Int):=⟨(Xm x).toNat,(Int.toNat_of_nonneg hm).symm⟩;have hDn:D < n:=by have:=OG TK.out hm;omega
        have HMD:=ga.mk hD;have HF1:=ga.mk (show x.f1=(D:Int) from (HDX.out hm).trans hD);have xy:=Q0.out;rw [decide_eq_true hm] at xy;have bG:=ga.mk xy;clear xy hm hD Q0
        go_upto_region 16 with (first|(go_at_call 73;(with_reducible refine (Ig.calls x.f0 x.f1 x.f2 x.f3 x.f4 x.f5 x.f6 true wk bG.out).mono ?_);rintro e um ⟨rfl,hb⟩;have Pp:=ga.mk hb;clear hb Sx k0 k1 k2 k3 k4 k5 k6))
        have aN:=ga.mk ((HI.out.below Pp.out).Dr (Q:=Ds P' x s 0) (fun a b=>Iff.intro Or.inl (fun h=>h.elim id (fun h=>absurd h.2.2.1 (Nat.not_lt_zero _)))));have VY:=ga.mk (Kd.Xd (Kd.Bg (Kd.oc vu.out Pp.out)) (fun k hk=>hk.2.1):Kd.R Kd.bool _ um N5 (fun k=>N5 ≤ k) _ s);have qB:=ga.mk (Va HQ.out Pp.out);have XM:=ga.mk (show N5 ≤ um.heap.size from Nat.le_trans YC.out Pp.out.size);clear HI vu HQ Pp zW p1 p2 YC;go_wp2
        go_loopg [10] n (fun g7 v10 wr=>∃ (u:Nat),v10 = .int .i64 u∧u ≤ n∧n - u ≤ g7∧ga (oL w w6 (sy Wa Qa.length Xa Ja Ga n (some ag) Aa.length yb) n PB v (Ds P' x s u) wr)∧ga (Kd.R Kd.bool 4 wr N5 (fun k=>N5 ≤ k) (.slice As n cs) s)∧ga (wr.heap[q7]? = some (.cells #[.slice (some aI) (za Aa (i:Int)).f0.length cc,.int .i64 (za Aa (i:Int)).f1,.int .i64 (za Aa (i:Int)).f2,.int .i64 (za Aa (i:Int)).f3,.int .i64 (za Aa (i:Int)).f4] 59 (0,0)))∧ga (N5 ≤ wr.heap.size))
        case atStart=>exact ⟨0,rfl,Nat.zero_le _,by omega,aN,VY,qB,XM⟩
        case round =>
         clear aN VY qB XM;(try clear HI);(try clear vu);(try clear HQ);(try clear YC);obtain ⟨u,rfl,hu,hg7,HI,vu,HQ,YC⟩:=hrel;have br:wr.cell? ⟨w.heap.size,3,none⟩=some (.int .i64 (n:Int)):=(ia HI.out.hx 3).trans rfl
         by_cases hun:u < n
         ·have hub:decide ((u:Int) < (n:Int))=true:=decide_eq_true (by omega);have u1:0 ≤ (u:Int):=by omega
          have u2:(u:Int) < (n:Int):=by omega
          have I0:=(Kd.Vb vu.out).2.2;obtain ⟨aS,e7,hsc⟩:=Ez I0 (show u < s.length by rw [XT.out];exact hun);subst e7;clear I0;cases wQ:seen s u with
          | true =>
           rw [wQ] at hsc;have Sx:wr.cell? ⟨q7,0,none⟩=some (.slice (some aI) (za Aa (i:Int)).f0.length cc):=(ia HQ.out 0).trans rfl;obtain ⟨-,k1,-⟩:=FZ.out;replace k1:=dc k1 (Kept.mc HI.out.bw (fun _=>False)) id;rw [HF1.out] at k1;have p1:0 ≤ (p:Int):=by omega
           have p2:(p:Int) < ((za Aa (i:Int)).f0.length:Int):=by omega
           have HCM:=ga.mk (HI.out.call VM.out hDn hun hn);have HSE:=ga.mk wQ;clear wQ;go_wp2_with (first|(go_at_call 84;refine HCM.out.mono ?_;rintro e js ⟨rfl,h1,h2,h3⟩;have VF:=ga.mk h1;have cad:=ga.mk (Kd.Km vu.out h2 (fun k hk e=>by have:=(VM.out k e).2;have:=YM.out;omega));have DK:=ga.mk (Ve HQ.out h2 (fun e=>by have:=(VM.out _ e).2;have:=pP.out;omega));have jal:=ga.mk (Nat.le_trans YC.out h2.1);clear h1 h2 h3 hsc Sx k1 br))
           have Vv:=ga.mk (VF.out.Dr (Q:=Ds P' x s (u + 1)) (fun a b=>by
            unfold Ds;have h1:=HMD.out
            constructor
            ·rintro ((h|⟨h2,h3,h4,h5⟩)|⟨rfl,rfl⟩)
             ·exact Or.inl h
             ·exact Or.inr ⟨h2,h3,by omega,h5⟩
             ·exact Or.inr ⟨by omega,by omega,by omega,HSE.out⟩
            ·rintro (h|⟨h2,h3,h4,h5⟩)
             ·exact Or.inl (Or.inl h)
             ·by_cases e:b=u
              ·exact Or.inr ⟨by omega,e⟩
              ·exact Or.inl (Or.inr ⟨h2,h3,by omega,h5⟩)))
           go_roundg (n - (u + 1))
           case measure=>omega
           case rel=>exact ⟨u + 1,by go_num,by omega,by omega,Vv,cad,DK,jal⟩
          | false =>
           rw [wQ] at hsc
           have Vv:=ga.mk (HI.out.Dr (Q:=Ds P' x s (u + 1)) (fun a b=>by
            unfold Ds
            constructor
            ·rintro (h|⟨h2,h3,h4,h5⟩)
             ·exact Or.inl h
             ·exact Or.inr ⟨h2,h3,by omega,h5⟩
            ·rintro (h|⟨h2,h3,h4,h5⟩)
             ·exact Or.inl h
             ·by_cases e:b=u
              ·subst e;rw [wQ] at h5;cases h5
              ·exact Or.inr ⟨h2,h3,by omega,h5⟩))
           clear wQ;go_wp2
           go_roundg (n - (u + 1))
           case measure=>omega
           case rel=>exact ⟨u + 1,by go_num,by omega,by omega,Vv,vu,HQ,YC⟩
         ·have hub:decide ((u:Int) < (n:Int))=false:=decide_eq_false (by omega)
          have EG:=ga.mk (HI.out.Dr (Q:=bh P' x s) (fun a b=>by
           unfold Ds bh
           constructor
           ·rintro (h|⟨h2,h3,h4,h5⟩)
            ·exact Or.inl h
            ·exact Or.inr ⟨h2,h3,h5⟩
           ·rintro (h|⟨h2,h3,h5⟩)
            ·exact Or.inl h
            ·exact Or.inr ⟨h2,h3,by have:=Em h5;have:=XT.out;omega,h5⟩))
          clear HI;have Sx:wr.cell? ⟨q7,0,none⟩=some (.slice (some aI) (za Aa (i:Int)).f0.length cc):=(ia HQ.out 0).trans rfl;obtain ⟨k0,k1,k2,k3,k4,k5,k6⟩:=FZ.out;replace k0:=dc k0 (Kept.mc EG.out.bw (fun _=>False)) id;replace k1:=dc k1 (Kept.mc EG.out.bw (fun _=>False)) id;replace k2:=dc k2 (Kept.mc EG.out.bw (fun _=>False)) id;replace k3:=dc k3 (Kept.mc EG.out.bw (fun _=>False)) id;replace k4:=dc k4 (Kept.mc EG.out.bw (fun _=>False)) id;replace k5:=dc k5 (Kept.mc EG.out.bw (fun _=>False)) id;replace k6:=dc k6 (Kept.mc EG.out.bw (fun _=>False)) id;have p1:0 ≤ (p:Int):=by omega
          have p2:(p:Int) < ((za Aa (i:Int)).f0.length:Int):=by omega
          have HCB:=ga.mk (Zy YC.out);have HSB:=ga.mk (show Kd.R Kd.bool 4 wr (xG wr N5).heap.size (fun k=>N5 ≤ k) (.slice As n cs) s by rw [gm YC.out];exact vu.out);go_wp2_with (first|(go_at_call 44;(with_reducible refine (Nc.calls kb x.f0 x.f1 x.f2 x.f3 x.f4 x.f5 x.f6 (fun k=>N5 ≤ k) (.slice As n cs) s (vo s x) (xG wr N5) wr HCB.out HSB.out HKB.out).mono ?_);rintro e Ut ⟨rfl,ho,hb,hk⟩;have aad:=ga.mk ho;have Cw:=ga.mk hb;have SK:=ga.mk hk;clear ho hb hk Sx k0 k1 k2 k3 k4 k5 k6));have AW:Below 0 wr Ut:=⟨Cw.out.os,Cw.out.tape,Cw.out.output,SK.out.1,fun k hk=>absurd hk (Nat.not_lt_zero _)⟩;have Iad:=ga.mk (EG.out.far VM.out HW6.out YM.out.1 SK.out AW);have UN:=aad.out;rw [gm YC.out] at UN;have Zac:=ga.mk (show Kd.R Kd.bool 4 Ut N5 (fun _=>True) (.slice As n cs) (nu (za Aa (i:Int)).f0 p (Ei (za Aa (i:Int)) (Be (bf Aa n) i))) from by rw [HXB.out];exact Kd.Xd UN (fun _ _=>trivial));have mV:=ga.mk (Ve HQ.out SK.out (by have:=YM.out;omega));clear AW UN
          go_roundg p
          case measure=>omega
          case rel=>exact ⟨(p:Int) - 1,p,_,by first|rfl|(go_simp;done)|exact congrArg _ HWP.out|go_num,by omega,by omega,Nat.le_refl _,HXT,Iad,Zac,⟨Nat.le_trans YC.out SK.out.1⟩,mV⟩
       ·have xy:=Q0.out;rw [decide_eq_false hm] at xy;have bG:=ga.mk xy
        have HI8:=ga.mk (HI.out.Dr (Q:=bh P' x s) (fun a b=>by
         unfold bh
         exact ⟨Or.inl,fun h=>h.elim id (fun h=>absurd h.1 hm)⟩))
        clear xy hm Q0 HI
        go_upto_region 21 with (first|(go_at_call 73;(with_reducible refine (Ig.calls x.f0 x.f1 x.f2 x.f3 x.f4 x.f5 x.f6 false wk bG.out).mono ?_);rintro e um ⟨rfl,hb⟩;have Pp:=ga.mk hb;clear hb Sx k0 k1 k2 k3 k4 k5 k6))
        have EG:=ga.mk (HI8.out.below Pp.out);have VY:=ga.mk (Kd.Xd (Kd.Bg (Kd.oc vu.out Pp.out)) (fun k hk=>hk.2.1):Kd.R Kd.bool _ um N5 (fun k=>N5 ≤ k) _ s);have qB:=ga.mk (Va HQ.out Pp.out);have XM:=ga.mk (show N5 ≤ um.heap.size from Nat.le_trans YC.out Pp.out.size);clear HI8 vu HQ Pp zW p1 p2 YC;have vu:=VY;have HQ:=qB;have YC:=XM;clear VY qB XM;have Sx:um.cell? ⟨q7,0,none⟩=some (.slice (some aI) (za Aa (i:Int)).f0.length cc):=(ia HQ.out 0).trans rfl;obtain ⟨k0,k1,k2,k3,k4,k5,k6⟩:=FZ.out;replace k0:=dc k0 (Kept.mc EG.out.bw (fun _=>False)) id;replace k1:=dc k1 (Kept.mc EG.out.bw (fun _=>False)) id;replace k2:=dc k2 (Kept.mc EG.out.bw (fun _=>False)) id;replace k3:=dc k3 (Kept.mc EG.out.bw (fun _=>False)) id;replace k4:=dc k4 (Kept.mc EG.out.bw (fun _=>False)) id;replace k5:=dc k5 (Kept.mc EG.out.bw (fun _=>False)) id;replace k6:=dc k6 (Kept.mc EG.out.bw (fun _=>False)) id;have p1:0 ≤ (p:Int):=by omega
        have p2:(p:Int) < ((za Aa (i:Int)).f0.length:Int):=by omega
        have HCB:=ga.mk (Zy YC.out);have HSB:=ga.mk (show Kd.R Kd.bool 4 um (xG um N5).heap.size (fun k=>N5 ≤ k) (.slice As n cs) s by rw [gm YC.out];exact vu.out);go_wp2_with (first|(go_at_call 44;(with_reducible refine (Nc.calls kb x.f0 x.f1 x.f2 x.f3 x.f4 x.f5 x.f6 (fun k=>N5 ≤ k) (.slice As n cs) s (vo s x) (xG um N5) um HCB.out HSB.out HKB.out).mono ?_);rintro e Ut ⟨rfl,ho,hb,hk⟩;have aad:=ga.mk ho;have Cw:=ga.mk hb;have SK:=ga.mk hk;clear ho hb hk Sx k0 k1 k2 k3 k4 k5 k6));have AW:Below 0 um Ut:=⟨Cw.out.os,Cw.out.tape,Cw.out.output,SK.out.1,fun k hk=>absurd hk (Nat.not_lt_zero _)⟩;have Iad:=ga.mk (EG.out.far VM.out HW6.out YM.out.1 SK.out AW);have UN:=aad.out;rw [gm YC.out] at UN;have Zac:=ga.mk (show Kd.R Kd.bool 4 Ut N5 (fun _=>True) (.slice As n cs) (nu (za Aa (i:Int)).f0 p (Ei (za Aa (i:Int)) (Be (bf Aa n) i))) from by rw [HXB.out];exact Kd.Xd UN (fun _ _=>trivial));have mV:=ga.mk (Ve HQ.out SK.out (by have:=YM.out;omega));clear AW UN
        go_roundg p
        case measure=>omega
        case rel=>exact ⟨(p:Int) - 1,p,_,by first|rfl|(go_simp;done)|exact congrArg _ HWP.out|go_num,by omega,by omega,Nat.le_refl _,HXT,Iad,Zac,⟨Nat.le_trans YC.out SK.out.1⟩,mV⟩
      ·have zW:decide (z ≥ 0)=false:=decide_eq_false (by omega);obtain rfl:q=0:=by omega
       have fX:=hU.out;rw [List.take_zero,List.reverse_nil,show Br bh [] (nu (za Aa (i:Int)).f0 0 (Ei (za Aa (i:Int)) (Be (bf Aa n) i))) P' = P' from rfl] at fX;have HFZ:=ga.mk fX;have HSZ:=ga.mk (Kd.Xd (Kd.Bg vu.out) (fun k hk=>hk.2.1):Kd.R Kd.bool _ wr N5 (fun k=>N5 ≤ k) _ _);have XT:=ga.mk (show (nu (za Aa (i:Int)).f0 0 (Ei (za Aa (i:Int)) (Be (bf Aa n) i))).length=n by rw [Tx,xm];exact N0.out);have ead:=ga.mk (show i=0→(nu (za Aa (i:Int)).f0 0 (Ei (za Aa (i:Int)) (Be (bf Aa n) i)))=eF Aa n from fun e=>by subst e;rw [DF,Cz hlt];rfl);clear fX hU vu;generalize (nu (za Aa (i:Int)).f0 0 (Ei (za Aa (i:Int)) (Be (bf Aa n) i)))=s at HSZ XT ead;obtain ⟨wk,rfl⟩:∃ wk,wk=wr:=⟨_,rfl⟩;have wal:=ga.mk (HI.out.Dr (Q:=fun a b=>P' a b ∨ (i=0∧a < 0∧b < a∧seen s a=true∧seen s b=true)) (fun a b=>Iff.intro Or.inl (fun h=>h.elim id (fun h=>absurd h.2.1 (Nat.not_lt_zero _)))));clear HI HQ YC N0;go_wp2
       go_loopg [11] n (fun g8 v11 wr=>∃ (u:Nat),v11 = .int .i64 u∧u ≤ n∧n - u ≤ g8∧ga (oL w w6 (sy Wa Qa.length Xa Ja Ga n (some ag) Aa.length yb) n PB v (fun a b=>P' a b ∨ (i=0∧a < u∧b < a∧seen s a=true∧seen s b=true)) wr)∧ga (Kd.R Kd.bool 4 wr N5 (fun k=>N5 ≤ k) (.slice As n cs) s))
       case atStart=>exact ⟨0,rfl,Nat.zero_le _,by omega,wal,HSZ⟩
       case round =>
        clear wal HSZ zW;(try clear HI);(try clear vu);obtain ⟨u,rfl,hu,hg8,HI,vu⟩:=hrel;have br:wr.cell? ⟨w.heap.size,3,none⟩=some (.int .i64 (n:Int)):=(ia HI.out.hx 3).trans rfl
        by_cases kL:u < n∧i=0
        ·obtain ⟨hun,m9⟩:=kL;have hub:decide ((u:Int) < (n:Int))=true:=decide_eq_true (by omega);have hib:((i:Int) == 0)=true:=by rw [beq_iff_eq];omega
         have HI0:=ga.mk m9;clear m9;have u1:0 ≤ (u:Int):=by omega
         have u2:(u:Int) < (n:Int):=by omega
         obtain ⟨wo,rfl⟩:∃ wo,wo=wr:=⟨_,rfl⟩;have ual:=ga.mk (HI.out.Dr (Q:=fun a b=>(P' a b ∨ (i=0∧a < u∧b < a∧seen s a=true∧seen s b=true)) ∨ (a=u∧b < 0∧seen s a=true∧seen s b=true)) (fun a b=>Iff.intro Or.inl (fun h=>h.elim id (fun h=>absurd h.2.1 (Nat.not_lt_zero _)))))
         go_upto_region 26 with (fail)
         clear br
         go_loopg [12] u (fun g9 v12 wr=>∃ (t:Nat),v12 = .int .i64 t∧t ≤ u∧u - t ≤ g9∧ga (oL w w6 (sy Wa Qa.length Xa Ja Ga n (some ag) Aa.length yb) n PB v (fun a b=>(P' a b ∨ (i=0∧a < u∧b < a∧seen s a=true∧seen s b=true)) ∨ (a=u∧b < t∧seen s a=true∧seen s b=true)) wr)∧ga (Kd.R Kd.bool 4 wr N5 (fun k=>N5 ≤ k) (.slice As n cs) s))
         case atStart=>exact ⟨0,rfl,Nat.zero_le _,by omega,ual,vu⟩
         case round =>
          clear ual vu HI hub hib;(try clear HI);(try clear vu);obtain ⟨t,rfl,ht,hg9,HI,vu⟩:=hrel
          by_cases htu:t < u
          ·have htb:decide ((t:Int) < (u:Int))=true:=decide_eq_true (by omega);have t1:0 ≤ (t:Int):=by omega
           have t2:(t:Int) < (n:Int):=by omega
           have I0:=(Kd.Vb vu.out).2.2;obtain ⟨aS,e7,hsc⟩:=Ez I0 (show u < s.length by rw [XT.out];exact hun);obtain ⟨aS2,e8,hsd⟩:=Ez I0 (show t < s.length by rw [XT.out];omega);subst e7;obtain rfl:aS=aS2:=Option.some.inj e8;clear I0 e8
           by_cases hbo:seen s u=true∧seen s t=true
           ·obtain ⟨hs1,G0⟩:=hbo;rw [hs1] at hsc;rw [G0] at hsd;have HCM:=ga.mk (HI.out.call VM.out hun (show t < n by omega) hn);have HSE:=ga.mk (And.intro hs1 G0);clear hs1 G0;go_wp2_with (first|(go_at_call 84;refine HCM.out.mono ?_;rintro e js ⟨rfl,h1,h2,h3⟩;have VF:=ga.mk h1;have cad:=ga.mk (Kd.Km vu.out h2 (fun k hk e=>by have:=(VM.out k e).2;have:=YM.out;omega));clear h1 h2 h3 hsc hsd))
            have Vv:=ga.mk (VF.out.Dr (Q:=fun a b=>(P' a b ∨ (i=0∧a < u∧b < a∧seen s a=true∧seen s b=true)) ∨ (a=u∧b < t + 1∧seen s a=true∧seen s b=true)) (fun a b=>by
             constructor
             ·rintro ((h|⟨h2,h3,h4,h5⟩)|⟨rfl,rfl⟩)
              ·exact Or.inl h
              ·exact Or.inr ⟨h2,by omega,h4,h5⟩
              ·exact Or.inr ⟨rfl,by omega,HSE.out.1,HSE.out.2⟩
             ·rintro (h|⟨h2,h3,h4,h5⟩)
              ·exact Or.inl (Or.inl h)
              ·by_cases e:b=t
               ·exact Or.inr ⟨h2,e⟩
               ·exact Or.inl (Or.inr ⟨h2,by omega,h4,h5⟩)))
            go_roundg (u - (t + 1))
            case measure=>omega
            case rel=>exact ⟨t + 1,by go_num,by omega,by omega,Vv,cad⟩
           ·have Vv:=ga.mk (HI.out.Dr (Q:=fun a b=>(P' a b ∨ (i=0∧a < u∧b < a∧seen s a=true∧seen s b=true)) ∨ (a=u∧b < t + 1∧seen s a=true∧seen s b=true)) (fun a b=>by
             constructor
             ·rintro (h|⟨h2,h3,h4,h5⟩)
              ·exact Or.inl h
              ·exact Or.inr ⟨h2,by omega,h4,h5⟩
             ·rintro (h|⟨h2,h3,h4,h5⟩)
              ·exact Or.inl h
              ·by_cases e:b=t
               ·subst e;subst h2;exact absurd ⟨h4,h5⟩ hbo
               ·exact Or.inr ⟨h2,by omega,h4,h5⟩))
            have HBO:=ga.mk hbo;clear hbo HI;cases hs1:seen s u with
            | false =>
             rw [hs1] at hsc;clear hs1;go_wp2
             go_roundg (u - (t + 1))
             case measure=>omega
             case rel=>exact ⟨t + 1,by go_num,by omega,by omega,Vv,vu⟩
            | true =>
             have G0:seen s t=false:=by
              cases h:seen s t with
              | false=>rfl
              | true=>exact absurd ⟨hs1,h⟩ HBO.out
             rw [hs1] at hsc;rw [G0] at hsd;clear hs1 G0;go_wp2
             go_roundg (u - (t + 1))
             case measure=>omega
             case rel=>exact ⟨t + 1,by go_num,by omega,by omega,Vv,vu⟩
          ·have htb:decide ((t:Int) < (u:Int))=false:=decide_eq_false (by omega);obtain rfl:u=t:=by omega
           have Vv:=ga.mk (HI.out.Dr (Q:=fun a b=>P' a b ∨ (i=0∧a < u + 1∧b < a∧seen s a=true∧seen s b=true)) (fun a b=>by
            constructor
            ·rintro ((h|⟨h2,h3,h4⟩)|⟨h2,h3,h4⟩)
             ·exact Or.inl h
             ·exact Or.inr ⟨h2,by omega,h4⟩
             ·exact Or.inr ⟨HI0.out,by omega,by omega,h4⟩
            ·rintro (h|⟨h2,h3,h4,h5⟩)
             ·exact Or.inl (Or.inl h)
             ·by_cases e:a=u
              ·exact Or.inr ⟨e,by omega,h5⟩
              ·exact Or.inl (Or.inr ⟨h2,by omega,h4,h5⟩)))
           clear HI;go_wp2
           go_roundg (n - (u + 1))
           case measure=>omega
           case rel=>exact ⟨u + 1,by go_num,by omega,by omega,Vv,vu⟩
        ·have cN:=ga.mk (show ∀ a b,(Fh bh Aa (bf Aa n) (i + 1) (fun a b=>P' a b ∨ (i=0∧a < u∧b < a∧seen s a=true∧seen s b=true)) a b ∨ (i + 1=0∧b < a∧seen (eF Aa n) a=true∧seen (eF Aa n) b=true)) ↔ FIN a b from fun a b=>by
          rw [← iU.out a b,jK Aa (bf Aa n) (Aa.length - (i + 1)) (i + 1) P' (fun a b=>i=0∧a < u∧b < a∧seen s a=true∧seen s b=true) a b (by omega),HFZ.out,← Ap bh hlt]
          constructor
          ·rintro ((h|⟨h1,h2,h3⟩)|h)
           ·exact Or.inl h
           ·exact Or.inr ⟨h1,by rw [← ead.out h1];exact h3⟩
           ·exact absurd h.1 (Nat.succ_ne_zero _)
          ·rintro (h|⟨h1,h3⟩)
           ·exact Or.inl (Or.inl h)
           ·rw [← ead.out h1] at h3;have hl:=Em h3.2.1;rw [XT.out] at hl
            exact Or.inl (Or.inr ⟨h1,by omega,h3⟩))
         have HGO:=ga.mk kL;clear kL
         by_cases hun:u < n
         ·have hub:decide ((u:Int) < (n:Int))=true:=decide_eq_true (by omega);have hib:((i:Int) == 0)=false:=by rw [beq_eq_false_iff_ne];intro e;exact HGO.out ⟨hun,by omega⟩
          go_wp2
          go_roundg (Aa.length - (i + 1))
          case measure=>omega
          case rel=>exact ⟨i + 1,_,by go_num,by omega,by omega,cN,HI⟩
         ·have hub:decide ((u:Int) < (n:Int))=false:=decide_eq_false (by omega);go_wp2
          go_roundg (Aa.length - (i + 1))
          case measure=>omega
          case rel=>exact ⟨i + 1,_,by go_num,by omega,by omega,cN,HI⟩
    ·have Pt:decide ((i:Int) < (Aa.length:Int))=false:=decide_eq_false (by omega);obtain rfl:i=Aa.length:=by omega
     have cN:=ga.mk (show Kd.S (Kd.slice 4 Kd.bool) 60 wr w.heap.size (fun _=>True) v (kn Aa n) from by
      obtain ⟨T,t1,t2⟩:=HI.out.t
      have he:T=kn Aa n:=t2.ext (Uq Aa n) (fun a b hab=>by
       have hP:∀ a b,P a b ↔ FIN a b:=fun a b=>by
        have h:=iU.out a b;rw [Oq] at h;exact ⟨fun hp=>h.1 (Or.inl hp),fun hf=>(h.2 hf).elim id (fun e=>by have:=e.1;omega)⟩
       rw [hP,hP,nay.out];unfold WE
       constructor
       ·rintro ((h|h)|(h|h))
        ·exact Or.inl (Or.inl h)
        ·exact Or.inl (Or.inr h.2)
        ·exact Or.inr (Or.inl h)
        ·exact Or.inr (Or.inr h.2)
       ·rintro ((h|h)|(h|h))
        ·exact Or.inl (Or.inl h)
        ·rcases Nat.lt_or_ge b a with e|e
         ·exact Or.inl (Or.inr ⟨e,h⟩)
         ·exact Or.inr (Or.inr ⟨by omega,h.2,h.1⟩)
        ·exact Or.inr (Or.inl h)
        ·rcases Nat.lt_or_ge b a with e|e
         ·exact Or.inl (Or.inr ⟨e,h.2,h.1⟩)
         ·exact Or.inr (Or.inr ⟨by omega,h⟩))
      rw [← he]
      exact Kd.Gj t1 (fun _ _=>trivial))
     have hone:v.oneCell' = true:=by obtain ⟨A,c,rfl⟩:=Kd.Bi cN.out;rfl
     go_wp2;go_ret;exact ⟨_,rfl,cN.out,HI.out.bw⟩
end Go.Proofs.Ytkigbdceceeenaa.P
end
section
namespace Go.Proofs.Ytkigbdceceeenaa.P
open Go.RowKit Go.Proofs.Ma.Wb Go.Proofs.Ma.Jd Go.Proofs.Ma.Fe
set_option linter.unusedVariables false
set_option linter.unusedSimpArgs false
attribute [local go_sem] Gi Xi Jj ak Sh Rh Yi Wi
mutual
noncomputable def Mb.j0:Nat→List Int→Bool→List Int→Int→Int→Int→List (He)→Option (Bool)
 | 0,_,_,_,_,_,_,_=>none
 | k + 1,x1,kz,Fc,Uc,Mc,Ic,jc=>if kz=true then (some false) else ((jh.f Fc Uc Mc Ic jc).bind fun t103=>(Mb.l0 k x1 t103 0))
noncomputable def Mb.l0:Nat→List Int→List (List Bool)→Int→Option (Bool)
 | 0,_,_,_=>none
 | k + 1,x1,x5,x6=>if x6 < (x1.length:Int) then (if 0 ≤ x6 then ((gb.f (rd x1 x6) (-1) 11).bind fun t107=>(if t107=true then (Mb.l1 k x1 x5 x6 0) else (some false))) else (none)) else (some true)
noncomputable def Mb.l1:Nat→List Int→List (List Bool)→Int→Int→Option (Bool)
 | 0,_,_,_,_=>none
 | k + 1,x1,x5,x6,x7=>if x7 < x6 then (if 0 ≤ x6 then (if x6 < (x5.length:Int) then (if 0 ≤ x7 then (if x7 < ((Rc x5 x6).length:Int) then (if sg false (Rc x5 x6) x7=true then (if x6 < (x1.length:Int) then (if (rd x1 x6) ≥ 0 then (if x7 < (x1.length:Int) then (if (rd x1 x6)=(rd x1 x7) then (some false) else (Mb.l1 k x1 x5 x6 (wrap64 (x7 + 1)))) else (none)) else (Mb.l1 k x1 x5 x6 (wrap64 (x7 + 1)))) else (none)) else (Mb.l1 k x1 x5 x6 (wrap64 (x7 + 1)))) else (none)) else (none)) else (none)) else (none)) else (Mb.l0 k x1 x5 (wrap64 (x6 + 1)))
end
noncomputable def Mb.f (k:Nat) (Qa:List Int) (Ja:Int) (Ga:Int) (Ia:Int) (Aa:List (He)) (l1:List Int):Option (Bool):=(Ya.f k Qa Ja Ga Ia Aa).bind fun t102=>(if t102=true then (Mb.j0 k l1 ((l1.length:Int) != Ia) Qa Ja Ga Ia Aa) else (Mb.j0 k l1 true Qa Ja Ga Ia Aa))
theorem Mb.calls (k:Nat) (Wa:Option Addr) (Xa:Nat) (Qa:List Int) (Ja:Int) (Ga:Int) (Ia:Int) (Jb:Option Addr) (yb:Nat) (Aa:List (He)) (A1:Option Addr) (c1:Nat) (l1:List Int) (r:Bool) (w:World) (Od:Kd.C (Kd.int .i64) w Wa Qa.length Qa) (Md:Qa.length ≤ Xa) (Re:Kd.C iq w Jb Aa.length Aa) (Qe:Aa.length ≤ yb) (Kp:Kd.C (Kd.int .i64) w A1 l1.length l1) (Xk:l1.length ≤ c1) (h:Mb.f k Qa Ja Ga Ia Aa l1=some r) :
  Calls Try.prog 21 #[.agg #[.slice Wa Qa.length Xa,.int .i64 Ja,.int .i64 Ga,.int .i64 Ia,.slice Jb Aa.length yb],.slice A1 l1.length c1] w fun e w'=>e = .returned (.bool r)∧Below w.heap.size w w':=by
 have KB:=Try.underlying30;have fe:=ga.mk Od;have ye:=ga.mk Md;clear Od Md;have We:=ga.mk Re;have Xf:=ga.mk Qe;clear Re Qe;have Uo:=ga.mk Kp;have FG:=ga.mk Xk;clear Kp Xk;have HB:=ga.mk (Below.refl w.heap.size w);have H:((Ya.f k Qa Ja Ga Ia Aa).bind fun t102=>(if t102=true then (Mb.j0 k l1 ((l1.length:Int) != Ia) Qa Ja Ga Ia Aa) else (Mb.j0 k l1 true Qa Ja Ga Ia Aa)))=some r:=h;clear h;have pV:=ga.mk H;clear H;go_enter Try.func21,Try.ntmps21
 go_upto_region 1 with (first|((with_reducible refine qb (N:=2) rfl ?_);(try (refine Wg (by rfl) ?_;dsimp only));refine Ib ?hg (N:=2) ?hd (cs:=#[.slice Wa Qa.length Xa,.int .i64 Ja,.int .i64 Ga,.int .i64 Ia,.slice Jb Aa.length yb]) (t:=30) ?hr ?_;(case hd=>rfl);(case hg=>rfl);(case hr=>first|(go_simp;done)|(go_simp;rfl));intro ya hg w4 Sb hb;have Cb:=ga.mk (Na CaH hb);have Eb:=ga.mk (Sb);have Rb:=ga.mk ((by rw [hg];exact (La CaH):w.heap.size ≤ ya));have Gc:=ga.mk ((by rw [hg];exact (La CaH):w.heap.size ≤ ya));clear HB;have HB:=Cb;have oa:=Eb;have Nd:=Rb;have Ta:=Gc;clear Cb Eb Rb Gc hb Sb hg))
 repeat (go_quiet (first|((with_reducible refine qb (N:=2) rfl ?_);(try (refine Wg (by rfl) ?_;dsimp only));refine Ib ?hg (N:=2) ?hd (cs:=#[.slice Wa Qa.length Xa,.int .i64 Ja,.int .i64 Ga,.int .i64 Ia,.slice Jb Aa.length yb]) (t:=30) ?hr ?_;(case hd=>rfl);(case hg=>rfl);(case hr=>first|(go_simp;done)|(go_simp;rfl));intro ya hg w4 Sb hb;have Cb:=ga.mk (Na CaH hb);have Eb:=ga.mk (Sb);have Rb:=ga.mk ((by rw [hg];exact (La CaH):w.heap.size ≤ ya));have Gc:=ga.mk ((by rw [hg];exact (La CaH):w.heap.size ≤ ya));clear HB;have HB:=Cb;have oa:=Eb;have Nd:=Rb;have Ta:=Gc;clear Cb Eb Rb Gc hb Sb hg));go_upto_region 1 with (first|((with_reducible refine qb (N:=2) rfl ?_);(try (refine Wg (by rfl) ?_;dsimp only));refine Ib ?hg (N:=2) ?hd (cs:=#[.slice Wa Qa.length Xa,.int .i64 Ja,.int .i64 Ga,.int .i64 Ia,.slice Jb Aa.length yb]) (t:=30) ?hr ?_;(case hd=>rfl);(case hg=>rfl);(case hr=>first|(go_simp;done)|(go_simp;rfl));intro ya hg w4 Sb hb;have Cb:=ga.mk (Na CaH hb);have Eb:=ga.mk (Sb);have Rb:=ga.mk ((by rw [hg];exact (La CaH):w.heap.size ≤ ya));have Gc:=ga.mk ((by rw [hg];exact (La CaH):w.heap.size ≤ ya));clear HB;have HB:=Cb;have oa:=Eb;have Nd:=Rb;have Ta:=Gc;clear Cb Eb Rb Gc hb Sb hg)))
 (try simp only [Act.put,List.setIfInBounds_toArray,List.set_cons_zero,List.set_cons_succ])
 go_cut [17] (fun v17 wc=>∃ (kq:Nat) (ij:Bool),v17 = .bool ij∧ga (Mb.j0 kq l1 ij Qa Ja Ga Ia Aa=some r)∧ga (kq ≤ k)∧ga (wc.heap[ya]? = some (.cells #[(.slice Wa Qa.length Xa),.int .i64 Ja,.int .i64 Ga,.int .i64 Ia,(.slice Jb Aa.length yb)] 30 (0,0)))∧ga (Below w.heap.size w wc))
 case first =>
  have H:=pV.out;clear pV;replace H:=Option.bind_eq_some_iff.mp H;obtain ⟨t102,gN,H⟩:=H;replace H:(if t102=true then (Mb.j0 k l1 ((l1.length:Int) != Ia) Qa Ja Ga Ia Aa) else (Mb.j0 k l1 true Qa Ja Ga Ia Aa))=some r:=H;have A5:=ga.mk gN;clear gN
  by_cases c6:t102=true
  ·subst c6;have H1:(Mb.j0 k l1 ((l1.length:Int) != Ia) Qa Ja Ga Ia Aa)=some r:=by rw [if_pos rfl] at H;exact H
   clear H;have H:=H1;clear H1;have H':=ga.mk H;clear H;have Dk:w4.cell? ⟨ya,0,none⟩=some (.slice Wa Qa.length Xa):=(ia oa.out 0).trans rfl;have Ck:w4.cell? ⟨ya,1,none⟩=some (.int .i64 Ja):=(ia oa.out 1).trans rfl;have Bk:w4.cell? ⟨ya,2,none⟩=some (.int .i64 Ga):=(ia oa.out 2).trans rfl;have Ak:w4.cell? ⟨ya,3,none⟩=some (.int .i64 Ia):=(ia oa.out 3).trans rfl;have zk:w4.cell? ⟨ya,4,none⟩=some (.slice Jb Aa.length yb):=(ia oa.out 4).trans rfl;have xk:=aa oa.out 0;have vk:=aa oa.out 1;have uk:=aa oa.out 2;have sk:=aa oa.out 3;have qk:=aa oa.out 4;go_wp2_with (first|(go_at_call 40;(with_reducible refine (Ya.calls k _ _ Qa Ja Ga Ia _ _ Aa true _ ?yc ?uc ?td ?qd A5.out).mono ?_);(case yc=>repeat (first|exact (Kd.Ab fe.out HB.out)|(with_reducible refine Kd.Lb ?_ _)|(with_reducible refine Kd.Kb ?_ _)|(with_reducible refine Kd.Xb ?_)));(case uc=>exact ye.out);(case td=>repeat (first|exact (Kd.Ab We.out HB.out)|(with_reducible refine Kd.Lb ?_ _)|(with_reducible refine Kd.Kb ?_ _)|(with_reducible refine Kd.Xb ?_)));(case qd=>exact Xf.out);rintro e w8 ⟨rfl,hb⟩;have Cb:=ga.mk (Va (g:=ya) (o:=.cells #[.slice Wa Qa.length Xa,.int .i64 Ja,.int .i64 Ga,.int .i64 Ia,.slice Jb Aa.length yb] 30 (0,0)) DaH hb);have Eb:=ga.mk (Na BaH hb);clear oa HB;have oa:=Cb;have HB:=Eb;clear Cb Eb;(try clear hb);(try clear jj);(try clear hk);(try clear hi);have Qh:w8.cell? ⟨ya,0,none⟩=some (.slice Wa Qa.length Xa):=(ia oa.out 0).trans rfl;have Ph:w8.cell? ⟨ya,1,none⟩=some (.int .i64 Ja):=(ia oa.out 1).trans rfl;have Oh:w8.cell? ⟨ya,2,none⟩=some (.int .i64 Ga):=(ia oa.out 2).trans rfl;have Nh:w8.cell? ⟨ya,3,none⟩=some (.int .i64 Ia):=(ia oa.out 3).trans rfl;have Mh:w8.cell? ⟨ya,4,none⟩=some (.slice Jb Aa.length yb):=(ia oa.out 4).trans rfl;have Lh:=aa oa.out 0;have Kh:=aa oa.out 1;have Jh:=aa oa.out 2;have Ih:=aa oa.out 3;have Hh:=aa oa.out 4))
   repeat (go_quiet (first|(go_at_call 40;(with_reducible refine (Ya.calls k _ _ Qa Ja Ga Ia _ _ Aa true _ ?yc ?uc ?td ?qd A5.out).mono ?_);(case yc=>repeat (first|exact (Kd.Ab fe.out HB.out)|(with_reducible refine Kd.Lb ?_ _)|(with_reducible refine Kd.Kb ?_ _)|(with_reducible refine Kd.Xb ?_)));(case uc=>exact ye.out);(case td=>repeat (first|exact (Kd.Ab We.out HB.out)|(with_reducible refine Kd.Lb ?_ _)|(with_reducible refine Kd.Kb ?_ _)|(with_reducible refine Kd.Xb ?_)));(case qd=>exact Xf.out);rintro e w8 ⟨rfl,hb⟩;have Cb:=ga.mk (Va (g:=ya) (o:=.cells #[.slice Wa Qa.length Xa,.int .i64 Ja,.int .i64 Ga,.int .i64 Ia,.slice Jb Aa.length yb] 30 (0,0)) DaH hb);have Eb:=ga.mk (Na BaH hb);clear oa HB;have oa:=Cb;have HB:=Eb;clear Cb Eb;(try clear hb);(try clear jj);(try clear hk);(try clear hi);have Qh:w8.cell? ⟨ya,0,none⟩=some (.slice Wa Qa.length Xa):=(ia oa.out 0).trans rfl;have Ph:w8.cell? ⟨ya,1,none⟩=some (.int .i64 Ja):=(ia oa.out 1).trans rfl;have Oh:w8.cell? ⟨ya,2,none⟩=some (.int .i64 Ga):=(ia oa.out 2).trans rfl;have Nh:w8.cell? ⟨ya,3,none⟩=some (.int .i64 Ia):=(ia oa.out 3).trans rfl;have Mh:w8.cell? ⟨ya,4,none⟩=some (.slice Jb Aa.length yb):=(ia oa.out 4).trans rfl;have Lh:=aa oa.out 0;have Kh:=aa oa.out 1;have Jh:=aa oa.out 2;have Ih:=aa oa.out 3;have Hh:=aa oa.out 4));try go_wp2_with (first|(go_at_call 40;(with_reducible refine (Ya.calls k _ _ Qa Ja Ga Ia _ _ Aa true _ ?yc ?uc ?td ?qd A5.out).mono ?_);(case yc=>repeat (first|exact (Kd.Ab fe.out HB.out)|(with_reducible refine Kd.Lb ?_ _)|(with_reducible refine Kd.Kb ?_ _)|(with_reducible refine Kd.Xb ?_)));(case uc=>exact ye.out);(case td=>repeat (first|exact (Kd.Ab We.out HB.out)|(with_reducible refine Kd.Lb ?_ _)|(with_reducible refine Kd.Kb ?_ _)|(with_reducible refine Kd.Xb ?_)));(case qd=>exact Xf.out);rintro e w8 ⟨rfl,hb⟩;have Cb:=ga.mk (Va (g:=ya) (o:=.cells #[.slice Wa Qa.length Xa,.int .i64 Ja,.int .i64 Ga,.int .i64 Ia,.slice Jb Aa.length yb] 30 (0,0)) DaH hb);have Eb:=ga.mk (Na BaH hb);clear oa HB;have oa:=Cb;have HB:=Eb;clear Cb Eb;(try clear hb);(try clear jj);(try clear hk);(try clear hi);have Qh:w8.cell? ⟨ya,0,none⟩=some (.slice Wa Qa.length Xa):=(ia oa.out 0).trans rfl;have Ph:w8.cell? ⟨ya,1,none⟩=some (.int .i64 Ja):=(ia oa.out 1).trans rfl;have Oh:w8.cell? ⟨ya,2,none⟩=some (.int .i64 Ga):=(ia oa.out 2).trans rfl;have Nh:w8.cell? ⟨ya,3,none⟩=some (.int .i64 Ia):=(ia oa.out 3).trans rfl;have Mh:w8.cell? ⟨ya,4,none⟩=some (.slice Jb Aa.length yb):=(ia oa.out 4).trans rfl;have Lh:=aa oa.out 0;have Kh:=aa oa.out 1;have Jh:=aa oa.out 2;have Ih:=aa oa.out 3;have Hh:=aa oa.out 4)))
   go_meet
   case rel=>exact ⟨_,(((l1.length:Int) != Ia)),IaH,H',⟨by first|omega|exact Nat.le_refl _⟩,⟨HaH⟩,⟨EaH⟩⟩
  ·replace c6:=Bool.eq_false_iff.mpr c6;subst c6;have H1:(Mb.j0 k l1 true Qa Ja Ga Ia Aa)=some r:=by rw [if_neg (show ¬ (false=true) by decide)] at H;exact H
   clear H;have H:=H1;clear H1;have H':=ga.mk H;clear H;have Ai:w4.cell? ⟨ya,0,none⟩=some (.slice Wa Qa.length Xa):=(ia oa.out 0).trans rfl;have zi:w4.cell? ⟨ya,1,none⟩=some (.int .i64 Ja):=(ia oa.out 1).trans rfl;have si:w4.cell? ⟨ya,2,none⟩=some (.int .i64 Ga):=(ia oa.out 2).trans rfl;have ri:w4.cell? ⟨ya,3,none⟩=some (.int .i64 Ia):=(ia oa.out 3).trans rfl;have qi:w4.cell? ⟨ya,4,none⟩=some (.slice Jb Aa.length yb):=(ia oa.out 4).trans rfl;have ni:=aa oa.out 0;have ki:=aa oa.out 1;have ji:=aa oa.out 2;have ei:=aa oa.out 3;have di:=aa oa.out 4;go_wp2_with (first|(go_at_call 40;(with_reducible refine (Ya.calls k _ _ Qa Ja Ga Ia _ _ Aa false _ ?yc ?uc ?td ?qd A5.out).mono ?_);(case yc=>repeat (first|exact (Kd.Ab fe.out HB.out)|(with_reducible refine Kd.Lb ?_ _)|(with_reducible refine Kd.Kb ?_ _)|(with_reducible refine Kd.Xb ?_)));(case uc=>exact ye.out);(case td=>repeat (first|exact (Kd.Ab We.out HB.out)|(with_reducible refine Kd.Lb ?_ _)|(with_reducible refine Kd.Kb ?_ _)|(with_reducible refine Kd.Xb ?_)));(case qd=>exact Xf.out);rintro e Xj ⟨rfl,hb⟩;have Cb:=ga.mk (Va (g:=ya) (o:=.cells #[.slice Wa Qa.length Xa,.int .i64 Ja,.int .i64 Ga,.int .i64 Ia,.slice Jb Aa.length yb] 30 (0,0)) DaH hb);have Eb:=ga.mk (Na BaH hb);clear oa HB;have oa:=Cb;have HB:=Eb;clear Cb Eb;(try clear hb);(try clear jj);(try clear hk);(try clear hi)))
   repeat (go_quiet (first|(go_at_call 40;(with_reducible refine (Ya.calls k _ _ Qa Ja Ga Ia _ _ Aa false _ ?yc ?uc ?td ?qd A5.out).mono ?_);(case yc=>repeat (first|exact (Kd.Ab fe.out HB.out)|(with_reducible refine Kd.Lb ?_ _)|(with_reducible refine Kd.Kb ?_ _)|(with_reducible refine Kd.Xb ?_)));(case uc=>exact ye.out);(case td=>repeat (first|exact (Kd.Ab We.out HB.out)|(with_reducible refine Kd.Lb ?_ _)|(with_reducible refine Kd.Kb ?_ _)|(with_reducible refine Kd.Xb ?_)));(case qd=>exact Xf.out);rintro e Xj ⟨rfl,hb⟩;have Cb:=ga.mk (Va (g:=ya) (o:=.cells #[.slice Wa Qa.length Xa,.int .i64 Ja,.int .i64 Ga,.int .i64 Ia,.slice Jb Aa.length yb] 30 (0,0)) DaH hb);have Eb:=ga.mk (Na BaH hb);clear oa HB;have oa:=Cb;have HB:=Eb;clear Cb Eb;(try clear hb);(try clear jj);(try clear hk);(try clear hi)));try go_wp2_with (first|(go_at_call 40;(with_reducible refine (Ya.calls k _ _ Qa Ja Ga Ia _ _ Aa false _ ?yc ?uc ?td ?qd A5.out).mono ?_);(case yc=>repeat (first|exact (Kd.Ab fe.out HB.out)|(with_reducible refine Kd.Lb ?_ _)|(with_reducible refine Kd.Kb ?_ _)|(with_reducible refine Kd.Xb ?_)));(case uc=>exact ye.out);(case td=>repeat (first|exact (Kd.Ab We.out HB.out)|(with_reducible refine Kd.Lb ?_ _)|(with_reducible refine Kd.Kb ?_ _)|(with_reducible refine Kd.Xb ?_)));(case qd=>exact Xf.out);rintro e Xj ⟨rfl,hb⟩;have Cb:=ga.mk (Va (g:=ya) (o:=.cells #[.slice Wa Qa.length Xa,.int .i64 Ja,.int .i64 Ga,.int .i64 Ia,.slice Jb Aa.length yb] 30 (0,0)) DaH hb);have Eb:=ga.mk (Na BaH hb);clear oa HB;have oa:=Cb;have HB:=Eb;clear Cb Eb;(try clear hb);(try clear jj);(try clear hk);(try clear hi))))
   go_meet
   case rel=>exact ⟨_,(true),IaH,H',⟨by first|omega|exact Nat.le_refl _⟩,⟨HaH⟩,⟨EaH⟩⟩
 case rest =>
  clear pV
  try clear c1
  try clear c2
  try clear p2
  try clear c6
  try clear Ai
  try clear zi
  try clear si
  try clear ri
  try clear qi
  try clear Dk
  try clear Ck
  try clear Bk
  try clear Ak
  try clear zk
  try clear Qh
  try clear Ph
  try clear Oh
  try clear Nh
  try clear Mh
  try clear ni
  try clear ki
  try clear ji
  try clear ei
  try clear di
  try clear xk
  try clear vk
  try clear uk
  try clear sk
  try clear qk
  try clear Lh
  try clear Kh
  try clear Jh
  try clear Ih
  try clear Hh
  obtain ⟨kq,ij,rfl,HA,ZM,oa,HB⟩:=hcut;cases kq with
  | zero=>exact absurd HA.out (by simp [Mb.j0])
  | succ L2 =>
   have H:=HA.out;clear HA;simp only [Mb.j0] at H
   by_cases gu:ij=true
   ·subst gu;have H1:(some false)=some r:=by rw [if_pos rfl] at H;exact H
    clear H;have H:=H1;clear H1;obtain rfl:=Option.some.inj H;go_wp2
    repeat (go_quiet (fail);try go_wp2)
    go_ret;exact ⟨by first|rfl|(simp [Pa,Oa] <;> rfl)|(simp [*,Pa,Oa] <;> rfl),EaH⟩
   ·replace gu:=Bool.eq_false_iff.mpr gu;subst gu;have H1:((jh.f Qa Ja Ga Ia Aa).bind fun t103=>(Mb.l0 L2 l1 t103 0))=some r:=by rw [if_neg (show ¬ (false=true) by decide)] at H;exact H
    clear H;have H:=H1;clear H1;replace H:=Option.bind_eq_some_iff.mp H;obtain ⟨t103,kN,H⟩:=H;replace H:(Mb.l0 L2 l1 t103 0)=some r:=H;have uV:=ga.mk kN;clear kN;have H':=ga.mk H;clear H;have Eh:wc.cell? ⟨ya,0,none⟩=some (.slice Wa Qa.length Xa):=(ia oa.out 0).trans rfl;have Dh:wc.cell? ⟨ya,1,none⟩=some (.int .i64 Ja):=(ia oa.out 1).trans rfl;have Ch:wc.cell? ⟨ya,2,none⟩=some (.int .i64 Ga):=(ia oa.out 2).trans rfl;have Bh:wc.cell? ⟨ya,3,none⟩=some (.int .i64 Ia):=(ia oa.out 3).trans rfl;have Ah:wc.cell? ⟨ya,4,none⟩=some (.slice Jb Aa.length yb):=(ia oa.out 4).trans rfl;have zh:=aa oa.out 0;have yh:=aa oa.out 1;have xh:=aa oa.out 2;have wh:=aa oa.out 3;have uh:=aa oa.out 4;go_wp2_with (first|(go_at_call 57;(with_reducible refine (jh.calls _ _ Qa Ja Ga Ia _ _ Aa t103 _ ?yc ?uc ?td ?qd uV.out).mono ?_);(case yc=>repeat (first|exact (Kd.Ab fe.out HB.out)|(with_reducible refine Kd.Lb ?_ _)|(with_reducible refine Kd.Kb ?_ _)|(with_reducible refine Kd.Xb ?_)));(case uc=>exact ye.out);(case td=>repeat (first|exact (Kd.Ab We.out HB.out)|(with_reducible refine Kd.Lb ?_ _)|(with_reducible refine Kd.Kb ?_ _)|(with_reducible refine Kd.Xb ?_)));(case qd=>exact Xf.out);rintro e um ⟨tL,rfl,Hi,hb⟩;have Cb:=ga.mk (Kd.Cp Hi (La BaH));have Eb:=ga.mk (Va (g:=ya) (o:=.cells #[.slice Wa Qa.length Xa,.int .i64 Ja,.int .i64 Ga,.int .i64 Ia,.slice Jb Aa.length yb] 30 (0,0)) DaH hb);have Rb:=ga.mk (Na BaH hb);clear oa HB;have Sr:=Cb;have oa:=Eb;have HB:=Rb;clear Cb Eb Rb;(try clear hb);(try clear jj);(try clear hk);(try clear hi);(try clear Hi)))
    repeat (go_quiet (first|(go_at_call 57;(with_reducible refine (jh.calls _ _ Qa Ja Ga Ia _ _ Aa t103 _ ?yc ?uc ?td ?qd uV.out).mono ?_);(case yc=>repeat (first|exact (Kd.Ab fe.out HB.out)|(with_reducible refine Kd.Lb ?_ _)|(with_reducible refine Kd.Kb ?_ _)|(with_reducible refine Kd.Xb ?_)));(case uc=>exact ye.out);(case td=>repeat (first|exact (Kd.Ab We.out HB.out)|(with_reducible refine Kd.Lb ?_ _)|(with_reducible refine Kd.Kb ?_ _)|(with_reducible refine Kd.Xb ?_)));(case qd=>exact Xf.out);rintro e um ⟨tL,rfl,Hi,hb⟩;have Cb:=ga.mk (Kd.Cp Hi (La BaH));have Eb:=ga.mk (Va (g:=ya) (o:=.cells #[.slice Wa Qa.length Xa,.int .i64 Ja,.int .i64 Ga,.int .i64 Ia,.slice Jb Aa.length yb] 30 (0,0)) DaH hb);have Rb:=ga.mk (Na BaH hb);clear oa HB;have Sr:=Cb;have oa:=Eb;have HB:=Rb;clear Cb Eb Rb;(try clear hb);(try clear jj);(try clear hk);(try clear hi);(try clear Hi)));try go_wp2_with (first|(go_at_call 57;(with_reducible refine (jh.calls _ _ Qa Ja Ga Ia _ _ Aa t103 _ ?yc ?uc ?td ?qd uV.out).mono ?_);(case yc=>repeat (first|exact (Kd.Ab fe.out HB.out)|(with_reducible refine Kd.Lb ?_ _)|(with_reducible refine Kd.Kb ?_ _)|(with_reducible refine Kd.Xb ?_)));(case uc=>exact ye.out);(case td=>repeat (first|exact (Kd.Ab We.out HB.out)|(with_reducible refine Kd.Lb ?_ _)|(with_reducible refine Kd.Kb ?_ _)|(with_reducible refine Kd.Xb ?_)));(case qd=>exact Xf.out);rintro e um ⟨tL,rfl,Hi,hb⟩;have Cb:=ga.mk (Kd.Cp Hi (La BaH));have Eb:=ga.mk (Va (g:=ya) (o:=.cells #[.slice Wa Qa.length Xa,.int .i64 Ja,.int .i64 Ga,.int .i64 Ia,.slice Jb Aa.length yb] 30 (0,0)) DaH hb);have Rb:=ga.mk (Na BaH hb);clear oa HB;have Sr:=Cb;have oa:=Eb;have HB:=Rb;clear Cb Eb Rb;(try clear hb);(try clear jj);(try clear hk);(try clear hi);(try clear Hi))))
    go_loopg [6] L2 (fun kq v6 w'=>∃ (Ue:Int),v6 = .int .i64 Ue∧ga (Mb.l0 kq l1 t103 Ue=some r)∧ga (kq ≤ L2)∧ga (Kd.S (Kd.slice 4 Kd.bool) 60 w' w.heap.size (fun _=>True) tL t103)∧ga (w'.heap[ya]? = some (.cells #[(.slice Wa Qa.length Xa),.int .i64 Ja,.int .i64 Ga,.int .i64 Ia,(.slice Jb Aa.length yb)] 30 (0,0)))∧ga (Below w.heap.size w w'))
    case atStart=>exact ⟨(0),IaH,H',⟨Nat.le_refl _⟩,⟨by (with_reducible repeat (first|apply Kd.uf|apply Kd.tf|apply Kd.dg));exact Sr.out⟩,⟨HaH⟩,⟨EaH⟩⟩
    case round =>
     clear H'
     try clear c1
     try clear c2
     try clear p2
     try clear c6
     try clear gu
     try clear Ai
     try clear zi
     try clear si
     try clear ri
     try clear qi
     try clear Eh
     try clear Dh
     try clear Ch
     try clear Bh
     try clear Ah
     try clear Dk
     try clear Ck
     try clear Bk
     try clear Ak
     try clear zk
     try clear Qh
     try clear Ph
     try clear Oh
     try clear Nh
     try clear Mh
     try clear ni
     try clear ki
     try clear ji
     try clear ei
     try clear di
     try clear zh
     try clear yh
     try clear xh
     try clear wh
     try clear uh
     try clear xk
     try clear vk
     try clear uk
     try clear sk
     try clear qk
     try clear Lh
     try clear Kh
     try clear Jh
     try clear Ih
     try clear Hh
     try clear p2
     (try clear HA);(try clear Cm);(try clear Zh);(try clear oa);(try clear HB);obtain ⟨Ue,rfl,HA,Cm,Zh,oa,HB⟩:=hrel;cases gk with
     | zero=>exact absurd HA.out (by simp [Mb.l0])
     | succ k2 =>
      have H:=HA.out;clear HA;simp only [Mb.l0] at H
      by_cases iz:Ue < (l1.length:Int)
      ·rw [if_pos iz] at H;have JM:decide (Ue < (l1.length:Int))=true:=decide_eq_true iz;clear iz
       by_cases Ym:0 ≤ Ue
       ·rw [if_pos Ym] at H;have zm:decide (0 ≤ Ue)=true:=decide_eq_true Ym;clear Ym;replace H:=Option.bind_eq_some_iff.mp H;obtain ⟨t107,iN,H⟩:=H;replace H:(if t107=true then (Mb.l1 k2 l1 t103 Ue 0) else (some false))=some r:=H;have cL:=ga.mk iN;clear iN
        by_cases Ll:t107=true
        ·subst Ll;have H1:(Mb.l1 k2 l1 t103 Ue 0)=some r:=by rw [if_pos rfl] at H;exact H
         clear H;have H:=H1;clear H1;have H':=ga.mk H;clear H;have Yq:0 ≤ (Ue:Int):=Ua;have Wq:Ue < (l1.length:Int):=Ua;obtain ⟨Sv,mK,Al⟩:=Kd.Rf Uo.out Ue Yq Wq;cases mK
         try replace Al:=Sa HB.out Al
         replace Yq:=eq_true Yq;replace Wq:=eq_true Wq;go_wp2_with (first|(go_at_call 53;(with_reducible refine (gb.calls (rd l1 Ue) (-1) 11 true _ cL.out).mono ?_);rintro e w' ⟨rfl,⟨nd,rfl⟩⟩;(try first|exact ⟨rfl,_,World.drewN_drewN _ _ _⟩|exact ⟨rfl,_,Eq.trans (World.drewN_drewN _ _ _) (congrArg (World.drewN _) (Nat.add_assoc _ _ _))⟩)))
         repeat (go_quiet (first|(go_at_call 53;(with_reducible refine (gb.calls (rd l1 Ue) (-1) 11 true _ cL.out).mono ?_);rintro e w' ⟨rfl,⟨nd,rfl⟩⟩;(try first|exact ⟨rfl,_,World.drewN_drewN _ _ _⟩|exact ⟨rfl,_,Eq.trans (World.drewN_drewN _ _ _) (congrArg (World.drewN _) (Nat.add_assoc _ _ _))⟩)));try go_wp2_with (first|(go_at_call 53;(with_reducible refine (gb.calls (rd l1 Ue) (-1) 11 true _ cL.out).mono ?_);rintro e w' ⟨rfl,⟨nd,rfl⟩⟩;(try first|exact ⟨rfl,_,World.drewN_drewN _ _ _⟩|exact ⟨rfl,_,Eq.trans (World.drewN_drewN _ _ _) (congrArg (World.drewN _) (Nat.add_assoc _ _ _))⟩))))
         go_loopg [7] k2 (fun kq v7 w'=>∃ (Ji:Int),v7 = .int .i64 Ji∧ga (Mb.l1 kq l1 t103 Ue Ji=some r)∧ga (kq ≤ k2)∧ga (Kd.S (Kd.slice 4 Kd.bool) 60 w' w.heap.size (fun _=>True) tL t103)∧ga (w'.heap[ya]? = some (.cells #[(.slice Wa Qa.length Xa),.int .i64 Ja,.int .i64 Ga,.int .i64 Ia,(.slice Jb Aa.length yb)] 30 (0,0)))∧ga (Below w.heap.size w w'))
         case atStart=>exact ⟨(0),IaH,H',⟨Nat.le_refl _⟩,⟨naI⟩,⟨HaH⟩,⟨EaH⟩⟩
         case round =>
          clear H'
          try clear c1
          try clear p1
          try clear q1
          try clear hx1
          try clear c2
          try clear p2
          try clear c6
          try clear LG
          try clear JG
          try clear SU
          try clear gu
          try clear iz
          try clear JM
          try clear Ym
          try clear zm
          try clear Ll
          try clear Ai
          try clear zi
          try clear si
          try clear ri
          try clear qi
          try clear Eh
          try clear Dh
          try clear Ch
          try clear Bh
          try clear Ah
          try clear Dk
          try clear Ck
          try clear Bk
          try clear Ak
          try clear zk
          try clear Qh
          try clear Ph
          try clear Oh
          try clear Nh
          try clear Mh
          try clear ni
          try clear ki
          try clear ji
          try clear ei
          try clear di
          try clear zh
          try clear yh
          try clear xh
          try clear wh
          try clear uh
          try clear xk
          try clear vk
          try clear uk
          try clear sk
          try clear qk
          try clear Lh
          try clear Kh
          try clear Jh
          try clear Ih
          try clear Hh
          try clear Al
          try clear Yq
          try clear p2
          try clear Wq
          (try clear HA);(try clear Rp);(try clear Zh);(try clear oa);(try clear HB);obtain ⟨Ji,rfl,HA,Rp,Zh,oa,HB⟩:=hrel;cases gk with
          | zero=>exact absurd HA.out (by simp [Mb.l1])
          | succ k3 =>
           have H:=HA.out;clear HA;simp only [Mb.l1] at H
           by_cases vm:Ji < Ue
           ·rw [if_pos vm] at H;have Jr:decide (Ji < Ue)=true:=decide_eq_true vm;clear vm
            by_cases Ir:0 ≤ Ue
            ·rw [if_pos Ir] at H;have GM:decide (0 ≤ Ue)=true:=decide_eq_true Ir;clear Ir
             by_cases bH:Ue < (t103.length:Int)
             ·rw [if_pos bH] at H;have Xaj:decide (Ue < (t103.length:Int))=true:=decide_eq_true bH;clear bH
              by_cases Dy:0 ≤ Ji
              ·rw [if_pos Dy] at H;have AF:decide (0 ≤ Ji)=true:=decide_eq_true Dy;clear Dy
               by_cases zF:Ji < ((Rc t103 Ue).length:Int)
               ·rw [if_pos zF] at H;have ZX:decide (Ji < ((Rc t103 Ue).length:Int))=true:=decide_eq_true zF;clear zF;obtain ⟨cak,EX⟩:∃ b_:Bool,b_=(sg false (Rc t103 Ue) Ji):=⟨_,rfl⟩;replace H:(if cak=true then (if Ue < (l1.length:Int) then (if (rd l1 Ue) ≥ 0 then (if Ji < (l1.length:Int) then (if (rd l1 Ue)=(rd l1 Ji) then (some false) else (Mb.l1 k3 l1 t103 Ue (wrap64 (Ji + 1)))) else (none)) else (Mb.l1 k3 l1 t103 Ue (wrap64 (Ji + 1)))) else (none)) else (Mb.l1 k3 l1 t103 Ue (wrap64 (Ji + 1))))=some r:=by rw [← EX] at H;exact H
                have KT:=ga.mk EX;clear EX
                by_cases gG:cak=true
                ·subst gG;have H1:(if Ue < (l1.length:Int) then (if (rd l1 Ue) ≥ 0 then (if Ji < (l1.length:Int) then (if (rd l1 Ue)=(rd l1 Ji) then (some false) else (Mb.l1 k3 l1 t103 Ue (wrap64 (Ji + 1)))) else (none)) else (Mb.l1 k3 l1 t103 Ue (wrap64 (Ji + 1)))) else (none))=some r:=by rw [if_pos rfl] at H;exact H
                 clear H;have H:=H1;clear H1
                 by_cases UC:Ue < (l1.length:Int)
                 ·rw [if_pos UC] at H;have YX:decide (Ue < (l1.length:Int))=true:=decide_eq_true UC;clear UC
                  by_cases yF:(rd l1 Ue) ≥ 0
                  ·rw [if_pos yF] at H;have FM:decide (0 ≤ (rd l1 Ue))=true:=decide_eq_true yF;clear yF
                   by_cases wB:Ji < (l1.length:Int)
                   ·rw [if_pos wB] at H;have Cy:decide (Ji < (l1.length:Int))=true:=decide_eq_true wB;clear wB
                    by_cases dz:(rd l1 Ue)=(rd l1 Ji)
                    ·rw [if_pos dz] at H;have TC:((rd l1 Ue) == (rd l1 Ji))=true:=beq_iff_eq.mpr dz;have rT:((rd l1 Ue) != (rd l1 Ji))=false:=bne_eq_false_iff_eq.mpr dz;clear dz;obtain rfl:=Option.some.inj H;obtain ⟨Kay,bac,b7⟩:=Kd.Bi Zh.out;subst b7;have cq:0 ≤ (Ue:Int):=Ua;have bq:Ue < (t103.length:Int):=Ua;obtain ⟨ou,AP,UO,lK,Bn,Sn,Un⟩:=Qo (Kd.me Zh.out).2.2 Ue cq bq;cases lK;obtain ⟨RX,Ty,Uy,vr⟩:=Kd.Gy Zh.out [] Ue cq (by first|exact bq|exact Ua|(have e_:=(Kd.me Zh.out).1;omega));obtain ⟨sH,rfl,Ek⟩:=Uy;have th:=vr 0 _ rfl;rw [Nat.add_zero,show ((Kd.slice 4 Kd.bool)).sz=1 from rfl,Nat.mul_one] at th;replace th:=Option.some.inj (th.symm.trans Bn);rw [th] at Ek;have RK:=ga.mk (show Kd.R Kd.bool 4 _ _ _ _ (Rc t103 Ue) from Ek);clear th Ek vr Ty;have Ao:=ga.mk Un;have VK:=ga.mk Sn;clear Un Sn;replace cq:=eq_true cq;replace bq:=eq_true bq;have cg:0 ≤ (Ji:Int):=Ua;have bg:Ji < ((Rc t103 Ue).length:Int):=Ua;obtain ⟨Tf,Yk,Pd⟩:=Kd.Mg gaI Ji cg bg;(try rw [← KT.out] at Pd);cases Yk;replace cg:=eq_true cg;replace bg:=eq_true bg;have Vi:0 ≤ (Ue:Int):=Ua;have Ui:Ue < (l1.length:Int):=Ua;obtain ⟨xo,Cr,Oe⟩:=Kd.Rf Uo.out Ue Vi Ui;obtain rfl:Sv=xo:=(by injection Cr)
                     try replace Oe:=Sa HB.out Oe
                     replace Vi:=eq_true Vi;replace Ui:=eq_true Ui;have Nt:0 ≤ (Ue:Int):=Ua;have Mt:Ue < (l1.length:Int):=Ua;obtain ⟨Hj,kK,Kj⟩:=Kd.Rf Uo.out Ue Nt Mt;obtain rfl:Sv=Hj:=(by injection kK)
                     try replace Kj:=Sa HB.out Kj
                     replace Nt:=eq_true Nt;replace Mt:=eq_true Mt;have Oy:0 ≤ (Ji:Int):=Ua;have My:Ji < (l1.length:Int):=Ua;obtain ⟨EF,EO,zn⟩:=Kd.Rf Uo.out Ji Oy My;obtain rfl:Sv=EF:=(by injection EO)
                     try replace zn:=Sa HB.out zn
                     replace Oy:=eq_true Oy;replace My:=eq_true My;go_wp2
                     repeat (go_quiet (fail);try go_wp2)
                     go_ret;exact ⟨by first|rfl|(simp [Pa,Oa] <;> rfl)|(simp [*,Pa,Oa] <;> rfl),EaH⟩
                    ·rw [if_neg dz] at H;have TC:((rd l1 Ue) == (rd l1 Ji))=false:=beq_eq_false_iff_ne.mpr dz;have rT:((rd l1 Ue) != (rd l1 Ji))=true:=bne_iff_ne.mpr dz;have H':=ga.mk H;clear H;obtain ⟨zaG,WaE,Xaw⟩:=Kd.Bi Zh.out;subst Xaw;have cq:0 ≤ (Ue:Int):=Ua;have bq:Ue < (t103.length:Int):=Ua;obtain ⟨ou,AP,UO,lK,Bn,Sn,Un⟩:=Qo (Kd.me Zh.out).2.2 Ue cq bq;cases lK;obtain ⟨RX,Ty,Uy,vr⟩:=Kd.Gy Zh.out [] Ue cq (by first|exact bq|exact Ua|(have e_:=(Kd.me Zh.out).1;omega));obtain ⟨sH,rfl,Ek⟩:=Uy;have th:=vr 0 _ rfl;rw [Nat.add_zero,show ((Kd.slice 4 Kd.bool)).sz=1 from rfl,Nat.mul_one] at th;replace th:=Option.some.inj (th.symm.trans Bn);rw [th] at Ek;have RK:=ga.mk (show Kd.R Kd.bool 4 _ _ _ _ (Rc t103 Ue) from Ek);clear th Ek vr Ty;have Ao:=ga.mk Un;have VK:=ga.mk Sn;clear Un Sn;replace cq:=eq_true cq;replace bq:=eq_true bq;have cg:0 ≤ (Ji:Int):=Ua;have bg:Ji < ((Rc t103 Ue).length:Int):=Ua;obtain ⟨Tf,Yk,Pd⟩:=Kd.Mg gaI Ji cg bg;(try rw [← KT.out] at Pd);cases Yk;replace cg:=eq_true cg;replace bg:=eq_true bg;have Vi:0 ≤ (Ue:Int):=Ua;have Ui:Ue < (l1.length:Int):=Ua;obtain ⟨xo,Cr,Oe⟩:=Kd.Rf Uo.out Ue Vi Ui;obtain rfl:Sv=xo:=(by injection Cr)
                     try replace Oe:=Sa HB.out Oe
                     replace Vi:=eq_true Vi;replace Ui:=eq_true Ui;have Nt:0 ≤ (Ue:Int):=Ua;have Mt:Ue < (l1.length:Int):=Ua;obtain ⟨Hj,kK,Kj⟩:=Kd.Rf Uo.out Ue Nt Mt;obtain rfl:Sv=Hj:=(by injection kK)
                     try replace Kj:=Sa HB.out Kj
                     replace Nt:=eq_true Nt;replace Mt:=eq_true Mt;have Oy:0 ≤ (Ji:Int):=Ua;have My:Ji < (l1.length:Int):=Ua;obtain ⟨EF,EO,zn⟩:=Kd.Rf Uo.out Ji Oy My;obtain rfl:Sv=EF:=(by injection EO)
                     try replace zn:=Sa HB.out zn
                     replace Oy:=eq_true Oy;replace My:=eq_true My;go_wp2
                     repeat (go_quiet (fail);try go_wp2)
                     go_roundg k3
                     case measure=>have:=ZM.out;have:=Cm.out;have:=Rp.out;omega
                     case rel=>exact ⟨(wrap64 (Ji + 1)),IaH,H',⟨by have:=ZM.out;have:=Cm.out;have:=Rp.out;omega⟩,⟨naI⟩,⟨HaH⟩,⟨EaH⟩⟩
                   ·rw [if_neg wB] at H;exact absurd H (by simp)
                  ·rw [if_neg yF] at H;have FM:decide (0 ≤ (rd l1 Ue))=false:=decide_eq_false yF;clear yF;have H':=ga.mk H;clear H;obtain ⟨yaG,VaE,Waw⟩:=Kd.Bi Zh.out;subst Waw;have cq:0 ≤ (Ue:Int):=Ua;have bq:Ue < (t103.length:Int):=Ua;obtain ⟨ou,AP,UO,lK,Bn,Sn,Un⟩:=Qo (Kd.me Zh.out).2.2 Ue cq bq;cases lK;obtain ⟨RX,Ty,Uy,vr⟩:=Kd.Gy Zh.out [] Ue cq (by first|exact bq|exact Ua|(have e_:=(Kd.me Zh.out).1;omega));obtain ⟨sH,rfl,Ek⟩:=Uy;have th:=vr 0 _ rfl;rw [Nat.add_zero,show ((Kd.slice 4 Kd.bool)).sz=1 from rfl,Nat.mul_one] at th;replace th:=Option.some.inj (th.symm.trans Bn);rw [th] at Ek;have RK:=ga.mk (show Kd.R Kd.bool 4 _ _ _ _ (Rc t103 Ue) from Ek);clear th Ek vr Ty;have Ao:=ga.mk Un;have VK:=ga.mk Sn;clear Un Sn;replace cq:=eq_true cq;replace bq:=eq_true bq;have cg:0 ≤ (Ji:Int):=Ua;have bg:Ji < ((Rc t103 Ue).length:Int):=Ua;obtain ⟨Tf,Yk,Pd⟩:=Kd.Mg gaI Ji cg bg;(try rw [← KT.out] at Pd);cases Yk;replace cg:=eq_true cg;replace bg:=eq_true bg;have Vi:0 ≤ (Ue:Int):=Ua;have Ui:Ue < (l1.length:Int):=Ua;obtain ⟨xo,Cr,Oe⟩:=Kd.Rf Uo.out Ue Vi Ui;obtain rfl:Sv=xo:=(by injection Cr)
                   try replace Oe:=Sa HB.out Oe
                   replace Vi:=eq_true Vi;replace Ui:=eq_true Ui;go_wp2
                   repeat (go_quiet (fail);try go_wp2)
                   go_roundg k3
                   case measure=>have:=ZM.out;have:=Cm.out;have:=Rp.out;omega
                   case rel=>exact ⟨(wrap64 (Ji + 1)),IaH,H',⟨by have:=ZM.out;have:=Cm.out;have:=Rp.out;omega⟩,⟨naI⟩,⟨HaH⟩,⟨EaH⟩⟩
                 ·rw [if_neg UC] at H;exact absurd H (by simp)
                ·replace gG:=Bool.eq_false_iff.mpr gG;subst gG;have H1:(Mb.l1 k3 l1 t103 Ue (wrap64 (Ji + 1)))=some r:=by rw [if_neg (show ¬ (false=true) by decide)] at H;exact H
                 clear H;have H:=H1;clear H1;have H':=ga.mk H;clear H;obtain ⟨xaG,UaE,Vaw⟩:=Kd.Bi Zh.out;subst Vaw;have cq:0 ≤ (Ue:Int):=Ua;have bq:Ue < (t103.length:Int):=Ua;obtain ⟨ou,AP,UO,lK,Bn,Sn,Un⟩:=Qo (Kd.me Zh.out).2.2 Ue cq bq;cases lK;obtain ⟨RX,Ty,Uy,vr⟩:=Kd.Gy Zh.out [] Ue cq (by first|exact bq|exact Ua|(have e_:=(Kd.me Zh.out).1;omega));obtain ⟨sH,rfl,Ek⟩:=Uy;have th:=vr 0 _ rfl;rw [Nat.add_zero,show ((Kd.slice 4 Kd.bool)).sz=1 from rfl,Nat.mul_one] at th;replace th:=Option.some.inj (th.symm.trans Bn);rw [th] at Ek;have RK:=ga.mk (show Kd.R Kd.bool 4 _ _ _ _ (Rc t103 Ue) from Ek);clear th Ek vr Ty;have Ao:=ga.mk Un;have VK:=ga.mk Sn;clear Un Sn;replace cq:=eq_true cq;replace bq:=eq_true bq;have cg:0 ≤ (Ji:Int):=Ua;have bg:Ji < ((Rc t103 Ue).length:Int):=Ua;obtain ⟨Tf,Yk,Pd⟩:=Kd.Mg gaI Ji cg bg;(try rw [← KT.out] at Pd);cases Yk;replace cg:=eq_true cg;replace bg:=eq_true bg;go_wp2
                 repeat (go_quiet (fail);try go_wp2)
                 go_roundg k3
                 case measure=>have:=ZM.out;have:=Cm.out;have:=Rp.out;omega
                 case rel=>exact ⟨(wrap64 (Ji + 1)),IaH,H',⟨by have:=ZM.out;have:=Cm.out;have:=Rp.out;omega⟩,⟨naI⟩,⟨HaH⟩,⟨EaH⟩⟩
               ·rw [if_neg zF] at H;exact absurd H (by simp)
              ·rw [if_neg Dy] at H;exact absurd H (by simp)
             ·rw [if_neg bH] at H;exact absurd H (by simp)
            ·rw [if_neg Ir] at H;exact absurd H (by simp)
           ·rw [if_neg vm] at H;have Jr:decide (Ji < Ue)=false:=decide_eq_false vm;clear vm;have H':=ga.mk H;clear H;go_wp2
            repeat (go_quiet (fail);try go_wp2)
            go_roundg k3
            case measure=>have:=ZM.out;have:=Cm.out;have:=Rp.out;omega
            case rel=>exact ⟨(wrap64 (Ue + 1)),IaH,H',⟨by have:=ZM.out;have:=Cm.out;have:=Rp.out;omega⟩,⟨naI⟩,⟨HaH⟩,⟨EaH⟩⟩
        ·replace Ll:=Bool.eq_false_iff.mpr Ll;subst Ll;have H1:(some false)=some r:=by rw [if_neg (show ¬ (false=true) by decide)] at H;exact H
         clear H;have H:=H1;clear H1;obtain rfl:=Option.some.inj H;have Yq:0 ≤ (Ue:Int):=Ua;have Wq:Ue < (l1.length:Int):=Ua;obtain ⟨Sv,mK,Al⟩:=Kd.Rf Uo.out Ue Yq Wq;cases mK
         try replace Al:=Sa HB.out Al
         replace Yq:=eq_true Yq;replace Wq:=eq_true Wq;go_wp2_with (first|(go_at_call 53;(with_reducible refine (gb.calls (rd l1 Ue) (-1) 11 false _ cL.out).mono ?_);rintro e w' ⟨rfl,⟨nd,rfl⟩⟩;(try first|exact ⟨rfl,_,World.drewN_drewN _ _ _⟩|exact ⟨rfl,_,Eq.trans (World.drewN_drewN _ _ _) (congrArg (World.drewN _) (Nat.add_assoc _ _ _))⟩)))
         repeat (go_quiet (first|(go_at_call 53;(with_reducible refine (gb.calls (rd l1 Ue) (-1) 11 false _ cL.out).mono ?_);rintro e w' ⟨rfl,⟨nd,rfl⟩⟩;(try first|exact ⟨rfl,_,World.drewN_drewN _ _ _⟩|exact ⟨rfl,_,Eq.trans (World.drewN_drewN _ _ _) (congrArg (World.drewN _) (Nat.add_assoc _ _ _))⟩)));try go_wp2_with (first|(go_at_call 53;(with_reducible refine (gb.calls (rd l1 Ue) (-1) 11 false _ cL.out).mono ?_);rintro e w' ⟨rfl,⟨nd,rfl⟩⟩;(try first|exact ⟨rfl,_,World.drewN_drewN _ _ _⟩|exact ⟨rfl,_,Eq.trans (World.drewN_drewN _ _ _) (congrArg (World.drewN _) (Nat.add_assoc _ _ _))⟩))))
         go_ret;exact ⟨by first|rfl|(simp [Pa,Oa] <;> rfl)|(simp [*,Pa,Oa] <;> rfl),EaH⟩
       ·rw [if_neg Ym] at H;exact absurd H (by simp)
      ·rw [if_neg iz] at H;have JM:decide (Ue < (l1.length:Int))=false:=decide_eq_false iz;clear iz;obtain rfl:=Option.some.inj H;go_wp2
       repeat (go_quiet (fail);try go_wp2)
       go_ret;exact ⟨by first|rfl|(simp [Pa,Oa] <;> rfl)|(simp [*,Pa,Oa] <;> rfl),EaH⟩
end Go.Proofs.Ytkigbdceceeenaa.P
end
