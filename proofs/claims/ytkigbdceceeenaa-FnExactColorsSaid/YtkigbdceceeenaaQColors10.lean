import Derived.Shelf.Abstract
import Derived.Outline
import Derived.RegionTactic
import Derived.StillTailTactics
import Derived.Test.YtkigbdceceeenaaQColors1
import Derived.Test.YtkigbdceceeenaaQColors8
import Derived.Test.YtkigbdceceeenaaQColors9
import Derived.Test.YtkigbdceceeenaaQColors7
import Derived.Test.YtkigbdceceeenaaQColors4
import Derived.Test.YtkigbdceceeenaaQColors3
import Derived.Test.YtkigbdceceeenaaQColors2
set_option maxHeartbeats 16000000
set_option maxRecDepth 100000
section
namespace Go.Proofs.Ytkigbdceceeenaa.P
open Go.RowKit Go.Proofs.Ma.Tb Go.Proofs.Ma.Gd Go.Proofs.Ma.De
set_option linter.unusedVariables false
set_option linter.unusedSimpArgs false
theorem XV (P:Program) (w:World) (a:Addr) (m:Mode) (fn:Fn) (x y:Array Value):(store a (.func fn x y) m).run P w=stored P w a (.func fn x y) m:=run_store P w a _ m rfl
attribute [local go_sem] XV
noncomputable def rj.f (Qa:List Int) (Ja:Int) (Ga:Int) (Ia:Int) (Aa:List (Je)):Option (List (List Bool)):=open Classical in if 0 ≤ Ia∧mm Aa Ia.toNat then some (Gp Aa Ia.toNat) else none
theorem vv {N:Nat} {w w5 w9:World} {S:Nat→Prop} (h:Below N w w5) (hN:N ≤ w5.heap.size) (hk:Kept w5 w9 S) (hS:∀ k,S k→N ≤ k) (hb:Below 0 w5 w9):Below N w w9 :=
 h.trans ⟨hb.os,hb.tape,hb.output,hk.1,fun k h1=>hk.2 k (by omega) (fun e=>by have:=hS k e;omega)⟩
theorem nH {s:List Bool} {a:Nat}:(a:Int) ∈ Fm s s.length ↔ seen s a=true:=by
 unfold Fm;rw [List.mem_map]
 constructor
 ·rintro ⟨u,hu,he⟩;obtain rfl:u=a:=by omega
  exact (List.mem_filter.1 hu).2
 ·intro h;exact ⟨a,List.mem_filter.2 ⟨List.mem_range.2 (Yl h),h⟩,rfl⟩
theorem DU {s:List Bool} {z:Int} (h:z ∈ Fm s s.length):∃ a:Nat,z=(a:Int)∧a < s.length:=by
 unfold Fm at h;obtain ⟨u,hu,he⟩:=List.mem_map.1 h;exact ⟨u,he.symm,List.mem_range.1 (List.mem_filter.1 hu).1⟩
theorem lI {xs:List Int} {A:Option Addr} {W:World} {i:Nat} (hC:Kd.C (Kd.int .i64) W A xs.length xs) (hi:i < xs.length):∃ ad:Addr,A=some ad∧W.cell? (ad.add i)=some (.int .i64 xs[i]):=by
 obtain ⟨ad,e1,hx⟩:=Kd.Bi hC (i:Int) (by omega) (by omega);rw [Int.toNat_natCast,Kj hi] at hx;exact ⟨ad,e1,hx⟩
theorem rj.calls (Ya:Option Addr) (Za:Nat) (Qa:List Int) (Ja:Int) (Ga:Int) (Ia:Int) (Mb:Option Addr) (Cb:Nat) (Aa:List (Je)) (r:List (List Bool)) (w:World) (Ud:Kd.C (Kd.int .i64) w Ya Qa.length Qa) (Rd:Qa.length ≤ Za) (yf:Kd.C Fq w Mb Aa.length Aa) (kf:Aa.length ≤ Cb) (h:rj.f Qa Ja Ga Ia Aa=some r) :
  Calls Try.prog 59 #[.agg #[.slice Ya Qa.length Za,.int .i64 Ja,.int .i64 Ga,.int .i64 Ia,.slice Mb Aa.length Cb]] w fun e w'=>∃ Nl:Value,e = .returned (Nl)∧Kd.S (Kd.slice 4 Kd.bool) 60 w' w.heap.size (fun _=>True) Nl r∧Below w.heap.size w w':=by
 unfold rj.f at h
 by_cases hf:0 ≤ Ia∧mm Aa Ia.toNat
 case neg=>rw [if_neg hf] at h;cases h
 rw [if_pos hf] at h;obtain rfl:=Option.some.inj h;obtain ⟨hn0,hO⟩:=hf;obtain ⟨n,rfl⟩:∃ n:Nat,Ia=(n:Int):=⟨Ia.toNat,(Int.toNat_of_nonneg hn0).symm⟩;rw [Int.toNat_natCast] at hO ⊢;clear h hn0;have HO:=ga.mk hO;have hn:n ≤ 1048576:=hO.2.1;have hm0:0 < Aa.length:=hO.1.1;have hm1:Aa.length ≤ 1048576:=hO.1.2.1;clear hO;have ym:=ga.mk Ud;have NH:=ga.mk yf;have fU:=ga.mk Rd;have jN:=ga.mk kf;obtain ⟨W1,qg⟩:∃ W1,W1=(((w.alloc (.cells #[.slice Ya Qa.length Za,.int .i64 Ja,.int .i64 Ga,.int .i64 (n:Int),.slice Mb Aa.length Cb] 30 (0,0))).alloc (.cells #[] 60 (0,0))).alloc (.cells #[.slice (some ⟨w.heap.size + 1,0,none⟩) 0 0] 55 (0,0))):=⟨_,rfl⟩;have HW:=ga.mk qg
 have HAV:=ga.mk (show ur w (Ty Ya Qa.length Za Ja Ga n Mb Aa.length Cb) (fun k=>k=w.heap.size + 1) (.slice (some ⟨w.heap.size + 1,0,none⟩) 0 0) (.slice none 0 0) [] [] W1∧W1.heap[w.heap.size + 2]? = some (.cells #[.slice (some ⟨w.heap.size + 1,0,none⟩) 0 0] 55 (0,0)) from by
  have z1:(w.alloc (.cells #[.slice Ya Qa.length Za,.int .i64 Ja,.int .i64 Ga,.int .i64 (n:Int),.slice Mb Aa.length Cb] 30 (0,0))).heap.size=w.heap.size + 1:=by simp
  have b1:=xj w (.cells #[.slice Ya Qa.length Za,.int .i64 Ja,.int .i64 Ga,.int .i64 (n:Int),.slice Mb Aa.length Cb] 30 (0,0));have e1:=qa (Below.refl w.heap.size w) (.cells #[.slice Ya Qa.length Za,.int .i64 Ja,.int .i64 Ga,.int .i64 (n:Int),.slice Mb Aa.length Cb] 30 (0,0));rw [qg];generalize w.alloc (.cells #[.slice Ya Qa.length Za,.int .i64 Ja,.int .i64 Ga,.int .i64 (n:Int),.slice Mb Aa.length Cb] 30 (0,0))=u1 at z1 b1 e1 ⊢;have z2:(u1.alloc (.cells #[] 60 (0,0))).heap.size=w.heap.size + 2:=by simp [z1]
  have s1:=DB (Kd.slice 4 Kd.bool) 60 u1 w.heap.size (by omega);have e2:=qa (Below.refl u1.heap.size u1) (.cells #[] 60 (0,0));rw [z1] at s1;generalize u1.alloc (.cells #[] 60 (0,0))=u2 at z2 s1 e2 ⊢;have b2:=xj u2 (.cells #[.slice (some ⟨w.heap.size + 1,0,none⟩) 0 0] 55 (0,0));have e3:=qa (Below.refl u2.heap.size u2) (.cells #[.slice (some ⟨w.heap.size + 1,0,none⟩) 0 0] 55 (0,0));have z3:(u2.alloc (.cells #[.slice (some ⟨w.heap.size + 1,0,none⟩) 0 0] 55 (0,0))).heap.size=w.heap.size + 3:=by simp [z2]
  rw [z2] at b2
  exact ⟨⟨Ra (Ra e1 e2) e3,Va (Va b1 e2) e3,Kd.Oh s1 e3,Kd.BM _ _ _ _ _,fun k hk=>⟨by omega,by omega⟩⟩,b2⟩)
 have Jac:=ga.mk (show ¬ (fun k=>k=w.heap.size + 1) (w.heap.size + 2) from fun e=>by have e:w.heap.size + 2=w.heap.size + 1:=e;omega);clear qg Ud yf Rd kf;go_enter Try.func59,Try.ntmps59
 go_upto_region 2 with (fail)
 rw [← HW.out];clear HW;have HA:=ga.mk HAV.out.1;have HV:=ga.mk HAV.out.2;clear HAV;have HQB:=ga.mk (show w.heap.size < w.heap.size + 2 from by omega);generalize w.heap.size + 2=q at HV Jac HQB ⊢;generalize (Value.slice (some ⟨w.heap.size + 1,0,none⟩) 0 0)=v0 at HA HV ⊢;have Hq:=nD HA.out;go_wp2;clear Hq
 go_loopg [14] n (fun gg v14 wr=>∃ (j:Nat) (PB:Nat→Prop) (v:Value),v14 = .int .i64 j∧j ≤ n∧n - j ≤ gg∧ga (ur w (Ty Ya Qa.length Za Ja Ga n Mb Aa.length Cb) PB v (.slice none 0 0) (List.replicate j (List.replicate n false)) [] wr)∧ga (wr.heap[q]? = some (.cells #[v] 55 (0,0)))∧ga (¬ PB q))
 case atStart=>exact ⟨0,_,_,rfl,Nat.zero_le _,by omega,HA,HV,Jac⟩
 case round =>
  clear HA HV Jac;(try clear PB);(try clear HA);(try clear HV);(try clear HPQ);obtain ⟨j,PB,v,rfl,hj,AV,HA,HV,HPQ⟩:=hrel
  by_cases hlt:j < n
  ·have Ns:decide ((j:Int) < (n:Int))=true:=decide_eq_true (by omega);have O8:(0:Int) ≤ (n:Int):=by omega
   have f_:=ga.mk (show ((n:Int)).toNat * 1 ≤ 281474976710656 from by omega);have HLL:=ga.mk (show ((List.replicate j (List.replicate n false)).length + 1) * 24 ≤ 140737488355328 from by rw [List.length_replicate];omega)
   go_upto_region 4 with (fail)
   have oZ:=ga.mk (HA.out.below (vo (Below.refl wr.heap.size wr)));have HVd:=ga.mk (show wr.drew.heap[q]? = some (.cells #[v] 55 (0,0)) from HV.out);clear HA HV;refine uo (n:=7) (S:=fun w'=>w'.cell? ⟨q,0,none⟩=some v∧w'.cell? ⟨w.heap.size,3,none⟩=some (.int .i64 (n:Int))) (ds:=[6]) #[false,false,false,false,false,false,false] (by kernel_rfl) rfl rfl ⟨(ia HVd.out 0).trans rfl,nD oZ.out⟩ (fun hHeld=>?_);generalize wr.drew=wd at oZ HVd hHeld ⊢;refine Od (i:=1) (N:=some 17) (v:=?_) (a':=?_) #[false,true,false,false,false,false,false] rfl rfl (by kernel_rfl) (fun _ _ _ h=>h) (Or.inl ⟨by rfl,?_⟩) ?_ ?_;rotate_left
   ·intro w';go_simp;with_reducible rfl
   rotate_left
   ·simp only [Act.put,List.setIfInBounds_toArray,List.set_cons_zero,List.set_cons_succ,nc,oc]
    rfl
   refine Qh (i:=0) (N:=some 16) (v:=?_) (a':=?_) #[true,true,false,false,false,false,false] rfl rfl (by kernel_rfl) (fun _ _ _ h=>h) (Or.inl ⟨by rfl,?_⟩) hHeld ?_ ?_;rotate_left
   ·rintro w' ⟨s0,s1⟩;go_simp;with_reducible rfl
   rotate_left
   ·simp only [Act.put,List.setIfInBounds_toArray,List.set_cons_zero,List.set_cons_succ,nc,oc]
    rfl
   refine Qh (i:=2) (N:=some 18) (v:=?_) (a':=?_) #[true,true,true,false,false,false,false] rfl rfl (by kernel_rfl) (fun _ _ _ h=>h) (Or.inl ⟨by rfl,?_⟩) hHeld ?_ ?_;rotate_left
   ·rintro w' ⟨s0,s1⟩;go_simp;with_reducible rfl
   rotate_left
   ·simp only [Act.put,List.setIfInBounds_toArray,List.set_cons_zero,List.set_cons_succ,nc,oc]
    rfl
   refine rz (i:=3) (N:=some 19) #[true,true,true,true,false,false,false] rfl rfl (by kernel_rfl) (by decide) (fun K hK=>?_);refine Kd.DM Kd.bool (w0:=wd) wd.heap.size 4 (by rfl) (N:=19) rfl 60 _ _ rfl (n:Int) rfl rfl Try.underlying60 (.bool false) 1 Ir rfl (by decide) (by omega) false (ok:=fun k=>wd.heap.size ≤ k) (Dh:=fun k=>wd.heap.size ≤ k) rfl (fun _ hk=>hk) (Nat.le_refl _) O8 f_.out (Below.refl _ _) (Nat.le_refl _) ?_;intro v19 Jt ho hb hg hat;rw [Int.toNat_natCast] at ho;obtain ⟨A19,lp,Bae⟩:=Kd.od ho;rw [List.length_replicate] at Bae;subst Bae;have sax:=ga.mk (JP ho oZ.out.bl.size);have Ny:=ga.mk hb;have rV:=ga.mk (Ra oZ.out.bl hb);have zak:=ga.mk (Va HVd.out hb);clear ho hb hg hat;refine hK.out _ _ ⟨(ia zak.out 0).trans rfl,nD (oZ.out.below Ny.out)⟩ (fun hHeld=>?_);clear hK K;refine Dq (a':=?_) ?_ ?_;rotate_left
   ·show Act.put _ (some 19) _=_
    simp only [Act.put,List.setIfInBounds_toArray,List.set_cons_zero,List.set_cons_succ,nc,oc]
    rfl
   refine rz (i:=4) (N:=some 20) #[true,true,true,true,true,false,false] rfl rfl (by kernel_rfl) (by decide) (fun K hK=>?_);refine K_ (w1:=?_) (v:=?_) (by rfl) rfl ?_ ?_;rotate_left 2
   ·go_simp
    constructor
    ·rfl
    ·rfl
   refine hK.out _ _ ⟨(ia (Va zak.out (qa (Below.refl _ _) _)) 0).trans rfl,nD ((oZ.out.below Ny.out).below (qa (Below.refl _ _) _))⟩ (fun hHeld=>?_);clear hK K;refine Dq (a':=?_) ?_ ?_;rotate_left
   ·show Act.put _ (some 20) _=_
    simp only [Act.put,List.setIfInBounds_toArray,List.set_cons_zero,List.set_cons_succ,nc,oc]
    rfl
   refine rz (i:=5) (N:=some 21) #[true,true,true,true,true,true,false] rfl rfl (by kernel_rfl) (by decide) (fun K hK=>?_);refine Kd.XG (Kd.slice 4 Kd.bool) (w0:=w) w.heap.size (by rfl) (.tmp 16) (.tmp 20) 55 60 (.slice none 0 0) 24 rfl Try.underlying55 BF rfl (by decide) (by omega) v (List.replicate j (List.replicate n false)) (List.replicate n false) [.slice A19 n lp] (fun k=>PB k ∨ wd.heap.size ≤ k) (fun k=>wd.heap.size ≤ k) rfl rfl sax.out oZ.out.neX (oZ.out.frX Ny.out) (oZ.out.okX Ny.out) rV.out rV.out.size HLL.out ?_;intro v21 Br hs hb hg hat;obtain ⟨z_,Hs,Aae⟩:=Kd.Wj hs;rw [← List.replicate_succ',List.length_replicate] at Aae;subst Aae;have wV:=ga.mk (oZ.out.aac Ny.out hs hb hg);have N9:=ga.mk (show ¬ (PB q ∨ (wd.heap.size ≤ q∧q < Br.heap.size)) from fun e=>e.elim HPQ.out (fun e=>by have:=Nc HVd.out;omega));have P6:=ga.mk (Vc (Va HVd.out Ny.out) hg (fun e=>HPQ.out ((Kd.CM oZ.out.x).1 q e.symm)));clear hs hb hg hat;refine hK.out _ _ ⟨(ia P6.out 0).trans rfl,nD wV.out⟩ (fun hHeld=>?_);clear hK K;refine Dq (a':=?_) ?_ ?_;rotate_left
   ·show Act.put _ (some 21) _=_
    simp only [Act.put,List.setIfInBounds_toArray,List.set_cons_zero,List.set_cons_succ,nc,oc]
    rfl
   refine wae (i:=6) (N:=none) #[true,true,true,true,true,true,true] rfl rfl (by kernel_rfl) (by decide) (fun K hK=>?_);have hfz:=aa P6.out 0;have hcz:Br.cell? ⟨q,0,none⟩=some v:=(ia P6.out 0).trans rfl;have fax:=ga.mk (show (Br.setCell ⟨q,0,none⟩ (.slice z_ (j + 1) Hs)).heap[q]? = some (.cells #[.slice z_ (j + 1) Hs] 55 (0,0)) from xK P6.out 0 _);have cad:=ga.mk ((Kept.refl Br (fun k=>k=q)).setCell (p:=⟨q,0,none⟩) (Or.inl rfl) (.slice z_ (j + 1) Hs));have Gax:=ga.mk (show Below w.heap.size w (Br.setCell ⟨q,0,none⟩ (.slice z_ (j + 1) Hs)) from wV.out.bl.setCell (Nat.le_of_lt HQB.out) _);refine lae (w1:=?_) (by rfl) rfl ?_ ?_;rotate_left
   ·go_simp
    rfl
   refine hK.out _ _ ?_;clear hK K;refine ot (by kernel_rfl) ?_;clear hHeld
   have Jax:=ga.mk (show ur w (Ty Ya Qa.length Za Ja Ga n Mb Aa.length Cb) (fun k=>PB k ∨ (wd.heap.size ≤ k∧k < Br.heap.size)) (.slice z_ (j + 1) Hs) (.slice none 0 0) (List.replicate (j + 1) (List.replicate n false)) [] (Br.setCell ⟨q,0,none⟩ (.slice z_ (j + 1) Hs)) from by
    have hx:=wV.out.x;rw [← List.replicate_succ'] at hx
    exact ⟨Gax.out,Ve wV.out.hx cad.out (fun e=>by have:=HQB.out;omega),Kd.UC hx cad.out (fun k hk e=>N9.out (e ▸ hk)),Kd.BM _ _ _ _ _,fun k hk=>⟨(wV.out.pb k hk).1,Nat.lt_of_lt_of_le (wV.out.pb k hk).2 cad.out.1⟩⟩)
   go_wp2
   go_roundg (n - (j + 1))
   case measure=>omega
   case rel=>exact ⟨j + 1,_,_,by go_num,by omega,by omega,Jax,fax,N9⟩
  ·have Ns:decide ((j:Int) < (n:Int))=false:=decide_eq_false (by omega);obtain rfl:j=n:=by omega
   have HT:=ga.mk (show ∃ T,Kd.S (Kd.slice 4 Kd.bool) 60 wr w.heap.size PB v T∧zM j T KP from ⟨_,HA.out.x,zM.start j⟩);have HXg:=ga.mk HA.out.hx;have HBw:=ga.mk HA.out.bl;have cZ:=ga.mk HA.out.pb;clear HA AV hj
   go_upto_region 7 with (fail)
   have hb5:=qa (Below.refl wr.heap.size wr) (.cells #[.func (.func 85) #[] #[.pointer (some ⟨q,0,none⟩)]] 101 (0,0));have hv5:=xj wr (.cells #[.func (.func 85) #[] #[.pointer (some ⟨q,0,none⟩)]] 101 (0,0));generalize wr.alloc (.cells #[.func (.func 85) #[] #[.pointer (some ⟨q,0,none⟩)]] 101 (0,0))=w5 at hb5 hv5 ⊢
   have NZ:=ga.mk (show fN w.heap.size j q wr.heap.size PB v KP w5 from by
    obtain ⟨T,h1,h2⟩:=HT.out
    exact ⟨hv5,Va HV.out hb5,fun e=>by have:=(cZ.out _ e).2;omega,HPQ.out,T,Kd.Oh h1 hb5,h2⟩)
   have HX5:=ga.mk (Va HXg.out hb5);have kU:=ga.mk (Ra HBw.out hb5);have HP5:=ga.mk (show ∀ k,PB k→w.heap.size < k∧k < w5.heap.size from fun k hk=>⟨(cZ.out k hk).1,Nat.lt_of_lt_of_le (cZ.out k hk).2 hb5.size⟩);clear hb5 hv5 HT HXg HBw cZ HV;generalize wr.heap.size=qf at NZ ⊢;have hx0:w5.cell? ⟨w.heap.size,0,none⟩=some (.slice Ya Qa.length Za):=(ia HX5.out 0).trans rfl;have hx1:w5.cell? ⟨w.heap.size,1,none⟩=some (.int .i64 Ja):=(ia HX5.out 1).trans rfl;have Ow:w5.cell? ⟨w.heap.size,2,none⟩=some (.int .i64 Ga):=(ia HX5.out 2).trans rfl;have Hq:w5.cell? ⟨w.heap.size,3,none⟩=some (.int .i64 (j:Int)):=(ia HX5.out 3).trans rfl;have Gq:w5.cell? ⟨w.heap.size,4,none⟩=some (.slice Mb Aa.length Cb):=(ia HX5.out 4).trans rfl
   have HLV:=ga.mk (show qm.f Qa Ja Ga (j:Int) Aa=some (Ye Aa j) by
    unfold qm.f
    rw [if_pos ⟨by omega,by rw [Int.toNat_natCast];exact HO.out⟩,Int.toNat_natCast])
   go_upto_region 8 with (first|(go_at_call 47;(with_reducible refine (qm.calls Ya Za Qa Ja Ga (j:Int) Mb Cb Aa (Ye Aa j) w5 (Kd.Nb ym.out kU.out) fU.out (Kd.Nb NH.out kU.out) jN.out HLV.out).mono ?_);rintro e w6 ⟨v6,rfl,ho,hb⟩;obtain ⟨A4,c4,rfl⟩:=Kd.Wj ho;have dP:=ga.mk ho;have ND:=ga.mk hb;clear ho hb hx0 hx1 Ow Hq Gq))
   rw [Aj] at dP ⊢;have gN:=ga.mk (Va HX5.out ND.out);have MZ:=ga.mk (NZ.out.below ND.out);have NK:=ga.mk (Ra kU.out ND.out);have KM:=ga.mk (show ∀ k,PB k→w.heap.size < k∧k < w6.heap.size from fun k hk=>⟨(HP5.out k hk).1,Nat.lt_of_lt_of_le (HP5.out k hk).2 ND.out.size⟩);have q_:=ga.mk (show Aa.length ≤ c4 from (Kd.Xe dP.out).2.1);have HLC:=ga.mk (show ∀ W,Kept w6 W (I7 PB w6)→Kd.C (Kd.slice 4 Kd.bool) W A4 (Ye Aa j).length (Ye Aa j) from fun W hk=>(Kd.Xe (Kd.UC (Kd.Ah (Kd.zv dP.out) (fun k hk=>⟨hk.2.1,hk.2.2.1⟩):Kd.S (Kd.slice 4 Kd.bool) _ w6 _ (fun k=>w5.heap.size ≤ k∧k < w6.heap.size) _ _) hk (fun k hk e=>e.elim (fun e=>by have:=(HP5.out k e).2;omega) (fun e=>by omega)))).2.2);clear HX5 NZ kU HP5 ND dP;have hx0:w6.cell? ⟨w.heap.size,0,none⟩=some (.slice Ya Qa.length Za):=(ia gN.out 0).trans rfl;have hx1:w6.cell? ⟨w.heap.size,1,none⟩=some (.int .i64 Ja):=(ia gN.out 1).trans rfl;have Ow:w6.cell? ⟨w.heap.size,2,none⟩=some (.int .i64 Ga):=(ia gN.out 2).trans rfl;have Hq:w6.cell? ⟨w.heap.size,3,none⟩=some (.int .i64 (j:Int)):=(ia gN.out 3).trans rfl;have Gq:w6.cell? ⟨w.heap.size,4,none⟩=some (.slice Mb Aa.length Cb):=(ia gN.out 4).trans rfl;have hmf:∀ (fn:Fn) (first cap:Array Value) (w:World),(Instr.makeFunc fn first cap).run Try.prog w = .ok (.func fn first cap) w:=fun _ _ _ _=>rfl
   have hev:=pK Vg (fun P W=>fN w.heap.size j q qf PB v P W) PB 86 #[.pointer (some ⟨qf,0,none⟩)] (enters_of Try.func86 (by kernel_rfl) rfl)
    Ya Za Qa Ja Ga j Mb Cb Aa A4 c4 (Ye Aa j) KP w w6 NK.out (fun k e=>Nat.le_of_lt (KM.out k e).1) (fun k e=>(KM.out k e).2) ym.out fU.out NH.out jN.out
    (fun W hk=>HLC.out W hk) (by rw [Aj];exact q_.out) HO.out (Aj _ _) (fun i hi=>by rw [aA hi];exact Gj _ _ _)
    MZ.out (fun P W W' h1 h2 h3=>by
     have hk:Kept W W' (fun k=>w6.heap.size ≤ k):=⟨h2,fun k _ hk=>h3 k (by omega)⟩;obtain ⟨T,t1,t2⟩:=h1.t
     exact ⟨Ve h1.hf hk (fun e=>by have:=Nc MZ.out.hf;omega),Ve h1.hx hk (fun e=>by have:=Nc MZ.out.hx;omega),h1.pf,h1.pq,T,Kd.UC t1 hk (fun k hk e=>by have:=(KM.out k hk).2;omega),t2⟩)
    (fun W P x A c s hk hv hx PW hC hl=>(jI w.heap.size j q qf PB v P x A c s W hv (fun k hk2=>Nat.lt_of_lt_of_le (KM.out k hk2).2 hk.1) hx PW hn hC hl).mono (fun e w' h=>h))
   rw [Aj] at hev;have HEV:=ga.mk hev;clear hev
   go_upto_region 9 with (first|(go_at_call 50;(with_reducible refine HEV.out.mono ?_);rintro e w9 ⟨rfl,hv9,hk9,hb9⟩;have bH:=ga.mk hv9;have HK9:=ga.mk hk9;have HZ9:=ga.mk hb9;clear hv9 hk9 hb9 hx0 hx1 Ow Hq Gq))
   have KZ:=ga.mk (Ve gN.out HK9.out (fun e=>e.elim (fun e=>by have:=(KM.out _ e).1;omega) (fun e=>by have:=Nc gN.out;omega)));have QZ:=ga.mk (vv NK.out NK.out.size HK9.out (fun k e=>e.elim (fun e=>Nat.le_of_lt (KM.out k e).1) (fun e=>Nat.le_trans NK.out.size e)) HZ9.out);have HP9:=ga.mk (show ∀ k,PB k→w.heap.size < k∧k < w9.heap.size from fun k hk=>⟨(KM.out k hk).1,Nat.lt_of_lt_of_le (KM.out k hk).2 HK9.out.1⟩);have hrw:qe (Ye Aa j) 0=Gm Aa j 0:=aA hm0;obtain ⟨kl,ZM⟩:=Ev.rounds (bV HO.out hm0 (Ye Aa j) (Aj Aa j) (by rw [hrw];exact Gj _ _ _) Qa Ja Ga (j:Int));rw [hrw,show oD (za Aa ((0:Nat):Int)) (Gm Aa j 0)=DF Aa j from rfl] at ZM;have hc:=Ef.calls kl Ya Za Qa Ja Ga (j:Int) Mb Cb Aa A4 c4 (Ye Aa j) ((0:Nat):Int) _ w9 (Kd.Nb ym.out QZ.out) fU.out (Kd.Nb NH.out QZ.out) jN.out (HLC.out w9 HK9.out) (by rw [Aj];exact q_.out) ZM;rw [Aj,show ((0:Nat):Int)=0 from rfl] at hc;have HLI:=ga.mk hc;have hin:(DF Aa j).length=j:=by unfold DF;rw [Jr,Gj]
   have jP:=ga.mk hin;obtain ⟨ko,hko⟩:=Ev.rounds (bO (DF Aa j) (by rw [hin];exact hn));have HKO:=ga.mk hko;have HME:=ga.mk (show ∀ a b,vF Aa j a b ↔ (dh Vg Aa (Ye Aa j) 0 KP a b ∨ ((a:Int) ∈ Fm (DF Aa j) (DF Aa j).length∧(b:Int) ∈ Fm (DF Aa j) (DF Aa j).length)) from fun a b=>by rw [nH,nH];rfl);have HNT:=ga.mk (fun z=>DU (s:=DF Aa j) (z:=z));have hLl:=Nat.le_trans (kH (DF Aa j) (DF Aa j).length) (Nat.le_of_eq hin);have HLn:=ga.mk hLl;clear ZM hc hin hko hrw hmf gN MZ NK KM HK9 HZ9 HEV HLC hLl;have hx0:w9.cell? ⟨w.heap.size,0,none⟩=some (.slice Ya Qa.length Za):=(ia KZ.out 0).trans rfl;have hx1:w9.cell? ⟨w.heap.size,1,none⟩=some (.int .i64 Ja):=(ia KZ.out 1).trans rfl;have Ow:w9.cell? ⟨w.heap.size,2,none⟩=some (.int .i64 Ga):=(ia KZ.out 2).trans rfl;have Hq:w9.cell? ⟨w.heap.size,3,none⟩=some (.int .i64 (j:Int)):=(ia KZ.out 3).trans rfl;have Gq:w9.cell? ⟨w.heap.size,4,none⟩=some (.slice Mb Aa.length Cb):=(ia KZ.out 4).trans rfl;generalize DF Aa j=r0 at HLI jP HKO HME HNT HLn ⊢;generalize dh Vg Aa (Ye Aa j) 0 KP=E0 at bH HME ⊢
   go_upto_region 10 with (first|(go_at_call 49;(with_reducible refine HLI.out.mono ?_);rintro e Us ⟨v10,rfl,ho,hb⟩;obtain ⟨A10,Ts,rfl⟩:=Kd.od ho;have Gac:=ga.mk ho;have lP:=ga.mk hb;clear ho hb hx0 hx1 Ow Hq Gq)|(go_at_call 48;(with_reducible refine (ze.calls ko A10 Ts r0 (Fm r0 r0.length) Us (Kd.Rb Gac.out).2.2 (Kd.Rb Gac.out).2.1 HKO.out).mono ?_);rintro e ck ⟨v11,rfl,ho,hb⟩;obtain ⟨KV,zB,rfl⟩:=Kd.od ho;have Fac:=ga.mk ho;have vV:=ga.mk hb;clear ho hb))
   generalize Fm r0 r0.length=L at Fac HME HNT HLn ⊢;have jal:=ga.mk ((bH.out.below lP.out).below vV.out);have HBB:=ga.mk (Ra (Ra QZ.out lP.out) vV.out);have HLR:=ga.mk (show ∀ W,Kept ck W PB→Kd.C (Kd.int .i64) W KV L.length L from fun W hk=>(Kd.Rb (Kd.Fp (Kd.xd (Kd.ug Fac.out) (fun k hk=>hk.2.1):Kd.R (Kd.int .i64) _ ck _ (fun k=>Us.heap.size ≤ k) _ _) hk (fun k hk e=>by have:=(HP9.out k e).2;have:=lP.out.size;omega))).2.2);have HPL:=ga.mk (fun k e=>Nat.le_of_lt (HP9.out k e).1);have gal:=ga.mk jP.out;clear bH KZ QZ Gac lP Fac vV HLI HKO HP9 jP;have eg:∀ args w,(callFunc 85 args).run Try.prog w = .ok (.enter 85 args) w:=enters_of Try.func85 (by kernel_rfl) rfl;have hLn:L.length ≤ 1048576:=Nat.le_trans HLn.out hn;go_wp2
   go_loopg [36] L.length (fun gg v36 wr=>∃ (i:Nat),v36 = .int .i64 i∧i ≤ L.length∧L.length - i ≤ gg∧ga (fN w.heap.size j q qf PB v (fun a b=>E0 a b ∨ ((a:Int) ∈ L.take i∧(b:Int) ∈ L)) wr)∧ga (Kept ck wr PB)∧ga (Below 0 ck wr))
   case atStart=>exact ⟨0,rfl,Nat.zero_le _,by omega,⟨jal.out.Wq (fun a b=>⟨Or.inl,fun h=>h.elim id (fun h=>absurd h.1 (by rw [List.take_zero];exact List.not_mem_nil))⟩)⟩,⟨Kept.refl _ _⟩,⟨Below.refl _ _⟩⟩
   case round =>
    clear jal;(try clear HI);(try clear HK);(try clear HZ);obtain ⟨i,rfl,hi,AV,HI,HK,HZ⟩:=hrel
    by_cases hli:i < L.length
    ·have pav:decide ((i:Int) < (L.length:Int))=true:=decide_eq_true (by omega);have i1:0 ≤ (i:Int):=by omega
     have i2:(i:Int) < (L.length:Int):=by omega
     obtain ⟨ad,e1,xm⟩:=lI (HLR.out wr HK.out) hli;subst e1;obtain ⟨x,hx,hxn⟩:=HNT.out L[i] (List.getElem_mem hli);rw [hx] at xm;have HXE:=ga.mk hx;have HXN:=ga.mk hxn;clear hx hxn;obtain ⟨wo,rfl⟩:∃ wo,wo=wr:=⟨_,rfl⟩;go_wp2;clear xm i1 i2
     go_loopg [42] L.length (fun g4 v42 wr=>∃ (i4:Nat),v42 = .int .i64 i4∧i4 ≤ L.length∧L.length - i4 ≤ g4∧ga (fN w.heap.size j q qf PB v (fun a b=>(E0 a b ∨ ((a:Int) ∈ L.take i∧(b:Int) ∈ L)) ∨ (a=x∧(b:Int) ∈ L.take i4)) wr)∧ga (Kept ck wr PB)∧ga (Below 0 ck wr))
     case atStart=>exact ⟨0,rfl,Nat.zero_le _,by omega,⟨HI.out.Wq (fun a b=>⟨Or.inl,fun h=>h.elim id (fun h=>absurd h.2 (by rw [List.take_zero];exact List.not_mem_nil))⟩)⟩,HK,HZ⟩
     case round =>
      clear HI HK HZ;(try clear HI);(try clear HK);(try clear HZ);obtain ⟨i4,rfl,hi4,WK,HI,HK,HZ⟩:=hrel
      by_cases hl4:i4 < L.length
      ·have rav:decide ((i4:Int) < (L.length:Int))=true:=decide_eq_true (by omega);have i1:0 ≤ (i4:Int):=by omega
       have i2:(i4:Int) < (L.length:Int):=by omega
       obtain ⟨ad2,e1,xm⟩:=lI (HLR.out wr HK.out) hl4;obtain rfl:ad=ad2:=Option.some.inj e1;obtain ⟨y,hy,hyn⟩:=HNT.out L[i4] (List.getElem_mem hl4);rw [hy] at xm;have HYE:=ga.mk hy;have hf0:wr.cell? ⟨qf,0,none⟩=some (.func (.func 85) #[] #[.pointer (some ⟨q,0,none⟩)]):=(ia HI.out.hf 0).trans rfl;have Dax:=ga.mk (HI.out.call (show x < j from by have:=HXN.out;have:=gal.out;omega) (show y < j from by have:=gal.out;omega) hn);clear hy hyn e1;go_wp2_with (go_at_fn 85;refine Dax.out.mono ?_;rintro e w3 ⟨rfl,h1,h2,h3⟩;have HI3:=ga.mk h1;have Aq:=ga.mk (HK.out.Wo h2 (fun _ h=>Or.inl h));have HZ3:=ga.mk (HZ.out.trans h3);clear h1 h2 h3 hf0 xm)
       have HI4:=ga.mk (HI3.out.Wq (Q:=fun a b=>(E0 a b ∨ ((a:Int) ∈ L.take i∧(b:Int) ∈ L)) ∨ (a=x∧(b:Int) ∈ L.take (i4 + 1))) (fun a b=>by
        rw [List.take_succ_eq_append_getElem hl4,List.mem_append,List.mem_singleton,HYE.out]
        constructor
        ·rintro ((h|h)|⟨h1,h2⟩)
         ·exact Or.inl h
         ·exact Or.inr ⟨h.1,Or.inl h.2⟩
         ·exact Or.inr ⟨h1,Or.inr (by omega)⟩
        ·rintro (h|⟨h1,h2|h2⟩)
         ·exact Or.inl (Or.inl h)
         ·exact Or.inl (Or.inr ⟨h1,h2⟩)
         ·exact Or.inr ⟨h1,by omega⟩))
       go_roundg (L.length - (i4 + 1))
       case measure=>omega
       case rel=>exact ⟨i4 + 1,by go_num,by omega,by omega,HI4,Aq,HZ3⟩
      ·have rav:decide ((i4:Int) < (L.length:Int))=false:=decide_eq_false (by omega);obtain rfl:i4=L.length:=by omega
       have HI4:=ga.mk (HI.out.Wq (Q:=fun a b=>E0 a b ∨ ((a:Int) ∈ L.take (i + 1)∧(b:Int) ∈ L)) (fun a b=>by
        rw [List.take_length,List.take_succ_eq_append_getElem hli,List.mem_append,List.mem_singleton,HXE.out]
        constructor
        ·rintro ((h|h)|⟨h1,h2⟩)
         ·exact Or.inl h
         ·exact Or.inr ⟨Or.inl h.1,h.2⟩
         ·exact Or.inr ⟨Or.inr (by omega),h2⟩
        ·rintro (h|⟨h1|h1,h2⟩)
         ·exact Or.inl (Or.inl h)
         ·exact Or.inl (Or.inr ⟨h1,h2⟩)
         ·exact Or.inr ⟨by omega,h2⟩))
       go_wp2
       go_roundg (L.length - (i + 1))
       case measure=>omega
       case rel=>exact ⟨i + 1,by go_num,by omega,by omega,HI4,HK,HZ⟩
    ·have pav:decide ((i:Int) < (L.length:Int))=false:=decide_eq_false (by omega);obtain rfl:i=L.length:=by omega
     have QM:=ga.mk (show Kd.S (Kd.slice 4 Kd.bool) 60 wr w.heap.size (fun _=>True) v (Gp Aa j) from by
      obtain ⟨T,t1,t2⟩:=HI.out.t;have he:T=Gp Aa j:=(t2.Wq (fun a b=>by rw [List.take_length];exact (HME.out a b).symm)).ext (gC Aa j) (fun _ _ _=>Iff.rfl);rw [← he]
      exact Kd.Ah t1 (fun _ _=>trivial))
     have D7:=ga.mk (vv HBB.out HBB.out.size HK.out HPL.out HZ.out);have hq0:wr.cell? ⟨q,0,none⟩=some v:=(ia HI.out.hx 0).trans rfl;have hone:v.oneCell' = true:=by obtain ⟨A,c,rfl⟩:=Kd.Wj QM.out;rfl
     go_wp2;go_ret;exact ⟨_,rfl,QM.out,D7.out⟩
noncomputable def ai.f (Qa:List Int) (Ja:Int) (Ga:Int) (Ia:Int) (Aa:List (Je)):Option (List (List Bool)):=open Classical in if 0 ≤ Ia∧mm Aa Ia.toNat then some (Gp Aa Ia.toNat) else none
theorem wO {n:Nat} {x:He} (hx:Ys n x):Eg.f x.f0 x.f1 x.f2 x.f3 x.f4 x.f5 x.f6=some (decide (Am x ≥ 0))∧(Am x ≥ 0→x.f1=Am x):=by
 have h2:=hx.2;unfold Eg.f Am
 by_cases h4:x.f0=4
 ·rw [if_pos h4,if_pos h4,decide_eq_false (by omega)];exact ⟨rfl,fun h=>by omega⟩
 ·rw [if_neg h4,if_neg h4]
  by_cases h6:x.f0=6
  ·rw [if_pos h6,decide_eq_false (by omega),h6];exact ⟨rfl,fun h=>by omega⟩
  ·rw [if_neg h6,decide_eq_true (h2 h4 h6).1];exact ⟨by simp [h6],fun _=>rfl⟩
structure dL (w w6:World) (o:Obj) (n:Nat) (PB:Nat→Prop) (v:Value) (P:Nat→Nat→Prop) (wr:World):Prop where
 bw:Below w.heap.size w wr
 k:Kept w6 wr (I7 PB w6)
 hx:wr.heap[w.heap.size]? = some o
 t:∃ T,Kd.S (Kd.slice 4 Kd.bool) 60 wr w.heap.size PB v T∧zM n T P
section
variable {w w6 wr W:World} {o:Obj} {n:Nat} {PB:Nat→Prop} {v:Value} {P Q:Nat→Nat→Prop}
theorem dL.below (h:dL w w6 o n PB v P wr) (hb:Below wr.heap.size wr W):dL w w6 o n PB v P W:=by
 obtain ⟨T,h1,h2⟩:=h.t;exact ⟨Ra h.bw hb,h.k.below hb,Va h.hx hb,T,Kd.Oh h1 hb,h2⟩
theorem dL.Wq (h:dL w w6 o n PB v P wr) (hp:∀ i j,P i j ↔ Q i j):dL w w6 o n PB v Q wr:=by
 obtain ⟨T,h1,h2⟩:=h.t;exact ⟨h.bw,h.k,h.hx,T,h1,h2.Wq hp⟩
theorem dL.far {N:Nat} (h:dL w w6 o n PB v P wr) (HP:∀ k,PB k→w.heap.size < k∧k < w6.heap.size) (h6:w.heap.size < w6.heap.size) (hN:w6.heap.size ≤ N) (hk:Kept wr W (fun k=>N ≤ k)) (hz:Below 0 wr W):dL w w6 o n PB v P W:=by
 obtain ⟨T,h1,h2⟩:=h.t;exact ⟨vv h.bw h.bw.size hk (fun k e=>by omega) hz,h.k.Wo hk (fun k e=>Or.inl (Or.inr (by omega))),Ve h.hx hk (fun e=>by omega),T,Kd.UC h1 hk (fun k e1 e2=>by have:=(HP k e1).2;omega),h2⟩
theorem dL.call {a b:Nat} (h:dL w w6 o n PB v P wr) (HP:∀ k,PB k→w.heap.size < k∧k < w6.heap.size) (ha:a < n) (hb:b < n) (hn:n ≤ 1048576) :
  Calls Try.prog 84 #[v,.int .i64 (a:Int),.int .i64 (b:Int)] wr fun e w'=>e = .returned (.tuple #[])∧dL w w6 o n PB v (fun i j=>P i j ∨ (i=a∧j=b)) w'∧Kept wr w' PB∧Below 0 wr w':=by
 obtain ⟨T,h1,h2⟩:=h.t;refine (YH w.heap.size n a b PB v T wr h1 h2.sq ha hb hn).mono ?_;rintro e w' ⟨e1,e2,e3,e4⟩;exact ⟨e1,⟨vv h.bw h.bw.size e3 (fun k e=>Nat.le_of_lt (HP k e).1) e4,h.k.Wo e3 (fun k e=>Or.inl (Or.inl e)),Ve h.hx e3 (fun e=>by have:=(HP _ e).1;omega),_,e2,h2.meet ha hb⟩,e3,e4⟩
end
theorem ai.calls (Ya:Option Addr) (Za:Nat) (Qa:List Int) (Ja:Int) (Ga:Int) (Ia:Int) (Mb:Option Addr) (Cb:Nat) (Aa:List (Je)) (r:List (List Bool)) (w:World) (Ud:Kd.C (Kd.int .i64) w Ya Qa.length Qa) (Rd:Qa.length ≤ Za) (yf:Kd.C Fq w Mb Aa.length Aa) (kf:Aa.length ≤ Cb) (h:ai.f Qa Ja Ga Ia Aa=some r) :
  Calls Try.prog 57 #[.agg #[.slice Ya Qa.length Za,.int .i64 Ja,.int .i64 Ga,.int .i64 Ia,.slice Mb Aa.length Cb]] w fun e w'=>∃ Nl:Value,e = .returned (Nl)∧Kd.S (Kd.slice 4 Kd.bool) 60 w' w.heap.size (fun _=>True) Nl r∧Below w.heap.size w w':=by
 unfold ai.f at h
 by_cases hf:0 ≤ Ia∧mm Aa Ia.toNat
 case neg=>rw [if_neg hf] at h;cases h
 rw [if_pos hf] at h;obtain rfl:=Option.some.inj h;obtain ⟨hn0,hO⟩:=hf;obtain ⟨n,rfl⟩:∃ n:Nat,Ia=(n:Int):=⟨Ia.toNat,(Int.toNat_of_nonneg hn0).symm⟩;rw [Int.toNat_natCast] at hO ⊢;clear h hn0;have HO:=ga.mk hO;have hn:n ≤ 1048576:=hO.2.1;have hm0:0 < Aa.length:=hO.1.1;have hm1:Aa.length ≤ 1048576:=hO.1.2.1;clear hO;have ym:=ga.mk Ud;have NH:=ga.mk yf;have fU:=ga.mk Rd;have jN:=ga.mk kf;obtain ⟨W1,qg⟩:∃ W1,W1=((w.alloc (.cells #[.slice Ya Qa.length Za,.int .i64 Ja,.int .i64 Ga,.int .i64 (n:Int),.slice Mb Aa.length Cb] 30 (0,0))).alloc (.cells #[] 60 (0,0))):=⟨_,rfl⟩;have HW:=ga.mk qg
 have HA:=ga.mk (show ur w (Ty Ya Qa.length Za Ja Ga n Mb Aa.length Cb) (fun k=>k=w.heap.size + 1) (.slice (some ⟨w.heap.size + 1,0,none⟩) 0 0) (.slice none 0 0) [] [] W1 from by
  have z1:(w.alloc (.cells #[.slice Ya Qa.length Za,.int .i64 Ja,.int .i64 Ga,.int .i64 (n:Int),.slice Mb Aa.length Cb] 30 (0,0))).heap.size=w.heap.size + 1:=by simp
  have b1:=xj w (.cells #[.slice Ya Qa.length Za,.int .i64 Ja,.int .i64 Ga,.int .i64 (n:Int),.slice Mb Aa.length Cb] 30 (0,0));have e1:=qa (Below.refl w.heap.size w) (.cells #[.slice Ya Qa.length Za,.int .i64 Ja,.int .i64 Ga,.int .i64 (n:Int),.slice Mb Aa.length Cb] 30 (0,0));rw [qg];generalize w.alloc (.cells #[.slice Ya Qa.length Za,.int .i64 Ja,.int .i64 Ga,.int .i64 (n:Int),.slice Mb Aa.length Cb] 30 (0,0))=u1 at z1 b1 e1 ⊢;have z2:(u1.alloc (.cells #[] 60 (0,0))).heap.size=w.heap.size + 2:=by simp [z1]
  have s1:=DB (Kd.slice 4 Kd.bool) 60 u1 w.heap.size (by omega);have e2:=qa (Below.refl u1.heap.size u1) (.cells #[] 60 (0,0));rw [z1] at s1
  exact ⟨Ra e1 e2,Va b1 e2,s1,Kd.BM _ _ _ _ _,fun k hk=>⟨by omega,by omega⟩⟩)
 clear qg Ud yf Rd kf;go_enter Try.func57,Try.ntmps57
 go_upto_region 2 with (fail)
 rw [← HW.out];clear HW;go_wp2
 go_loopg [3,4] n (fun gg v3 v4 wr=>∃ (j:Nat) (PB:Nat→Prop),v4 = .int .i64 j∧j ≤ n∧n - j ≤ gg∧ga (ur w (Ty Ya Qa.length Za Ja Ga n Mb Aa.length Cb) PB v3 (.slice none 0 0) (List.replicate j (List.replicate n false)) [] wr))
 case atStart=>exact ⟨0,_,rfl,Nat.zero_le _,by omega,HA⟩
 case round =>
  clear HA;(try clear PB);(try clear HA);obtain ⟨j,PB,rfl,hj,AV,HA⟩:=hrel;have Hq:=nD HA.out
  by_cases hlt:j < n
  ·have Ns:decide ((j:Int) < (n:Int))=true:=decide_eq_true (by omega);have O8:(0:Int) ≤ (n:Int):=by omega
   have f_:=ga.mk (show ((n:Int)).toNat * 1 ≤ 281474976710656 from by omega);have HLL:=ga.mk (show ((List.replicate j (List.replicate n false)).length + 1) * 24 ≤ 140737488355328 from by rw [List.length_replicate];omega)
   go_upto_region 4 with (first|((with_reducible refine Ab (N:=23) rfl ?_);refine Kd.jr Kd.bool (w0:=wr) wr.heap.size 4 rfl (N:=23) rfl 60 _ _ rfl (n:Int) rfl rfl Try.underlying60 (.bool false) 1 Ir rfl (by decide) (by omega) false (ok:=fun k=>wr.heap.size ≤ k) (Dh:=fun k=>wr.heap.size ≤ k) rfl (fun _ hk=>hk) (Nat.le_refl _) O8 f_.out (Below.refl _ _) (Nat.le_refl _) ?_;intro v23 Mt ho hb hg hat;rw [Int.toNat_natCast] at ho;obtain ⟨A23,Yy,rfl⟩:=Kd.od ho;have bal:=ga.mk (JP ho HA.out.bl.size);simp only [List.length_replicate] at bal;have qad:=ga.mk hb;have Iak:=ga.mk (Ra HA.out.bl hb);clear ho hb hg hat Hq)|((with_reducible refine Ab (N:=25) rfl ?_);refine Kd.EB (Kd.slice 4 Kd.bool) (w0:=w) w.heap.size rfl (.tmp 20) (.tmp 24) 55 60 (.slice none 0 0) 24 rfl Try.underlying55 BF rfl (by decide) (by omega) _ (List.replicate j (List.replicate n false)) (List.replicate n false) _ (fun k=>PB k ∨ wr.heap.size ≤ k) (fun k=>wr.heap.size ≤ k) rfl rfl bal.out HA.out.neX (HA.out.frX qad.out) (HA.out.okX qad.out) Iak.out Iak.out.size HLL.out ?_;intro v25 Pz hs hb hg hat;have E7:=ga.mk (HA.out.aac qad.out hs hb hg);clear hs hb hg hat))
   go_wp2
   go_roundg (n - (j + 1))
   case measure=>omega
   case rel =>
    have h2:=E7.out;rw [← List.replicate_succ'] at h2;exact ⟨j + 1,_,by go_num,by omega,by omega,⟨h2⟩⟩
  ·have Ns:decide ((j:Int) < (n:Int))=false:=decide_eq_false (by omega);obtain rfl:n=j:=by omega
   obtain ⟨wb,rfl⟩:∃ wb,wb=wr:=⟨_,rfl⟩;have hx0:wb.cell? ⟨w.heap.size,0,none⟩=some (.slice Ya Qa.length Za):=(ia HA.out.hx 0).trans rfl;have hx1:wb.cell? ⟨w.heap.size,1,none⟩=some (.int .i64 Ja):=(ia HA.out.hx 1).trans rfl;have Ow:wb.cell? ⟨w.heap.size,2,none⟩=some (.int .i64 Ga):=(ia HA.out.hx 2).trans rfl;have Gq:wb.cell? ⟨w.heap.size,4,none⟩=some (.slice Mb Aa.length Cb):=(ia HA.out.hx 4).trans rfl;obtain ⟨klv,paf⟩:=Ev.rounds (dO Qa Ja Ga HO.out);have HLV:=ga.mk paf;clear paf AV hj;obtain ⟨AT,cT,hvT⟩:=Kd.Wj HA.out.x;rw [List.length_replicate] at hvT;subst hvT
   go_upto_region 7 with (first|(go_at_call 41;(with_reducible refine (xb.calls klv Ya Za Qa Ja Ga (n:Int) Mb Cb Aa (Ye Aa n) wb (Kd.Nb ym.out HA.out.bl) fU.out (Kd.Nb NH.out HA.out.bl) jN.out HLV.out).mono ?_);rintro e w6 ⟨v6,rfl,ho,hb⟩;obtain ⟨A5,c5,rfl⟩:=Kd.Wj ho;have dP:=ga.mk ho;have ND:=ga.mk hb;clear ho hb hx0 hx1 Ow Hq Gq))
   rw [Aj] at dP ⊢;have cZ:=ga.mk (show ∀ k,PB k→w.heap.size < k∧k < wb.heap.size from HA.out.pb);have KM:=ga.mk (show ∀ k,PB k→w.heap.size < k∧k < w6.heap.size from fun k hk=>⟨(cZ.out k hk).1,Nat.lt_of_lt_of_le (cZ.out k hk).2 ND.out.size⟩);have q_:=ga.mk (show Aa.length ≤ c5 from (Kd.Xe dP.out).2.1);have HLC:=ga.mk (show ∀ W,Kept w6 W (I7 PB w6)→Kd.C (Kd.slice 4 Kd.bool) W A5 (Ye Aa n).length (Ye Aa n) from fun W hk=>(Kd.Xe (Kd.UC (Kd.Ah (Kd.zv dP.out) (fun k hk=>⟨hk.2.1,hk.2.2.1⟩):Kd.S (Kd.slice 4 Kd.bool) _ w6 _ (fun k=>wb.heap.size ≤ k∧k < w6.heap.size) _ _) hk (fun k hk e=>e.elim (fun e=>by have:=(cZ.out k e).2;omega) (fun e=>by omega)))).2.2);have HW6:=ga.mk (show w.heap.size < w6.heap.size from by have:=Nc HA.out.hx;have:=ND.out.size;omega);have MZ:=ga.mk (show dL w w6 (Ty Ya Qa.length Za Ja Ga n Mb Aa.length Cb) n PB (.slice AT n cT) KP w6 from ⟨Ra HA.out.bl ND.out,Kept.refl _ _,Va HA.out.hx ND.out,_,Kd.Oh HA.out.x ND.out,zM.start n⟩);clear HA ND dP cZ HLV;generalize Value.slice AT n cT=v at MZ ⊢;obtain ⟨FIN,dab⟩:∃ FIN:Nat→Nat→Prop,FIN=fun a b=>dh Vg Aa (Ye Aa n) 0 KP a b ∨ (b < a∧seen (DF Aa n) a=true∧seen (DF Aa n) b=true):=⟨_,rfl⟩
   have Bax:=ga.mk dab;have HFO:=ga.mk (show ∀ a b,(dh Vg Aa (Ye Aa n) 0 KP a b ∨ (b < a∧seen (DF Aa n) a=true∧seen (DF Aa n) b=true)) ↔ FIN a b from fun a b=>by rw [dab]);clear dab;go_wp2
   go_loopg [6] Aa.length (fun gg v6 wr=>∃ (i:Nat) (P:Nat→Nat→Prop),v6 = .int .i64 i∧i ≤ Aa.length∧Aa.length - i ≤ gg∧ga (∀ a b,(dh Vg Aa (Ye Aa n) i P a b ∨ (i=0∧b < a∧seen (DF Aa n) a=true∧seen (DF Aa n) b=true)) ↔ FIN a b)∧ga (dL w w6 (Ty Ya Qa.length Za Ja Ga n Mb Aa.length Cb) n PB v P wr))
   case atStart=>exact ⟨0,KP,rfl,Nat.zero_le _,by omega,⟨fun a b=>⟨fun h=>(HFO.out a b).1 (h.imp id (fun h=>h.2)),fun h=>((HFO.out a b).2 h).imp id (fun h=>⟨rfl,h⟩)⟩⟩,MZ⟩
   case round =>
    clear MZ HFO hlt Ns;(try clear P);(try clear hU);(try clear HI);obtain ⟨i,P,rfl,hi,AV,hU,HI⟩:=hrel;have Gq:wr.cell? ⟨w.heap.size,4,none⟩=some (.slice Mb Aa.length Cb):=(ia HI.out.hx 4).trans rfl
    by_cases hlt:i < Aa.length
    ·have Ns:decide ((i:Int) < (Aa.length:Int))=true:=decide_eq_true (by omega);have i1:0 ≤ (i:Int):=by omega
     have i2:(i:Int) < (Aa.length:Int):=by omega
     obtain ⟨ag,Ac,cc,e1,hc0,xm,My,OC,fK,Kt,EX⟩:=sj NH.out (i:Int) (by omega) (by omega);subst e1;simp only [Int.toNat_natCast] at hc0 xm My OC fK;have mZ:=ga.mk EX;have k7:=ga.mk Kt;replace hc0:=Wb hc0 (Kept.ic HI.out.bw (fun _=>False)) id;replace xm:=Wb xm (Kept.ic HI.out.bw (fun _=>False)) id;replace My:=Wb My (Kept.ic HI.out.bw (fun _=>False)) id;replace OC:=Wb OC (Kept.ic HI.out.bw (fun _=>False)) id;replace fK:=Wb fK (Kept.ic HI.out.bw (fun _=>False)) id;clear EX Kt
     go_upto_region 11 with (fail)
     have qw:=qa (Below.refl wr.heap.size wr) (.cells #[.slice Ac (za Aa (i:Int)).f0.length cc,.int .i64 (za Aa (i:Int)).f1,.int .i64 (za Aa (i:Int)).f2,.int .i64 (za Aa (i:Int)).f3,.int .i64 (za Aa (i:Int)).f4] 59 (0,0));have wz:=xj wr (.cells #[.slice Ac (za Aa (i:Int)).f0.length cc,.int .i64 (za Aa (i:Int)).f1,.int .i64 (za Aa (i:Int)).f2,.int .i64 (za Aa (i:Int)).f3,.int .i64 (za Aa (i:Int)).f4] 59 (0,0));generalize wr.alloc (.cells #[.slice Ac (za Aa (i:Int)).f0.length cc,.int .i64 (za Aa (i:Int)).f1,.int .i64 (za Aa (i:Int)).f2,.int .i64 (za Aa (i:Int)).f3,.int .i64 (za Aa (i:Int)).f4] 59 (0,0))=sr at qw wz ⊢;have cD:=ga.mk ((HI.out.below qw).below (vo (Below.refl sr.heap.size sr)));have Wl:=ga.mk (show sr.drew.heap[wr.heap.size]? = _ from wz);have eP:=ga.mk (show w6.heap.size ≤ wr.heap.size from HI.out.k.1);clear qw wz HI Gq hc0 xm My OC fK i1 i2 Ns;generalize wr.heap.size=q7 at Wl eP ⊢;have kP:=ga.mk (Ms HO.out hlt);have LZ:=ga.mk (show (qe (Ye Aa n) i).length=n from by rw [aA hlt];exact Gj _ _ _);have D7:=ga.mk (mV (b:=(za Aa (i:Int))) (s:=(qe (Ye Aa n) i)) (by rw [LZ.out];exact kP.out) (by rw [LZ.out];exact hn));obtain ⟨a5,Ar,cr,e5,hrc,hrl,hrC⟩:=wv (HLC.out sr.drew cD.out.k) (i:Int) (by omega) (by rw [Aj];omega);subst e5;rw [Int.toNat_natCast] at hrc;rw [eC] at hrc hrl hrC;have HRC:=ga.mk (And.intro hrc (And.intro hrl hrC));have i1:0 ≤ (i:Int):=by omega
     have i2:(i:Int) < (Aa.length:Int):=by omega
     clear hrc hrl hrC;refine uo (n:=7) (S:=fun w'=>w'.cell? ⟨q7,0,none⟩=some (.slice Ac (za Aa (i:Int)).f0.length cc)∧w'.cell? ⟨q7,1,none⟩=some (.int .i64 (za Aa (i:Int)).f1)∧w'.cell? ⟨q7,2,none⟩=some (.int .i64 (za Aa (i:Int)).f2)∧w'.cell? ⟨q7,3,none⟩=some (.int .i64 (za Aa (i:Int)).f3)∧w'.cell? ⟨q7,4,none⟩=some (.int .i64 (za Aa (i:Int)).f4)∧w'.cell? (a5.add i)=some (.slice Ar (qe (Ye Aa n) i).length cr)) (ds:=[]) #[false,false,false,false,false,false,false] (by kernel_rfl) rfl rfl ⟨(ia Wl.out 0).trans rfl,(ia Wl.out 1).trans rfl,(ia Wl.out 2).trans rfl,(ia Wl.out 3).trans rfl,(ia Wl.out 4).trans rfl,HRC.out.1⟩ (fun hHeld=>?_);generalize sr.drew=wd at cD Wl HRC hHeld ⊢;refine Od (i:=1) (N:=some 41) (v:=?_) (a':=?_) #[false,true,false,false,false,false,false] rfl rfl (by kernel_rfl) (fun _ _ _ h=>h) (Or.inl ⟨by rfl,?_⟩) ?_ ?_;rotate_left
     ·intro w';go_simp;with_reducible rfl
     rotate_left
     ·simp only [Act.put,List.setIfInBounds_toArray,List.set_cons_zero,List.set_cons_succ,nc,oc]
      rfl
     refine Od (i:=2) (N:=some 42) (v:=?_) (a':=?_) #[false,true,true,false,false,false,false] rfl rfl (by kernel_rfl) (fun _ _ _ h=>h) (Or.inl ⟨by rfl,?_⟩) ?_ ?_;rotate_left
     ·intro w';go_simp;with_reducible rfl
     rotate_left
     ·simp only [Act.put,List.setIfInBounds_toArray,List.set_cons_zero,List.set_cons_succ,nc,oc]
      rfl
     refine Od (i:=3) (N:=some 43) (v:=?_) (a':=?_) #[false,true,true,true,false,false,false] rfl rfl (by kernel_rfl) (fun _ _ _ h=>h) (Or.inl ⟨by rfl,?_⟩) ?_ ?_;rotate_left
     ·intro w';go_simp;with_reducible rfl
     rotate_left
     ·simp only [Act.put,List.setIfInBounds_toArray,List.set_cons_zero,List.set_cons_succ,nc,oc]
      rfl
     refine Qh (i:=0) (N:=some 40) (v:=?_) (a':=?_) #[true,true,true,true,false,false,false] rfl rfl (by kernel_rfl) (fun _ _ _ h=>h) (Or.inl ⟨by rfl,?_⟩) hHeld ?_ ?_;rotate_left
     ·rintro w' ⟨s0,s1,s2,s3,s4,s5⟩;go_simp;with_reducible rfl
     rotate_left
     ·simp only [Act.put,List.setIfInBounds_toArray,List.set_cons_zero,List.set_cons_succ,nc,oc]
      rfl
     refine Qh (i:=4) (N:=some 44) (v:=?_) (a':=?_) #[true,true,true,true,true,false,false] rfl rfl (by kernel_rfl) (fun _ _ _ h=>h) (Or.inl ⟨by rfl,?_⟩) hHeld ?_ ?_;rotate_left
     ·rintro w' ⟨s0,s1,s2,s3,s4,s5⟩;go_simp;with_reducible rfl
     rotate_left
     ·simp only [Act.put,List.setIfInBounds_toArray,List.set_cons_zero,List.set_cons_succ,nc,oc]
      rfl
     refine rz (i:=5) (N:=some 45) #[true,true,true,true,true,true,false] rfl rfl (by kernel_rfl) (by decide) (fun K hK=>?_);refine Hv Try.func42 (by kernel_rfl) rfl #[.agg #[.slice Ac (za Aa (i:Int)).f0.length cc,.int .i64 (za Aa (i:Int)).f1,.int .i64 (za Aa (i:Int)).f2,.int .i64 (za Aa (i:Int)).f3,.int .i64 (za Aa (i:Int)).f4],.slice Ar (qe (Ye Aa n) i).length cr] (by rfl) rfl rfl (by simp only [List.map_toArray,List.map_cons,List.map_nil];rfl) ?_;with_reducible refine (Ig.calls Ac cc (za Aa (i:Int)).f0 (za Aa (i:Int)).f1 (za Aa (i:Int)).f2 (za Aa (i:Int)).f3 (za Aa (i:Int)).f4 Ar cr (qe (Ye Aa n) i) (Ph (za Aa (i:Int)) (qe (Ye Aa n) i)) wd (Kd.Nb mZ.out cD.out.bw) k7.out HRC.out.2.2 HRC.out.2.1 D7.out).mono ?_
     rintro e dz ⟨v14,rfl,ho,hb⟩;refine ⟨_,rfl,?_⟩;obtain ⟨As,cs,hvs⟩:=Kd.od ho;rw [Sl,LZ.out] at hvs;subst hvs;have Cac:=ga.mk ho;have MD:=ga.mk (cD.out.below hb);have Fz:=ga.mk (Va Wl.out hb);have Fak:=ga.mk ((Kept.ic hb (fun _=>False)).2);have J6:=ga.mk (And.intro (Nc Wl.out) hb.size);have B8:=Wb HRC.out.1 (Kept.ic hb (fun _=>False)) id;clear ho hb;refine hK.out _ _ ⟨(ia Fz.out 0).trans rfl,(ia Fz.out 1).trans rfl,(ia Fz.out 2).trans rfl,(ia Fz.out 3).trans rfl,(ia Fz.out 4).trans rfl,B8⟩ (fun hHeld=>?_);clear hK K;refine Dq (a':=?_) ?_ ?_;rotate_left
     ·show Act.put _ (some 45) _=_
      simp only [Act.put,List.setIfInBounds_toArray,List.set_cons_zero,List.set_cons_succ,nc,oc]
      rfl
     refine Od (i:=6) (N:=some 8) (v:=?_) (a':=?_) #[true,true,true,true,true,true,true] rfl rfl (by kernel_rfl) (fun _ _ _ h=>h) (Or.inl ⟨by rfl,?_⟩) ?_ ?_;rotate_left
     ·intro w';go_simp;with_reducible rfl
     rotate_left
     ·simp only [Act.put,List.setIfInBounds_toArray,List.set_cons_zero,List.set_cons_succ,nc,oc]
      rfl
     refine ot (by kernel_rfl) ?_;clear hHeld B8 Fak HRC cD Wl;have HLW:=ga.mk MD.out.k.1;have OM:=ga.mk (show w6.heap.size ≤ wd.heap.size∧q7 < wd.heap.size∧wd.heap.size ≤ dz.heap.size from ⟨by have:=J6.out;have:=eP.out;omega,J6.out.1,J6.out.2⟩);clear J6 HLW;generalize wd.heap.size=N5 at Cac OM;have zy:dz.cell? ⟨q7,0,none⟩=some (.slice Ac (za Aa (i:Int)).f0.length cc):=(ia Fz.out 0).trans rfl;have Kt:(za Aa (i:Int)).f0.length ≤ 1048576:=kP.out.1;have NW:wrap64 (((za Aa (i:Int)).f0.length:Int) - 1)=((za Aa (i:Int)).f0.length:Int) - 1:=nk Kt;have HWR:=ga.mk NW;clear NW i1 i2;have gU:=ga.mk (show Vq Vg ((za Aa (i:Int)).f0.take (za Aa (i:Int)).f0.length).reverse (Et (za Aa (i:Int)).f0 (za Aa (i:Int)).f0.length (Ph (za Aa (i:Int)) (qe (Ye Aa n) i))) P=Xy Vg Aa (Ye Aa n) P i from by rw [List.take_length,uv];rfl);have Lt:=ga.mk (show Kd.R Kd.bool 4 dz N5 (fun _=>True) (.slice As n cs) (Et (za Aa (i:Int)).f0 (za Aa (i:Int)).f0.length (Ph (za Aa (i:Int)) (qe (Ye Aa n) i))) from by rw [uv];exact Cac.out);clear Cac;go_wp2;clear zy
     go_loopg [9] (za Aa (i:Int)).f0.length (fun g6 v9 wr=>∃ (z:Int) (q:Nat) (P':Nat→Nat→Prop),v9 = .int .i64 z∧z + 1=(q:Int)∧q ≤ (za Aa (i:Int)).f0.length∧q ≤ g6∧ga (Vq Vg ((za Aa (i:Int)).f0.take q).reverse (Et (za Aa (i:Int)).f0 q (Ph (za Aa (i:Int)) (qe (Ye Aa n) i))) P' = Xy Vg Aa (Ye Aa n) P i)∧ga (dL w w6 (Ty Ya Qa.length Za Ja Ga n (some ag) Aa.length Cb) n PB v P' wr)∧ga (Kd.R Kd.bool 4 wr N5 (fun _=>True) (.slice As n cs) (Et (za Aa (i:Int)).f0 q (Ph (za Aa (i:Int)) (qe (Ye Aa n) i))))∧ga (N5 ≤ wr.heap.size)∧ga (wr.heap[q7]? = some (.cells #[.slice Ac (za Aa (i:Int)).f0.length cc,.int .i64 (za Aa (i:Int)).f1,.int .i64 (za Aa (i:Int)).f2,.int .i64 (za Aa (i:Int)).f3,.int .i64 (za Aa (i:Int)).f4] 59 (0,0))))
     case atStart=>exact ⟨((za Aa (i:Int)).f0.length:Int) - 1,(za Aa (i:Int)).f0.length,P,by first|rfl|(go_simp;done)|exact congrArg _ HWR.out|go_num,by omega,Nat.le_refl _,Nat.le_refl _,gU,MD,Lt,⟨OM.out.2.2⟩,Fz⟩
     case round =>
      clear gU MD Lt Fz;(try clear P);(try clear gU);(try clear HI);(try clear Lt);(try clear wD);(try clear HQ);obtain ⟨z,q,P',rfl,hz,hq,hg6,gU,HI,Lt,wD,HQ⟩:=hrel
      by_cases hz0:0 ≤ z
      ·obtain ⟨p,rfl⟩:∃ p:Nat,z=(p:Int):=⟨z.toNat,(Int.toNat_of_nonneg hz0).symm⟩;obtain rfl:q=p + 1:=by omega
       have L1:p < (za Aa (i:Int)).f0.length:=by omega
       have CW:decide ((p:Int) ≥ 0)=true:=decide_eq_true (by omega);have p1:0 ≤ (p:Int):=by omega
       have p2:(p:Int) < ((za Aa (i:Int)).f0.length:Int):=by omega
       have zy:wr.cell? ⟨q7,0,none⟩=some (.slice Ac (za Aa (i:Int)).f0.length cc):=(ia HQ.out 0).trans rfl;obtain ⟨aI,e6,k0,k1,k2,k3,k4,k5,k6⟩:=jm mZ.out (p:Int) (by omega) (by omega);subst e6;simp only [Int.toNat_natCast] at k0 k1 k2 k3 k4 k5 k6;have KK:=ga.mk (Zv kP.out L1)
       have HXT:=ga.mk (show Vq Vg ((za Aa (i:Int)).f0.take p).reverse (Et (za Aa (i:Int)).f0 p (Ph (za Aa (i:Int)) (qe (Ye Aa n) i))) (Vg P' (Ea (za Aa (i:Int)).f0 (p:Int)) (Et (za Aa (i:Int)).f0 (p + 1) (Ph (za Aa (i:Int)) (qe (Ye Aa n) i))))=Xy Vg Aa (Ye Aa n) P i from by
        have h:=gU.out;rw [aG Vg L1,← gr L1] at h
        exact h)
       have HXB:=ga.mk (show (Et (za Aa (i:Int)).f0 p (Ph (za Aa (i:Int)) (qe (Ye Aa n) i)))=Zn (Et (za Aa (i:Int)).f0 (p + 1) (Ph (za Aa (i:Int)) (qe (Ye Aa n) i))) (Ea (za Aa (i:Int)).f0 (p:Int)) from gr L1 _);have ZT:=ga.mk (show (Et (za Aa (i:Int)).f0 (p + 1) (Ph (za Aa (i:Int)) (qe (Ye Aa n) i))).length=n by rw [Cy,Sl];exact LZ.out);generalize Ea (za Aa (i:Int)).f0 (p:Int)=x at k0 k1 k2 k3 k4 k5 k6 KK HXT HXB;generalize (Et (za Aa (i:Int)).f0 (p + 1) (Ph (za Aa (i:Int)) (qe (Ye Aa n) i)))=s at Lt ZT HXT HXB;have kZ:=ga.mk (And.intro k0 (And.intro k1 (And.intro k2 (And.intro k3 (And.intro k4 (And.intro k5 k6))))));replace k0:=Wb k0 (Kept.ic HI.out.bw (fun _=>False)) id;replace k1:=Wb k1 (Kept.ic HI.out.bw (fun _=>False)) id;replace k2:=Wb k2 (Kept.ic HI.out.bw (fun _=>False)) id;replace k3:=Wb k3 (Kept.ic HI.out.bw (fun _=>False)) id;replace k4:=Wb k4 (Kept.ic HI.out.bw (fun _=>False)) id;replace k5:=Wb k5 (Kept.ic HI.out.bw (fun _=>False)) id;replace k6:=Wb k6 (Kept.ic HI.out.bw (fun _=>False)) id;obtain ⟨Vy,y8⟩:=wO KK.out;have OZ:=ga.mk Vy;have HDX:=ga.mk y8;have HWP:=ga.mk (show wrap64 ((p:Int) - 1)=(p:Int) - 1 from nk (by omega));obtain ⟨kb,tQ⟩:=Ev.rounds (nM s x (by rw [ZT.out];exact KK.out));have HKB:=ga.mk tQ;clear Vy y8 tQ hz0;obtain ⟨wk,rfl⟩:∃ wk,wk=wr:=⟨_,rfl⟩
       by_cases hm:Am x ≥ 0
       ·obtain ⟨D,hD⟩:∃ D:Nat,Am x=(D:Int):=⟨(Am x).toNat,(Int.toNat_of_nonneg hm).symm⟩;have hDn:D < n:=by have:=mH KK.out hm;omega
        have HMD:=ga.mk hD;have HF1:=ga.mk (show x.f1=(D:Int) from (HDX.out hm).trans hD);have Vy:=OZ.out;rw [decide_eq_true hm] at Vy;have uG:=ga.mk Vy;clear Vy hm hD OZ
        go_upto_region 16 with (first|(go_at_call 73;(with_reducible refine (Eg.calls x.f0 x.f1 x.f2 x.f3 x.f4 x.f5 x.f6 true wk uG.out).mono ?_);rintro e zm ⟨rfl,hb⟩;have qo:=ga.mk hb;clear hb zy k0 k1 k2 k3 k4 k5 k6))
        have PM:=ga.mk ((HI.out.below qo.out).Wq (Q:=Hr P' x s 0) (fun a b=>Iff.intro Or.inl (fun h=>h.elim id (fun h=>absurd h.2.2.1 (Nat.not_lt_zero _)))));have aZ:=ga.mk (Kd.xd (Kd.ug (Kd.ld Lt.out qo.out)) (fun k hk=>hk.2.1):Kd.R Kd.bool _ zm N5 (fun k=>N5 ≤ k) _ s);have OB:=ga.mk (Va HQ.out qo.out);have NM:=ga.mk (show N5 ≤ zm.heap.size from Nat.le_trans wD.out qo.out.size);clear HI Lt HQ qo CW p1 p2 wD;go_wp2
        go_loopg [10] n (fun g7 v10 wr=>∃ (u:Nat),v10 = .int .i64 u∧u ≤ n∧n - u ≤ g7∧ga (dL w w6 (Ty Ya Qa.length Za Ja Ga n (some ag) Aa.length Cb) n PB v (Hr P' x s u) wr)∧ga (Kd.R Kd.bool 4 wr N5 (fun k=>N5 ≤ k) (.slice As n cs) s)∧ga (wr.heap[q7]? = some (.cells #[.slice (some aI) (za Aa (i:Int)).f0.length cc,.int .i64 (za Aa (i:Int)).f1,.int .i64 (za Aa (i:Int)).f2,.int .i64 (za Aa (i:Int)).f3,.int .i64 (za Aa (i:Int)).f4] 59 (0,0)))∧ga (N5 ≤ wr.heap.size))
        case atStart=>exact ⟨0,rfl,Nat.zero_le _,by omega,PM,aZ,OB,NM⟩
        case round =>
         clear PM aZ OB NM;(try clear HI);(try clear Lt);(try clear HQ);(try clear wD);obtain ⟨u,rfl,hu,hg7,HI,Lt,HQ,wD⟩:=hrel;have Hq:wr.cell? ⟨w.heap.size,3,none⟩=some (.int .i64 (n:Int)):=(ia HI.out.hx 3).trans rfl
         by_cases hun:u < n
         ·have hub:decide ((u:Int) < (n:Int))=true:=decide_eq_true (by omega);have u1:0 ≤ (u:Int):=by omega
          have u2:(u:Int) < (n:Int):=by omega
          have EZ:=(Kd.Rb Lt.out).2.2;obtain ⟨aS,e7,hsc⟩:=cA EZ (show u < s.length by rw [ZT.out];exact hun);subst e7;clear EZ;cases lC:seen s u with
          | true =>
           rw [lC] at hsc;have zy:wr.cell? ⟨q7,0,none⟩=some (.slice (some aI) (za Aa (i:Int)).f0.length cc):=(ia HQ.out 0).trans rfl;obtain ⟨-,k1,-⟩:=kZ.out;replace k1:=Wb k1 (Kept.ic HI.out.bw (fun _=>False)) id;rw [HF1.out] at k1;have p1:0 ≤ (p:Int):=by omega
           have p2:(p:Int) < ((za Aa (i:Int)).f0.length:Int):=by omega
           have HCM:=ga.mk (HI.out.call KM.out hDn hun hn);have HSE:=ga.mk lC;clear lC;go_wp2_with (first|(go_at_call 84;refine HCM.out.mono ?_;rintro e zo ⟨rfl,h1,h2,h3⟩;have sG:=ga.mk h1;have Bac:=ga.mk (Kd.Fp Lt.out h2 (fun k hk e=>by have:=(KM.out k e).2;have:=OM.out;omega));have GK:=ga.mk (Ve HQ.out h2 (fun e=>by have:=(KM.out _ e).2;have:=eP.out;omega));have Wak:=ga.mk (Nat.le_trans wD.out h2.1);clear h1 h2 h3 hsc zy k1 Hq))
           have Rv:=ga.mk (sG.out.Wq (Q:=Hr P' x s (u + 1)) (fun a b=>by
            unfold Hr;have h1:=HMD.out
            constructor
            ·rintro ((h|⟨h2,h3,h4,h5⟩)|⟨rfl,rfl⟩)
             ·exact Or.inl h
             ·exact Or.inr ⟨h2,h3,by omega,h5⟩
             ·exact Or.inr ⟨by omega,by omega,by omega,HSE.out⟩
            ·rintro (h|⟨h2,h3,h4,h5⟩)
             ·exact Or.inl (Or.inl h)
             ·by_cases e:b=u
              ·exact Or.inr ⟨by omega,e⟩
              ·exact Or.inl (Or.inr ⟨h2,h3,by omega,h5⟩)))
           go_roundg (n - (u + 1))
           case measure=>omega
           case rel=>exact ⟨u + 1,by go_num,by omega,by omega,Rv,Bac,GK,Wak⟩
          | false =>
           rw [lC] at hsc
           have Rv:=ga.mk (HI.out.Wq (Q:=Hr P' x s (u + 1)) (fun a b=>by
            unfold Hr
            constructor
            ·rintro (h|⟨h2,h3,h4,h5⟩)
             ·exact Or.inl h
             ·exact Or.inr ⟨h2,h3,by omega,h5⟩
            ·rintro (h|⟨h2,h3,h4,h5⟩)
             ·exact Or.inl h
             ·by_cases e:b=u
              ·subst e;rw [lC] at h5;cases h5
              ·exact Or.inr ⟨h2,h3,by omega,h5⟩))
           clear lC;go_wp2
           go_roundg (n - (u + 1))
           case measure=>omega
           case rel=>exact ⟨u + 1,by go_num,by omega,by omega,Rv,Lt,HQ,wD⟩
         ·have hub:decide ((u:Int) < (n:Int))=false:=decide_eq_false (by omega)
          have bH:=ga.mk (HI.out.Wq (Q:=Vg P' x s) (fun a b=>by
           unfold Hr Vg
           constructor
           ·rintro (h|⟨h2,h3,h4,h5⟩)
            ·exact Or.inl h
            ·exact Or.inr ⟨h2,h3,h5⟩
           ·rintro (h|⟨h2,h3,h5⟩)
            ·exact Or.inl h
            ·exact Or.inr ⟨h2,h3,by have:=Yl h5;have:=ZT.out;omega,h5⟩))
          clear HI;have zy:wr.cell? ⟨q7,0,none⟩=some (.slice (some aI) (za Aa (i:Int)).f0.length cc):=(ia HQ.out 0).trans rfl;obtain ⟨k0,k1,k2,k3,k4,k5,k6⟩:=kZ.out;replace k0:=Wb k0 (Kept.ic bH.out.bw (fun _=>False)) id;replace k1:=Wb k1 (Kept.ic bH.out.bw (fun _=>False)) id;replace k2:=Wb k2 (Kept.ic bH.out.bw (fun _=>False)) id;replace k3:=Wb k3 (Kept.ic bH.out.bw (fun _=>False)) id;replace k4:=Wb k4 (Kept.ic bH.out.bw (fun _=>False)) id;replace k5:=Wb k5 (Kept.ic bH.out.bw (fun _=>False)) id;replace k6:=Wb k6 (Kept.ic bH.out.bw (fun _=>False)) id;have p1:0 ≤ (p:Int):=by omega
          have p2:(p:Int) < ((za Aa (i:Int)).f0.length:Int):=by omega
          have HCB:=ga.mk (Bz wD.out);have HSB:=ga.mk (show Kd.R Kd.bool 4 wr (UG wr N5).heap.size (fun k=>N5 ≤ k) (.slice As n cs) s by rw [Gl wD.out];exact Lt.out);go_wp2_with (first|(go_at_call 44;(with_reducible refine (Lc.calls kb x.f0 x.f1 x.f2 x.f3 x.f4 x.f5 x.f6 (fun k=>N5 ≤ k) (.slice As n cs) s (Zn s x) (UG wr N5) wr HCB.out HSB.out HKB.out).mono ?_);rintro e Jt ⟨rfl,ho,hb,hk⟩;have Aac:=ga.mk ho;have Ny:=ga.mk hb;have IK:=ga.mk hk;clear ho hb hk zy k0 k1 k2 k3 k4 k5 k6));have DW:Below 0 wr Jt:=⟨Ny.out.os,Ny.out.tape,Ny.out.output,IK.out.1,fun k hk=>absurd hk (Nat.not_lt_zero _)⟩;have fad:=ga.mk (bH.out.far KM.out HW6.out OM.out.1 IK.out DW);have MN:=Aac.out;rw [Gl wD.out] at MN;have zac:=ga.mk (show Kd.R Kd.bool 4 Jt N5 (fun _=>True) (.slice As n cs) (Et (za Aa (i:Int)).f0 p (Ph (za Aa (i:Int)) (qe (Ye Aa n) i))) from by rw [HXB.out];exact Kd.xd MN (fun _ _=>trivial));have rV:=ga.mk (Ve HQ.out IK.out (by have:=OM.out;omega));clear DW MN
          go_roundg p
          case measure=>omega
          case rel=>exact ⟨(p:Int) - 1,p,_,by first|rfl|(go_simp;done)|exact congrArg _ HWP.out|go_num,by omega,by omega,Nat.le_refl _,HXT,fad,zac,⟨Nat.le_trans wD.out IK.out.1⟩,rV⟩
       ·have Vy:=OZ.out;rw [decide_eq_false hm] at Vy;have uG:=ga.mk Vy
        have HI8:=ga.mk (HI.out.Wq (Q:=Vg P' x s) (fun a b=>by
         unfold Vg
         exact ⟨Or.inl,fun h=>h.elim id (fun h=>absurd h.1 hm)⟩))
        clear Vy hm OZ HI
        go_upto_region 21 with (first|(go_at_call 73;(with_reducible refine (Eg.calls x.f0 x.f1 x.f2 x.f3 x.f4 x.f5 x.f6 false wk uG.out).mono ?_);rintro e zm ⟨rfl,hb⟩;have qo:=ga.mk hb;clear hb zy k0 k1 k2 k3 k4 k5 k6))
        have bH:=ga.mk (HI8.out.below qo.out);have aZ:=ga.mk (Kd.xd (Kd.ug (Kd.ld Lt.out qo.out)) (fun k hk=>hk.2.1):Kd.R Kd.bool _ zm N5 (fun k=>N5 ≤ k) _ s);have OB:=ga.mk (Va HQ.out qo.out);have NM:=ga.mk (show N5 ≤ zm.heap.size from Nat.le_trans wD.out qo.out.size);clear HI8 Lt HQ qo CW p1 p2 wD;have Lt:=aZ;have HQ:=OB;have wD:=NM;clear aZ OB NM;have zy:zm.cell? ⟨q7,0,none⟩=some (.slice (some aI) (za Aa (i:Int)).f0.length cc):=(ia HQ.out 0).trans rfl;obtain ⟨k0,k1,k2,k3,k4,k5,k6⟩:=kZ.out;replace k0:=Wb k0 (Kept.ic bH.out.bw (fun _=>False)) id;replace k1:=Wb k1 (Kept.ic bH.out.bw (fun _=>False)) id;replace k2:=Wb k2 (Kept.ic bH.out.bw (fun _=>False)) id;replace k3:=Wb k3 (Kept.ic bH.out.bw (fun _=>False)) id;replace k4:=Wb k4 (Kept.ic bH.out.bw (fun _=>False)) id;replace k5:=Wb k5 (Kept.ic bH.out.bw (fun _=>False)) id;replace k6:=Wb k6 (Kept.ic bH.out.bw (fun _=>False)) id;have p1:0 ≤ (p:Int):=by omega
        have p2:(p:Int) < ((za Aa (i:Int)).f0.length:Int):=by omega
        have HCB:=ga.mk (Bz wD.out);have HSB:=ga.mk (show Kd.R Kd.bool 4 zm (UG zm N5).heap.size (fun k=>N5 ≤ k) (.slice As n cs) s by rw [Gl wD.out];exact Lt.out);go_wp2_with (first|(go_at_call 44;(with_reducible refine (Lc.calls kb x.f0 x.f1 x.f2 x.f3 x.f4 x.f5 x.f6 (fun k=>N5 ≤ k) (.slice As n cs) s (Zn s x) (UG zm N5) zm HCB.out HSB.out HKB.out).mono ?_);rintro e Jt ⟨rfl,ho,hb,hk⟩;have Aac:=ga.mk ho;have Ny:=ga.mk hb;have IK:=ga.mk hk;clear ho hb hk zy k0 k1 k2 k3 k4 k5 k6));have DW:Below 0 zm Jt:=⟨Ny.out.os,Ny.out.tape,Ny.out.output,IK.out.1,fun k hk=>absurd hk (Nat.not_lt_zero _)⟩;have fad:=ga.mk (bH.out.far KM.out HW6.out OM.out.1 IK.out DW);have MN:=Aac.out;rw [Gl wD.out] at MN;have zac:=ga.mk (show Kd.R Kd.bool 4 Jt N5 (fun _=>True) (.slice As n cs) (Et (za Aa (i:Int)).f0 p (Ph (za Aa (i:Int)) (qe (Ye Aa n) i))) from by rw [HXB.out];exact Kd.xd MN (fun _ _=>trivial));have rV:=ga.mk (Ve HQ.out IK.out (by have:=OM.out;omega));clear DW MN
        go_roundg p
        case measure=>omega
        case rel=>exact ⟨(p:Int) - 1,p,_,by first|rfl|(go_simp;done)|exact congrArg _ HWP.out|go_num,by omega,by omega,Nat.le_refl _,HXT,fad,zac,⟨Nat.le_trans wD.out IK.out.1⟩,rV⟩
      ·have CW:decide (z ≥ 0)=false:=decide_eq_false (by omega);obtain rfl:q=0:=by omega
       have jX:=gU.out;rw [List.take_zero,List.reverse_nil,show Vq Vg [] (Et (za Aa (i:Int)).f0 0 (Ph (za Aa (i:Int)) (qe (Ye Aa n) i))) P' = P' from rfl] at jX;have HFZ:=ga.mk jX;have HSZ:=ga.mk (Kd.xd (Kd.ug Lt.out) (fun k hk=>hk.2.1):Kd.R Kd.bool _ wr N5 (fun k=>N5 ≤ k) _ _);have ZT:=ga.mk (show (Et (za Aa (i:Int)).f0 0 (Ph (za Aa (i:Int)) (qe (Ye Aa n) i))).length=n by rw [Cy,Sl];exact LZ.out);have Dac:=ga.mk (show i=0→(Et (za Aa (i:Int)).f0 0 (Ph (za Aa (i:Int)) (qe (Ye Aa n) i)))=DF Aa n from fun e=>by subst e;rw [gG,aA hlt];rfl);clear jX gU Lt;generalize (Et (za Aa (i:Int)).f0 0 (Ph (za Aa (i:Int)) (qe (Ye Aa n) i)))=s at HSZ ZT Dac;obtain ⟨wk,rfl⟩:∃ wk,wk=wr:=⟨_,rfl⟩;have ial:=ga.mk (HI.out.Wq (Q:=fun a b=>P' a b ∨ (i=0∧a < 0∧b < a∧seen s a=true∧seen s b=true)) (fun a b=>Iff.intro Or.inl (fun h=>h.elim id (fun h=>absurd h.2.1 (Nat.not_lt_zero _)))));clear HI HQ wD LZ;go_wp2
       go_loopg [11] n (fun g8 v11 wr=>∃ (u:Nat),v11 = .int .i64 u∧u ≤ n∧n - u ≤ g8∧ga (dL w w6 (Ty Ya Qa.length Za Ja Ga n (some ag) Aa.length Cb) n PB v (fun a b=>P' a b ∨ (i=0∧a < u∧b < a∧seen s a=true∧seen s b=true)) wr)∧ga (Kd.R Kd.bool 4 wr N5 (fun k=>N5 ≤ k) (.slice As n cs) s))
       case atStart=>exact ⟨0,rfl,Nat.zero_le _,by omega,ial,HSZ⟩
       case round =>
        clear ial HSZ CW;(try clear HI);(try clear Lt);obtain ⟨u,rfl,hu,hg8,HI,Lt⟩:=hrel;have Hq:wr.cell? ⟨w.heap.size,3,none⟩=some (.int .i64 (n:Int)):=(ia HI.out.hx 3).trans rfl
        by_cases VK:u < n∧i=0
        ·obtain ⟨hun,hi0⟩:=VK;have hub:decide ((u:Int) < (n:Int))=true:=decide_eq_true (by omega);have hib:((i:Int) == 0)=true:=by rw [beq_iff_eq];omega
         have HI0:=ga.mk hi0;clear hi0;have u1:0 ≤ (u:Int):=by omega
         have u2:(u:Int) < (n:Int):=by omega
         obtain ⟨wo,rfl⟩:∃ wo,wo=wr:=⟨_,rfl⟩;have hal:=ga.mk (HI.out.Wq (Q:=fun a b=>(P' a b ∨ (i=0∧a < u∧b < a∧seen s a=true∧seen s b=true)) ∨ (a=u∧b < 0∧seen s a=true∧seen s b=true)) (fun a b=>Iff.intro Or.inl (fun h=>h.elim id (fun h=>absurd h.2.1 (Nat.not_lt_zero _)))))
         go_upto_region 26 with (fail)
         clear Hq
         go_loopg [12] u (fun g9 v12 wr=>∃ (t:Nat),v12 = .int .i64 t∧t ≤ u∧u - t ≤ g9∧ga (dL w w6 (Ty Ya Qa.length Za Ja Ga n (some ag) Aa.length Cb) n PB v (fun a b=>(P' a b ∨ (i=0∧a < u∧b < a∧seen s a=true∧seen s b=true)) ∨ (a=u∧b < t∧seen s a=true∧seen s b=true)) wr)∧ga (Kd.R Kd.bool 4 wr N5 (fun k=>N5 ≤ k) (.slice As n cs) s))
         case atStart=>exact ⟨0,rfl,Nat.zero_le _,by omega,hal,Lt⟩
         case round =>
          clear hal Lt HI hub hib;(try clear HI);(try clear Lt);obtain ⟨t,rfl,ht,hg9,HI,Lt⟩:=hrel
          by_cases htu:t < u
          ·have htb:decide ((t:Int) < (u:Int))=true:=decide_eq_true (by omega);have t1:0 ≤ (t:Int):=by omega
           have t2:(t:Int) < (n:Int):=by omega
           have EZ:=(Kd.Rb Lt.out).2.2;obtain ⟨aS,e7,hsc⟩:=cA EZ (show u < s.length by rw [ZT.out];exact hun);obtain ⟨aS2,e8,hsd⟩:=cA EZ (show t < s.length by rw [ZT.out];omega);subst e7;obtain rfl:aS=aS2:=Option.some.inj e8;clear EZ e8
           by_cases hbo:seen s u=true∧seen s t=true
           ·obtain ⟨hs1,lQ⟩:=hbo;rw [hs1] at hsc;rw [lQ] at hsd;have HCM:=ga.mk (HI.out.call KM.out hun (show t < n by omega) hn);have HSE:=ga.mk (And.intro hs1 lQ);clear hs1 lQ;go_wp2_with (first|(go_at_call 84;refine HCM.out.mono ?_;rintro e zo ⟨rfl,h1,h2,h3⟩;have sG:=ga.mk h1;have Bac:=ga.mk (Kd.Fp Lt.out h2 (fun k hk e=>by have:=(KM.out k e).2;have:=OM.out;omega));clear h1 h2 h3 hsc hsd))
            have Rv:=ga.mk (sG.out.Wq (Q:=fun a b=>(P' a b ∨ (i=0∧a < u∧b < a∧seen s a=true∧seen s b=true)) ∨ (a=u∧b < t + 1∧seen s a=true∧seen s b=true)) (fun a b=>by
             constructor
             ·rintro ((h|⟨h2,h3,h4,h5⟩)|⟨rfl,rfl⟩)
              ·exact Or.inl h
              ·exact Or.inr ⟨h2,by omega,h4,h5⟩
              ·exact Or.inr ⟨rfl,by omega,HSE.out.1,HSE.out.2⟩
             ·rintro (h|⟨h2,h3,h4,h5⟩)
              ·exact Or.inl (Or.inl h)
              ·by_cases e:b=t
               ·exact Or.inr ⟨h2,e⟩
               ·exact Or.inl (Or.inr ⟨h2,by omega,h4,h5⟩)))
            go_roundg (u - (t + 1))
            case measure=>omega
            case rel=>exact ⟨t + 1,by go_num,by omega,by omega,Rv,Bac⟩
           ·have Rv:=ga.mk (HI.out.Wq (Q:=fun a b=>(P' a b ∨ (i=0∧a < u∧b < a∧seen s a=true∧seen s b=true)) ∨ (a=u∧b < t + 1∧seen s a=true∧seen s b=true)) (fun a b=>by
             constructor
             ·rintro (h|⟨h2,h3,h4,h5⟩)
              ·exact Or.inl h
              ·exact Or.inr ⟨h2,by omega,h4,h5⟩
             ·rintro (h|⟨h2,h3,h4,h5⟩)
              ·exact Or.inl h
              ·by_cases e:b=t
               ·subst e;subst h2;exact absurd ⟨h4,h5⟩ hbo
               ·exact Or.inr ⟨h2,by omega,h4,h5⟩))
            have HBO:=ga.mk hbo;clear hbo HI;cases hs1:seen s u with
            | false =>
             rw [hs1] at hsc;clear hs1;go_wp2
             go_roundg (u - (t + 1))
             case measure=>omega
             case rel=>exact ⟨t + 1,by go_num,by omega,by omega,Rv,Lt⟩
            | true =>
             have lQ:seen s t=false:=by
              cases h:seen s t with
              | false=>rfl
              | true=>exact absurd ⟨hs1,h⟩ HBO.out
             rw [hs1] at hsc;rw [lQ] at hsd;clear hs1 lQ;go_wp2
             go_roundg (u - (t + 1))
             case measure=>omega
             case rel=>exact ⟨t + 1,by go_num,by omega,by omega,Rv,Lt⟩
          ·have htb:decide ((t:Int) < (u:Int))=false:=decide_eq_false (by omega);obtain rfl:u=t:=by omega
           have Rv:=ga.mk (HI.out.Wq (Q:=fun a b=>P' a b ∨ (i=0∧a < u + 1∧b < a∧seen s a=true∧seen s b=true)) (fun a b=>by
            constructor
            ·rintro ((h|⟨h2,h3,h4⟩)|⟨h2,h3,h4⟩)
             ·exact Or.inl h
             ·exact Or.inr ⟨h2,by omega,h4⟩
             ·exact Or.inr ⟨HI0.out,by omega,by omega,h4⟩
            ·rintro (h|⟨h2,h3,h4,h5⟩)
             ·exact Or.inl (Or.inl h)
             ·by_cases e:a=u
              ·exact Or.inr ⟨e,by omega,h5⟩
              ·exact Or.inl (Or.inr ⟨h2,by omega,h4,h5⟩)))
           clear HI;go_wp2
           go_roundg (n - (u + 1))
           case measure=>omega
           case rel=>exact ⟨u + 1,by go_num,by omega,by omega,Rv,Lt⟩
        ·have QM:=ga.mk (show ∀ a b,(dh Vg Aa (Ye Aa n) (i + 1) (fun a b=>P' a b ∨ (i=0∧a < u∧b < a∧seen s a=true∧seen s b=true)) a b ∨ (i + 1=0∧b < a∧seen (DF Aa n) a=true∧seen (DF Aa n) b=true)) ↔ FIN a b from fun a b=>by
          rw [← hU.out a b,qK Aa (Ye Aa n) (Aa.length - (i + 1)) (i + 1) P' (fun a b=>i=0∧a < u∧b < a∧seen s a=true∧seen s b=true) a b (by omega),HFZ.out,← Qo Vg hlt]
          constructor
          ·rintro ((h|⟨h1,h2,h3⟩)|h)
           ·exact Or.inl h
           ·exact Or.inr ⟨h1,by rw [← Dac.out h1];exact h3⟩
           ·exact absurd h.1 (Nat.succ_ne_zero _)
          ·rintro (h|⟨h1,h3⟩)
           ·exact Or.inl (Or.inl h)
           ·rw [← Dac.out h1] at h3;have hl:=Yl h3.2.1;rw [ZT.out] at hl
            exact Or.inl (Or.inr ⟨h1,by omega,h3⟩))
         have HGO:=ga.mk VK;clear VK
         by_cases hun:u < n
         ·have hub:decide ((u:Int) < (n:Int))=true:=decide_eq_true (by omega);have hib:((i:Int) == 0)=false:=by rw [beq_eq_false_iff_ne];intro e;exact HGO.out ⟨hun,by omega⟩
          go_wp2
          go_roundg (Aa.length - (i + 1))
          case measure=>omega
          case rel=>exact ⟨i + 1,_,by go_num,by omega,by omega,QM,HI⟩
         ·have hub:decide ((u:Int) < (n:Int))=false:=decide_eq_false (by omega);go_wp2
          go_roundg (Aa.length - (i + 1))
          case measure=>omega
          case rel=>exact ⟨i + 1,_,by go_num,by omega,by omega,QM,HI⟩
    ·have Ns:decide ((i:Int) < (Aa.length:Int))=false:=decide_eq_false (by omega);obtain rfl:i=Aa.length:=by omega
     have QM:=ga.mk (show Kd.S (Kd.slice 4 Kd.bool) 60 wr w.heap.size (fun _=>True) v (Gp Aa n) from by
      obtain ⟨T,t1,t2⟩:=HI.out.t
      have he:T=Gp Aa n:=t2.ext (gC Aa n) (fun a b hab=>by
       have hP:∀ a b,P a b ↔ FIN a b:=fun a b=>by
        have h:=hU.out a b;rw [wq] at h;exact ⟨fun hp=>h.1 (Or.inl hp),fun hf=>(h.2 hf).elim id (fun e=>by have:=e.1;omega)⟩
       rw [hP,hP,Bax.out];unfold vF
       constructor
       ·rintro ((h|h)|(h|h))
        ·exact Or.inl (Or.inl h)
        ·exact Or.inl (Or.inr h.2)
        ·exact Or.inr (Or.inl h)
        ·exact Or.inr (Or.inr h.2)
       ·rintro ((h|h)|(h|h))
        ·exact Or.inl (Or.inl h)
        ·rcases Nat.lt_or_ge b a with e|e
         ·exact Or.inl (Or.inr ⟨e,h⟩)
         ·exact Or.inr (Or.inr ⟨by omega,h.2,h.1⟩)
        ·exact Or.inr (Or.inl h)
        ·rcases Nat.lt_or_ge b a with e|e
         ·exact Or.inl (Or.inr ⟨e,h.2,h.1⟩)
         ·exact Or.inr (Or.inr ⟨by omega,h⟩))
      rw [← he]
      exact Kd.Ah t1 (fun _ _=>trivial))
     have hone:v.oneCell' = true:=by obtain ⟨A,c,rfl⟩:=Kd.Wj QM.out;rfl
     go_wp2;go_ret;exact ⟨_,rfl,QM.out,HI.out.bw⟩
end Go.Proofs.Ytkigbdceceeenaa.P
end
section
namespace Go.Proofs.Ytkigbdceceeenaa.P
open Go.RowKit Go.Proofs.Ma.Tb Go.Proofs.Ma.Gd Go.Proofs.Ma.De
set_option linter.unusedVariables false
set_option linter.unusedSimpArgs false
def tl (x:He):List Int:=Hg x ++ (if Am x ≥ 0 then [Am x] else [])
def jl (b:Je):List Int:=if b.f1=0 then [] else [b.f2]
def uU (b:Je):List Int:=jl b ++ b.f0.flatMap tl
def AZ (bs:List Je) (n:Nat):List Bool:=(bs.flatMap uU).foldl Mg (List.replicate n false)
theorem DP (bs:List Je) (n:Nat):(AZ bs n).length=n:=by unfold AZ;rw [di,List.length_replicate]
noncomputable def xh.f (Qa:List Int) (Ja:Int) (Ga:Int) (Ia:Int) (Aa:List (Je)):Option (List Bool):=open Classical in if 0 ≤ Ia∧mm Aa Ia.toNat then some (AZ Aa Ia.toNat) else none
structure eN (w:World) (o:Obj) (N:Nat) (A:Option Addr) (n c:Nat) (s:List Bool) (wr:World):Prop where
 bw:Below w.heap.size w wr
 hx:wr.heap[w.heap.size]? = some o
 r:Kd.R Kd.bool 4 wr w.heap.size (fun k=>w.heap.size < k∧k < N) (.slice A n c) s
 l:s.length=n
 z:N ≤ wr.heap.size
section
variable {w wr W:World} {o:Obj} {N n c:Nat} {A:Option Addr} {s:List Bool}
theorem eN.below (h:eN w o N A n c s wr) (hb:Below wr.heap.size wr W):eN w o N A n c s W:=⟨Ra h.bw hb,Va h.hx hb,Kd.ld h.r hb,h.l,Nat.le_trans h.z hb.size⟩
theorem eN.put {u:Int} (h:eN w o N A n c s wr) (hu:0 ≤ u∧u < (n:Int)):∃ (g z:Nat),A=some ⟨g,0,none⟩∧u=(z:Int)∧z < n∧wr.cell? ⟨g,z,none⟩=some (.bool (seen s z))∧wr.frozen? ⟨g,z,none⟩=false∧eN w o N A n c (Mg s u) (wr.setCell ⟨g,z,none⟩ (.bool true))∧Kept wr (wr.setCell ⟨g,z,none⟩ (.bool true)) (fun k=>w.heap.size < k∧k < N):=by
 obtain ⟨h0,h1⟩:=hu;obtain ⟨z,rfl⟩:∃ z:Nat,u=(z:Int):=⟨u.toNat,(Int.toNat_of_nonneg h0).symm⟩;obtain ⟨g,rfl,hb,hc,hf,hp⟩:=JY h.r (show z < s.length by rw [h.l];omega);have hg:=h.r.1 g rfl;have hk:Kept wr (wr.setCell ⟨g,z,none⟩ (.bool true)) (fun k=>w.heap.size < k∧k < N):=(Kept.refl wr _).setCell (p:=⟨g,z,none⟩) (Or.inl hg) (.bool true);refine ⟨g,z,rfl,rfl,by omega,hc,hf,⟨h.bw.setCell hb _,Ve h.hx hk (fun e=>by omega),?_,by unfold Mg;rw [List.length_set];exact h.l,Nat.le_trans h.z hk.1⟩,hk⟩;unfold Mg;rw [Int.toNat_natCast];exact (hp true).1
end
theorem xh.calls (Ya:Option Addr) (Za:Nat) (Qa:List Int) (Ja:Int) (Ga:Int) (Ia:Int) (Mb:Option Addr) (Cb:Nat) (Aa:List (Je)) (r:List Bool) (w:World) (Ud:Kd.C (Kd.int .i64) w Ya Qa.length Qa) (Rd:Qa.length ≤ Za) (yf:Kd.C Fq w Mb Aa.length Aa) (kf:Aa.length ≤ Cb) (h:xh.f Qa Ja Ga Ia Aa=some r) :
  Calls Try.prog 60 #[.agg #[.slice Ya Qa.length Za,.int .i64 Ja,.int .i64 Ga,.int .i64 Ia,.slice Mb Aa.length Cb]] w fun e w'=>∃ Nl:Value,e = .returned (Nl)∧Kd.R Kd.bool 4 w' w.heap.size (fun _=>True) Nl r∧Below w.heap.size w w':=by
 unfold xh.f at h
 by_cases hf:0 ≤ Ia∧mm Aa Ia.toNat
 case neg=>rw [if_neg hf] at h;cases h
 rw [if_pos hf] at h;obtain rfl:=Option.some.inj h;obtain ⟨hn0,hO⟩:=hf;obtain ⟨n,rfl⟩:∃ n:Nat,Ia=(n:Int):=⟨Ia.toNat,(Int.toNat_of_nonneg hn0).symm⟩;rw [Int.toNat_natCast] at hO ⊢;clear h hn0;have HO:=ga.mk hO;have hn:n ≤ 1048576:=hO.2.1;have hm1:Aa.length ≤ 1048576:=hO.1.2.1;clear hO;have NH:=ga.mk yf;have jN:=ga.mk kf;have fD:=ga.mk (qa (Below.refl w.heap.size w) (.cells #[.slice Ya Qa.length Za,.int .i64 Ja,.int .i64 Ga,.int .i64 (n:Int),.slice Mb Aa.length Cb] 30 (0,0)));have HX0:=ga.mk (xj w (.cells #[.slice Ya Qa.length Za,.int .i64 Ja,.int .i64 Ga,.int .i64 (n:Int),.slice Mb Aa.length Cb] 30 (0,0)));have HZ0:=ga.mk (show (w.alloc (.cells #[.slice Ya Qa.length Za,.int .i64 Ja,.int .i64 Ga,.int .i64 (n:Int),.slice Mb Aa.length Cb] 30 (0,0))).heap.size=w.heap.size + 1 by simp);clear Ud yf Rd kf;go_enter Try.func60,Try.ntmps60
 go_upto_region 1 with (fail)
 generalize w.alloc (.cells #[.slice Ya Qa.length Za,.int .i64 Ja,.int .i64 Ga,.int .i64 (n:Int),.slice Mb Aa.length Cb] 30 (0,0))=w1 at fD HX0 HZ0 ⊢;have Hq:w1.cell? ⟨w.heap.size,3,none⟩=some (.int .i64 (n:Int)):=(ia HX0.out 3).trans rfl;have O8:(0:Int) ≤ (n:Int):=by omega
 have f_:=ga.mk (show ((n:Int)).toNat * 1 ≤ 281474976710656 from by omega)
 go_upto_region 2 with (first|((with_reducible refine Ab (N:=11) rfl ?_);refine Kd.jr Kd.bool (w0:=w1) w1.heap.size 4 rfl (N:=11) rfl 60 _ _ rfl (n:Int) rfl rfl Try.underlying60 (.bool false) 1 Ir rfl (by decide) (by omega) false (ok:=fun k=>True) (Dh:=fun k=>True) rfl (fun _ hk=>hk) trivial O8 f_.out (Below.refl _ _) (Nat.le_refl _) ?_;intro v11 w2 ho hb hg hat;rw [Int.toNat_natCast] at ho;obtain ⟨A,c,Cae⟩:=Kd.od ho;rw [List.length_replicate] at Cae;subst Cae;have HS2:=ga.mk ho;have Ht:=ga.mk hb;clear ho hb hg hat Hq))
 have i_:=ga.mk (show eN w (Ty Ya Qa.length Za Ja Ga n Mb Aa.length Cb) w2.heap.size A n c (List.replicate n false) w2 from
  ⟨Ra fD.out Ht.out,Va HX0.out Ht.out,Kd.Nd (Kd.xd (Kd.ug HS2.out) (fun k hk=>⟨by have:=hk.2.1;have:=HZ0.out;omega,hk.2.2.1⟩)) (by have:=HZ0.out;omega),List.length_replicate,Nat.le_refl _⟩)
 clear fD HX0 HZ0 HS2 Ht;generalize w2.heap.size=N at i_;go_wp2
 go_loopg [4] Aa.length (fun gg v4 wr=>∃ (i:Nat) (s:List Bool),v4 = .int .i64 i∧i ≤ Aa.length∧Aa.length - i ≤ gg∧ga (((Aa.drop i).flatMap uU).foldl Mg s=AZ Aa n)∧ga (eN w (Ty Ya Qa.length Za Ja Ga n Mb Aa.length Cb) N A n c s wr))
 case atStart=>exact ⟨0,_,rfl,Nat.zero_le _,by omega,⟨rfl⟩,i_⟩
 case round =>
  clear i_;(try clear hU);(try clear HI);obtain ⟨i,s,rfl,hi,AV,hU,HI⟩:=hrel;have Gq:wr.cell? ⟨w.heap.size,4,none⟩=some (.slice Mb Aa.length Cb):=(ia HI.out.hx 4).trans rfl
  by_cases hlt:i < Aa.length
  ·have Ns:decide ((i:Int) < (Aa.length:Int))=true:=decide_eq_true (by omega);have i1:0 ≤ (i:Int):=by omega
   have i2:(i:Int) < (Aa.length:Int):=by omega
   obtain ⟨ag,Ac,cc,e1,hc0,xm,My,OC,fK,Kt,EX⟩:=sj NH.out (i:Int) (by omega) (by omega);subst e1;simp only [Int.toNat_natCast] at hc0 xm My OC fK;have mZ:=ga.mk EX;have k7:=ga.mk Kt;replace hc0:=Wb hc0 (Kept.ic HI.out.bw (fun _=>False)) id;replace xm:=Wb xm (Kept.ic HI.out.bw (fun _=>False)) id;replace My:=Wb My (Kept.ic HI.out.bw (fun _=>False)) id;replace OC:=Wb OC (Kept.ic HI.out.bw (fun _=>False)) id;replace fK:=Wb fK (Kept.ic HI.out.bw (fun _=>False)) id;clear EX Kt
   go_upto_region 6 with (fail)
   have qw:=qa (Below.refl wr.heap.size wr) (.cells #[.slice Ac (za Aa (i:Int)).f0.length cc,.int .i64 (za Aa (i:Int)).f1,.int .i64 (za Aa (i:Int)).f2,.int .i64 (za Aa (i:Int)).f3,.int .i64 (za Aa (i:Int)).f4] 59 (0,0));have wz:=xj wr (.cells #[.slice Ac (za Aa (i:Int)).f0.length cc,.int .i64 (za Aa (i:Int)).f1,.int .i64 (za Aa (i:Int)).f2,.int .i64 (za Aa (i:Int)).f3,.int .i64 (za Aa (i:Int)).f4] 59 (0,0));generalize wr.alloc (.cells #[.slice Ac (za Aa (i:Int)).f0.length cc,.int .i64 (za Aa (i:Int)).f1,.int .i64 (za Aa (i:Int)).f2,.int .i64 (za Aa (i:Int)).f3,.int .i64 (za Aa (i:Int)).f4] 59 (0,0))=sr at qw wz ⊢;have cD:=ga.mk (HI.out.below qw);have Wl:=ga.mk wz;have eP:=ga.mk (show N ≤ wr.heap.size from HI.out.z);have kP:=ga.mk (Ms HO.out hlt)
   have S6:=ga.mk (show ((Aa.drop (i + 1)).flatMap uU).foldl Mg ((uU (za Aa (i:Int))).foldl Mg s)=AZ Aa n from by
    have h:=hU.out;rw [List.drop_eq_getElem_cons hlt,List.flatMap_cons,List.foldl_append] at h;rw [Zg hlt]
    exact h)
   have hbl:(za Aa (i:Int)).f0.length ≤ 1048576:=kP.out.1;clear qw wz HI Gq hc0 xm My OC fK i1 i2 Ns hU;generalize wr.heap.size=q7 at Wl eP ⊢;have N8:sr.cell? ⟨q7,1,none⟩=some (.int .i64 (za Aa (i:Int)).f1):=(ia Wl.out 1).trans rfl
   by_cases JL:(za Aa (i:Int)).f1=0
   ·have EK:=ga.mk (show ((za Aa (i:Int)).f0.flatMap tl).foldl Mg s=(uU (za Aa (i:Int))).foldl Mg s from by unfold uU jl;rw [if_pos JL];rfl);rw [JL] at N8;clear JL
    go_upto_region 8 with (fail)
    clear N8;have MD:=cD;have Fz:=Wl;clear cD Wl;generalize uU (za Aa (i:Int))=TB at EK S6;go_wp2
    go_loopg [6] (za Aa (i:Int)).f0.length (fun g6 v6 wr=>∃ (k:Nat) (s1:List Bool),v6 = .int .i64 k∧k ≤ (za Aa (i:Int)).f0.length∧(za Aa (i:Int)).f0.length - k ≤ g6∧ga ((((za Aa (i:Int)).f0.drop k).flatMap tl).foldl Mg s1=TB.foldl Mg s)∧ga (eN w (Ty Ya Qa.length Za Ja Ga n (some ag) Aa.length Cb) N A n c s1 wr)∧ga (wr.heap[q7]? = some (.cells #[.slice Ac (za Aa (i:Int)).f0.length cc,.int .i64 (za Aa (i:Int)).f1,.int .i64 (za Aa (i:Int)).f2,.int .i64 (za Aa (i:Int)).f3,.int .i64 (za Aa (i:Int)).f4] 59 (0,0))))
    case atStart=>exact ⟨0,_,rfl,Nat.zero_le _,by omega,EK,MD,Fz⟩
    case round =>
     clear EK MD Fz;(try clear EK);(try clear HI);(try clear HQ);obtain ⟨k,s1,rfl,hk,hg6,EK,HI,HQ⟩:=hrel;have zy:wr.cell? ⟨q7,0,none⟩=some (.slice Ac (za Aa (i:Int)).f0.length cc):=(ia HQ.out 0).trans rfl
     by_cases ZM:k < (za Aa (i:Int)).f0.length
     ·have tQ:decide ((k:Int) < ((za Aa (i:Int)).f0.length:Int))=true:=decide_eq_true (by omega);have p1:0 ≤ (k:Int):=by omega
      have p2:(k:Int) < ((za Aa (i:Int)).f0.length:Int):=by omega
      obtain ⟨aI,e6,k0,k1,k2,k3,k4,k5,k6⟩:=jm mZ.out (k:Int) (by omega) (by omega);subst e6;simp only [Int.toNat_natCast] at k0 k1 k2 k3 k4 k5 k6;have KK:=ga.mk (Zv kP.out ZM)
      have cP:=ga.mk (show (((za Aa (i:Int)).f0.drop (k + 1)).flatMap tl).foldl Mg ((tl (Ea (za Aa (i:Int)).f0 (k:Int))).foldl Mg s1)=TB.foldl Mg s from by
       have h:=EK.out;rw [List.drop_eq_getElem_cons ZM,List.flatMap_cons,List.foldl_append] at h;rw [sk ZM]
       exact h)
      generalize Ea (za Aa (i:Int)).f0 (k:Int)=x at k0 k1 k2 k3 k4 k5 k6 KK cP;have kZ:=ga.mk (And.intro k0 (And.intro k1 (And.intro k2 (And.intro k3 (And.intro k4 (And.intro k5 k6))))));replace k0:=Wb k0 (Kept.ic HI.out.bw (fun _=>False)) id;replace k1:=Wb k1 (Kept.ic HI.out.bw (fun _=>False)) id;replace k2:=Wb k2 (Kept.ic HI.out.bw (fun _=>False)) id;replace k3:=Wb k3 (Kept.ic HI.out.bw (fun _=>False)) id;replace k4:=Wb k4 (Kept.ic HI.out.bw (fun _=>False)) id;replace k5:=Wb k5 (Kept.ic HI.out.bw (fun _=>False)) id;replace k6:=Wb k6 (Kept.ic HI.out.bw (fun _=>False)) id;obtain ⟨ku,hku⟩:=Ev.rounds (oK x);have HKU:=ga.mk hku;obtain ⟨wk,rfl⟩:∃ wk,wk=wr:=⟨_,rfl⟩;clear hku EK
      go_upto_region 12 with (first|(go_at_call 74;(with_reducible refine (Ge.calls ku x.f0 x.f1 x.f2 x.f3 x.f4 x.f5 x.f6 (Hg x) wk HKU.out).mono ?_);rintro e zm ⟨v15,rfl,ho,hb⟩;obtain ⟨Au,cu,rfl⟩:=Kd.od ho;have ZY:=ga.mk ho;have qo:=ga.mk hb;clear ho hb zy k0 k1 k2 k3 k4 k5 k6))
      have PM:=ga.mk (HI.out.below qo.out);have OB:=ga.mk (Va HQ.out qo.out);have HUR:=ga.mk (show ∀ W,Kept zm W (fun k=>w.heap.size < k∧k < N)→Kd.C (Kd.int .i64) W Au (Hg x).length (Hg x) from fun W hk=>(Kd.Rb (Kd.Fp (Kd.xd (Kd.ug ZY.out) (fun k hk=>hk.2.1):Kd.R (Kd.int .i64) _ zm _ (fun k=>wk.heap.size ≤ k) _ _) hk (fun k hk e=>by have:=HI.out.z;omega))).2.2);have DZ:(Hg x).length ≤ 1048576:=by have:=Xs x;omega
      have HUO:=ga.mk (show ∀ u ∈ Hg x,0 ≤ u∧u < (n:Int) from KK.out.1);obtain ⟨Vy,y8⟩:=wO KK.out;have OZ:=ga.mk Vy;have HDX:=ga.mk y8;have HMD:=ga.mk (fun h=>mH KK.out h);have HTL:=ga.mk (show (tl x).foldl Mg s1=(if Am x ≥ 0 then [Am x] else []).foldl Mg ((Hg x).foldl Mg s1) from by unfold tl;rw [List.foldl_append]);clear HI HQ qo ZY Vy y8 p1 p2 tQ;generalize Hg x=us at HUR DZ HUO HTL ⊢;go_wp2
      go_loopg [8] us.length (fun g8 v8 wr=>∃ (j:Nat) (s2:List Bool),v8 = .int .i64 j∧j ≤ us.length∧us.length - j ≤ g8∧ga ((us.drop j).foldl Mg s2=us.foldl Mg s1)∧ga (eN w (Ty Ya Qa.length Za Ja Ga n (some ag) Aa.length Cb) N A n c s2 wr)∧ga (wr.heap[q7]? = some (.cells #[.slice (some aI) (za Aa (i:Int)).f0.length cc,.int .i64 (za Aa (i:Int)).f1,.int .i64 (za Aa (i:Int)).f2,.int .i64 (za Aa (i:Int)).f3,.int .i64 (za Aa (i:Int)).f4] 59 (0,0)))∧ga (Kept zm wr (fun k=>w.heap.size < k∧k < N)))
      case atStart=>exact ⟨0,s1,rfl,Nat.zero_le _,by omega,⟨rfl⟩,PM,OB,⟨Kept.refl _ _⟩⟩
      case round =>
       clear PM OB;(try clear Q6);(try clear HI);(try clear HQ);(try clear HK);obtain ⟨j,s2,rfl,hj,hg8,Q6,HI,HQ,HK⟩:=hrel
       by_cases hjl:j < us.length
       ·have hjb:decide ((j:Int) < (us.length:Int))=true:=decide_eq_true (by omega);have j1:0 ≤ (j:Int):=by omega
        have j2:(j:Int) < (us.length:Int):=by omega
        obtain ⟨ad,e1,xm⟩:=lI (HUR.out wr HK.out) hjl;subst e1;obtain ⟨g,z,eA,ez,hzn,Ly,hfz,hput,hkp⟩:=HI.out.put (HUO.out _ (List.getElem_mem hjl));subst eA;rw [ez] at xm;have z1:0 ≤ (z:Int):=by omega
        have z2:(z:Int) < (n:Int):=by omega
        have wac:=ga.mk (show (us.drop (j + 1)).foldl Mg (Mg s2 us[j])=us.foldl Mg s1 from by
         have h:=Q6.out;rw [List.drop_eq_getElem_cons hjl,List.foldl_cons] at h
         exact h)
        have gad:=ga.mk hput;have Iac:=ga.mk (Ve HQ.out hkp (fun e=>by have:=eP.out;omega));have dad:=ga.mk (HK.out.Wo hkp (fun _ h=>Or.inl h));clear hput hkp ez;go_wp2
        go_roundg (us.length - (j + 1))
        case measure=>omega
        case rel=>exact ⟨j + 1,_,by go_num,by omega,by omega,wac,gad,Iac,dad⟩
       ·have hjb:decide ((j:Int) < (us.length:Int))=false:=decide_eq_false (by omega);have hue:=Q6.out;rw [List.drop_eq_nil_of_le (by omega),List.foldl_nil] at hue;obtain ⟨NV,rfl⟩:∃ NV,NV=wr:=⟨_,rfl⟩;have R6:=HTL.out;rw [← hue] at R6;have DK:=ga.mk R6;clear R6 HTL hue Q6;have zy:NV.cell? ⟨q7,0,none⟩=some (.slice (some aI) (za Aa (i:Int)).f0.length cc):=(ia HQ.out 0).trans rfl;obtain ⟨k0,k1,k2,k3,k4,k5,k6⟩:=kZ.out;replace k0:=Wb k0 (Kept.ic HI.out.bw (fun _=>False)) id;replace k1:=Wb k1 (Kept.ic HI.out.bw (fun _=>False)) id;replace k2:=Wb k2 (Kept.ic HI.out.bw (fun _=>False)) id;replace k3:=Wb k3 (Kept.ic HI.out.bw (fun _=>False)) id;replace k4:=Wb k4 (Kept.ic HI.out.bw (fun _=>False)) id;replace k5:=Wb k5 (Kept.ic HI.out.bw (fun _=>False)) id;replace k6:=Wb k6 (Kept.ic HI.out.bw (fun _=>False)) id;have p1:0 ≤ (k:Int):=by omega
        have p2:(k:Int) < ((za Aa (i:Int)).f0.length:Int):=by omega
        by_cases hm:Am x ≥ 0
        ·obtain ⟨D,hD⟩:∃ D:Nat,Am x=(D:Int):=⟨(Am x).toNat,(Int.toNat_of_nonneg hm).symm⟩;have hDn:D < n:=by have:=HMD.out hm;omega
         have Vy:=OZ.out;rw [decide_eq_true hm] at Vy;have uG:=ga.mk Vy;have HF1:=ga.mk (show x.f1=(D:Int) from (HDX.out hm).trans hD);have ZO:=DK.out;rw [if_pos hm,hD] at ZO;have YO:=ga.mk ZO;clear ZO DK Vy hm hD
         go_upto_region 17 with (first|(go_at_call 73;(with_reducible refine (Eg.calls x.f0 x.f1 x.f2 x.f3 x.f4 x.f5 x.f6 true NV uG.out).mono ?_);rintro e zo ⟨rfl,hb⟩;have RB:=ga.mk hb;clear hb zy k0 k1 k2 k3 k4 k5 k6))
         have sG:=ga.mk (HI.out.below RB.out);have GK:=ga.mk (Va HQ.out RB.out);obtain ⟨g,z,eA,ez,hzn,Ly,hfz,hput,hkp⟩:=sG.out.put (u:=(D:Int)) ⟨by omega,by omega⟩;subst eA;obtain rfl:D=z:=by omega
         have zy:zo.cell? ⟨q7,0,none⟩=some (.slice (some aI) (za Aa (i:Int)).f0.length cc):=(ia GK.out 0).trans rfl;obtain ⟨-,k1,-⟩:=kZ.out;replace k1:=Wb k1 (Kept.ic sG.out.bw (fun _=>False)) id;rw [HF1.out] at k1;have z1:0 ≤ (D:Int):=by omega
         have z2:(D:Int) < (n:Int):=by omega
         have Rv:=ga.mk (show eN w (Ty Ya Qa.length Za Ja Ga n (some ag) Aa.length Cb) N (some ⟨g,0,none⟩) n c ((tl x).foldl Mg s1) _ from by rw [YO.out];exact hput);have fP:=ga.mk (Ve GK.out hkp (fun e=>by have:=eP.out;omega));clear hput hkp ez HI HQ sG GK;go_wp2
         go_roundg ((za Aa (i:Int)).f0.length - (k + 1))
         case measure=>omega
         case rel=>exact ⟨k + 1,_,by go_num,by omega,by omega,cP,Rv,fP⟩
        ·have Vy:=OZ.out;rw [decide_eq_false hm] at Vy;have uG:=ga.mk Vy;have ZO:=DK.out;rw [if_neg hm,List.foldl_nil] at ZO;have YO:=ga.mk ZO;clear ZO DK Vy hm;go_wp2_with (first|(go_at_call 73;(with_reducible refine (Eg.calls x.f0 x.f1 x.f2 x.f3 x.f4 x.f5 x.f6 false NV uG.out).mono ?_);rintro e zo ⟨rfl,hb⟩;have RB:=ga.mk hb;clear hb zy k0 k1 k2 k3 k4 k5 k6));have Rv:=ga.mk (show eN w (Ty Ya Qa.length Za Ja Ga n (some ag) Aa.length Cb) N A n c ((tl x).foldl Mg s1) _ from by rw [YO.out];exact HI.out.below RB.out);have fP:=ga.mk (Va HQ.out RB.out)
         go_roundg ((za Aa (i:Int)).f0.length - (k + 1))
         case measure=>omega
         case rel=>exact ⟨k + 1,_,by go_num,by omega,by omega,cP,Rv,fP⟩
     ·have tQ:decide ((k:Int) < ((za Aa (i:Int)).f0.length:Int))=false:=decide_eq_false (by omega);have htb:=EK.out;rw [List.drop_eq_nil_of_le (by omega),List.flatMap_nil,List.foldl_nil] at htb;have bP:=S6.out;rw [← htb] at bP;have yac:=ga.mk bP;clear bP htb;go_wp2
      go_roundg (Aa.length - (i + 1))
      case measure=>omega
      case rel=>exact ⟨i + 1,s1,by go_num,by omega,by omega,yac,HI⟩
   ·have hu:=kP.out.2.1 JL;obtain ⟨gA,z,eA,ez,hzn,Ly,hfz,hput,hkp⟩:=cD.out.put hu;subst eA;have h72:sr.cell? ⟨q7,2,none⟩=some (.int .i64 (z:Int)):=by rw [← ez];exact (ia Wl.out 2).trans rfl
    have EK:=ga.mk (show ((za Aa (i:Int)).f0.flatMap tl).foldl Mg (Mg s (za Aa (i:Int)).f2)=(uU (za Aa (i:Int))).foldl Mg s from by unfold uU jl;rw [if_neg JL,List.foldl_append];rfl);have hfb:(((za Aa (i:Int)).f1:Int) != 0)=true:=by simpa using JL
    have hfd:¬ ((za Aa (i:Int)).f1=0):=JL;have z1:0 ≤ (z:Int):=by omega
    have z2:(z:Int) < (n:Int):=by omega
    have MD:=ga.mk hput;have Fz:=ga.mk (Ve Wl.out hkp (fun e=>by have:=eP.out;omega));clear hput hkp ez hu cD Wl
    go_upto_region 8 with (fail)
    clear N8 h72 Ly hfz hfb hfd z1 z2;generalize sr.setCell ⟨gA,z,none⟩ (.bool true)=dz at MD Fz ⊢;obtain ⟨s0,hs0⟩:∃ s0,s0=s:=⟨_,rfl⟩;rw [← hs0] at EK S6 MD;generalize Mg s0 (za Aa (i:Int)).f2=s9 at EK MD;generalize uU (za Aa (i:Int))=TB at EK S6;go_wp2
    go_loopg [6] (za Aa (i:Int)).f0.length (fun g6 v6 wr=>∃ (k:Nat) (s1:List Bool),v6 = .int .i64 k∧k ≤ (za Aa (i:Int)).f0.length∧(za Aa (i:Int)).f0.length - k ≤ g6∧ga ((((za Aa (i:Int)).f0.drop k).flatMap tl).foldl Mg s1=TB.foldl Mg s0)∧ga (eN w (Ty Ya Qa.length Za Ja Ga n (some ag) Aa.length Cb) N (some ⟨gA,0,none⟩) n c s1 wr)∧ga (wr.heap[q7]? = some (.cells #[.slice Ac (za Aa (i:Int)).f0.length cc,.int .i64 (za Aa (i:Int)).f1,.int .i64 (za Aa (i:Int)).f2,.int .i64 (za Aa (i:Int)).f3,.int .i64 (za Aa (i:Int)).f4] 59 (0,0))))
    case atStart=>exact ⟨0,_,rfl,Nat.zero_le _,by omega,EK,MD,Fz⟩
    case round =>
     clear EK MD Fz;(try clear EK);(try clear HI);(try clear HQ);obtain ⟨k,s1,rfl,hk,hg6,EK,HI,HQ⟩:=hrel;have zy:wr.cell? ⟨q7,0,none⟩=some (.slice Ac (za Aa (i:Int)).f0.length cc):=(ia HQ.out 0).trans rfl
     by_cases ZM:k < (za Aa (i:Int)).f0.length
     ·have tQ:decide ((k:Int) < ((za Aa (i:Int)).f0.length:Int))=true:=decide_eq_true (by omega);have p1:0 ≤ (k:Int):=by omega
      have p2:(k:Int) < ((za Aa (i:Int)).f0.length:Int):=by omega
      obtain ⟨aI,e6,k0,k1,k2,k3,k4,k5,k6⟩:=jm mZ.out (k:Int) (by omega) (by omega);subst e6;simp only [Int.toNat_natCast] at k0 k1 k2 k3 k4 k5 k6;have KK:=ga.mk (Zv kP.out ZM)
      have cP:=ga.mk (show (((za Aa (i:Int)).f0.drop (k + 1)).flatMap tl).foldl Mg ((tl (Ea (za Aa (i:Int)).f0 (k:Int))).foldl Mg s1)=TB.foldl Mg s0 from by
       have h:=EK.out;rw [List.drop_eq_getElem_cons ZM,List.flatMap_cons,List.foldl_append] at h;rw [sk ZM]
       exact h)
      generalize Ea (za Aa (i:Int)).f0 (k:Int)=x at k0 k1 k2 k3 k4 k5 k6 KK cP;have kZ:=ga.mk (And.intro k0 (And.intro k1 (And.intro k2 (And.intro k3 (And.intro k4 (And.intro k5 k6))))));replace k0:=Wb k0 (Kept.ic HI.out.bw (fun _=>False)) id;replace k1:=Wb k1 (Kept.ic HI.out.bw (fun _=>False)) id;replace k2:=Wb k2 (Kept.ic HI.out.bw (fun _=>False)) id;replace k3:=Wb k3 (Kept.ic HI.out.bw (fun _=>False)) id;replace k4:=Wb k4 (Kept.ic HI.out.bw (fun _=>False)) id;replace k5:=Wb k5 (Kept.ic HI.out.bw (fun _=>False)) id;replace k6:=Wb k6 (Kept.ic HI.out.bw (fun _=>False)) id;obtain ⟨ku,hku⟩:=Ev.rounds (oK x);have HKU:=ga.mk hku;obtain ⟨wk,rfl⟩:∃ wk,wk=wr:=⟨_,rfl⟩;clear hku EK
      go_upto_region 12 with (first|(go_at_call 74;(with_reducible refine (Ge.calls ku x.f0 x.f1 x.f2 x.f3 x.f4 x.f5 x.f6 (Hg x) wk HKU.out).mono ?_);rintro e zm ⟨v15,rfl,ho,hb⟩;obtain ⟨Au,cu,rfl⟩:=Kd.od ho;have ZY:=ga.mk ho;have qo:=ga.mk hb;clear ho hb zy k0 k1 k2 k3 k4 k5 k6))
      have PM:=ga.mk (HI.out.below qo.out);have OB:=ga.mk (Va HQ.out qo.out);have HUR:=ga.mk (show ∀ W,Kept zm W (fun k=>w.heap.size < k∧k < N)→Kd.C (Kd.int .i64) W Au (Hg x).length (Hg x) from fun W hk=>(Kd.Rb (Kd.Fp (Kd.xd (Kd.ug ZY.out) (fun k hk=>hk.2.1):Kd.R (Kd.int .i64) _ zm _ (fun k=>wk.heap.size ≤ k) _ _) hk (fun k hk e=>by have:=HI.out.z;omega))).2.2);have DZ:(Hg x).length ≤ 1048576:=by have:=Xs x;omega
      have HUO:=ga.mk (show ∀ u ∈ Hg x,0 ≤ u∧u < (n:Int) from KK.out.1);obtain ⟨Vy,y8⟩:=wO KK.out;have OZ:=ga.mk Vy;have HDX:=ga.mk y8;have HMD:=ga.mk (fun h=>mH KK.out h);have HTL:=ga.mk (show (tl x).foldl Mg s1=(if Am x ≥ 0 then [Am x] else []).foldl Mg ((Hg x).foldl Mg s1) from by unfold tl;rw [List.foldl_append]);clear HI HQ qo ZY Vy y8 p1 p2 tQ;generalize Hg x=us at HUR DZ HUO HTL ⊢;go_wp2
      go_loopg [8] us.length (fun g8 v8 wr=>∃ (j:Nat) (s2:List Bool),v8 = .int .i64 j∧j ≤ us.length∧us.length - j ≤ g8∧ga ((us.drop j).foldl Mg s2=us.foldl Mg s1)∧ga (eN w (Ty Ya Qa.length Za Ja Ga n (some ag) Aa.length Cb) N (some ⟨gA,0,none⟩) n c s2 wr)∧ga (wr.heap[q7]? = some (.cells #[.slice (some aI) (za Aa (i:Int)).f0.length cc,.int .i64 (za Aa (i:Int)).f1,.int .i64 (za Aa (i:Int)).f2,.int .i64 (za Aa (i:Int)).f3,.int .i64 (za Aa (i:Int)).f4] 59 (0,0)))∧ga (Kept zm wr (fun k=>w.heap.size < k∧k < N)))
      case atStart=>exact ⟨0,s1,rfl,Nat.zero_le _,by omega,⟨rfl⟩,PM,OB,⟨Kept.refl _ _⟩⟩
      case round =>
       clear PM OB;(try clear Q6);(try clear HI);(try clear HQ);(try clear HK);obtain ⟨j,s2,rfl,hj,hg8,Q6,HI,HQ,HK⟩:=hrel
       by_cases hjl:j < us.length
       ·have hjb:decide ((j:Int) < (us.length:Int))=true:=decide_eq_true (by omega);have j1:0 ≤ (j:Int):=by omega
        have j2:(j:Int) < (us.length:Int):=by omega
        obtain ⟨ad,e1,xm⟩:=lI (HUR.out wr HK.out) hjl;subst e1;obtain ⟨g,z,eA,ez,hzn,Ly,hfz,hput,hkp⟩:=HI.out.put (HUO.out _ (List.getElem_mem hjl));obtain rfl:gA=g:=by injection eA with eA;injection eA
        rw [ez] at xm;have z1:0 ≤ (z:Int):=by omega
        have z2:(z:Int) < (n:Int):=by omega
        have wac:=ga.mk (show (us.drop (j + 1)).foldl Mg (Mg s2 us[j])=us.foldl Mg s1 from by
         have h:=Q6.out;rw [List.drop_eq_getElem_cons hjl,List.foldl_cons] at h
         exact h)
        have gad:=ga.mk hput;have Iac:=ga.mk (Ve HQ.out hkp (fun e=>by have:=eP.out;omega));have dad:=ga.mk (HK.out.Wo hkp (fun _ h=>Or.inl h));clear hput hkp ez;go_wp2
        go_roundg (us.length - (j + 1))
        case measure=>omega
        case rel=>exact ⟨j + 1,_,by go_num,by omega,by omega,wac,gad,Iac,dad⟩
       ·have hjb:decide ((j:Int) < (us.length:Int))=false:=decide_eq_false (by omega);have hue:=Q6.out;rw [List.drop_eq_nil_of_le (by omega),List.foldl_nil] at hue;obtain ⟨NV,rfl⟩:∃ NV,NV=wr:=⟨_,rfl⟩;have R6:=HTL.out;rw [← hue] at R6;have DK:=ga.mk R6;clear R6 HTL hue Q6;have zy:NV.cell? ⟨q7,0,none⟩=some (.slice (some aI) (za Aa (i:Int)).f0.length cc):=(ia HQ.out 0).trans rfl;obtain ⟨k0,k1,k2,k3,k4,k5,k6⟩:=kZ.out;replace k0:=Wb k0 (Kept.ic HI.out.bw (fun _=>False)) id;replace k1:=Wb k1 (Kept.ic HI.out.bw (fun _=>False)) id;replace k2:=Wb k2 (Kept.ic HI.out.bw (fun _=>False)) id;replace k3:=Wb k3 (Kept.ic HI.out.bw (fun _=>False)) id;replace k4:=Wb k4 (Kept.ic HI.out.bw (fun _=>False)) id;replace k5:=Wb k5 (Kept.ic HI.out.bw (fun _=>False)) id;replace k6:=Wb k6 (Kept.ic HI.out.bw (fun _=>False)) id;have p1:0 ≤ (k:Int):=by omega
        have p2:(k:Int) < ((za Aa (i:Int)).f0.length:Int):=by omega
        by_cases hm:Am x ≥ 0
        ·obtain ⟨D,hD⟩:∃ D:Nat,Am x=(D:Int):=⟨(Am x).toNat,(Int.toNat_of_nonneg hm).symm⟩;have hDn:D < n:=by have:=HMD.out hm;omega
         have Vy:=OZ.out;rw [decide_eq_true hm] at Vy;have uG:=ga.mk Vy;have HF1:=ga.mk (show x.f1=(D:Int) from (HDX.out hm).trans hD);have ZO:=DK.out;rw [if_pos hm,hD] at ZO;have YO:=ga.mk ZO;clear ZO DK Vy hm hD
         go_upto_region 17 with (first|(go_at_call 73;(with_reducible refine (Eg.calls x.f0 x.f1 x.f2 x.f3 x.f4 x.f5 x.f6 true NV uG.out).mono ?_);rintro e zo ⟨rfl,hb⟩;have RB:=ga.mk hb;clear hb zy k0 k1 k2 k3 k4 k5 k6))
         have sG:=ga.mk (HI.out.below RB.out);have GK:=ga.mk (Va HQ.out RB.out);obtain ⟨g,z,eA,ez,hzn,Ly,hfz,hput,hkp⟩:=sG.out.put (u:=(D:Int)) ⟨by omega,by omega⟩;obtain rfl:gA=g:=by injection eA with eA;injection eA
         obtain rfl:D=z:=by omega
         have zy:zo.cell? ⟨q7,0,none⟩=some (.slice (some aI) (za Aa (i:Int)).f0.length cc):=(ia GK.out 0).trans rfl;obtain ⟨-,k1,-⟩:=kZ.out;replace k1:=Wb k1 (Kept.ic sG.out.bw (fun _=>False)) id;rw [HF1.out] at k1;have z1:0 ≤ (D:Int):=by omega
         have z2:(D:Int) < (n:Int):=by omega
         have Rv:=ga.mk (show eN w (Ty Ya Qa.length Za Ja Ga n (some ag) Aa.length Cb) N (some ⟨gA,0,none⟩) n c ((tl x).foldl Mg s1) _ from by rw [YO.out];exact hput);have fP:=ga.mk (Ve GK.out hkp (fun e=>by have:=eP.out;omega));clear hput hkp ez HI HQ sG GK;go_wp2
         go_roundg ((za Aa (i:Int)).f0.length - (k + 1))
         case measure=>omega
         case rel=>exact ⟨k + 1,_,by go_num,by omega,by omega,cP,Rv,fP⟩
        ·have Vy:=OZ.out;rw [decide_eq_false hm] at Vy;have uG:=ga.mk Vy;have ZO:=DK.out;rw [if_neg hm,List.foldl_nil] at ZO;have YO:=ga.mk ZO;clear ZO DK Vy hm;go_wp2_with (first|(go_at_call 73;(with_reducible refine (Eg.calls x.f0 x.f1 x.f2 x.f3 x.f4 x.f5 x.f6 false NV uG.out).mono ?_);rintro e zo ⟨rfl,hb⟩;have RB:=ga.mk hb;clear hb zy k0 k1 k2 k3 k4 k5 k6));have Rv:=ga.mk (show eN w (Ty Ya Qa.length Za Ja Ga n (some ag) Aa.length Cb) N (some ⟨gA,0,none⟩) n c ((tl x).foldl Mg s1) _ from by rw [YO.out];exact HI.out.below RB.out);have fP:=ga.mk (Va HQ.out RB.out)
         go_roundg ((za Aa (i:Int)).f0.length - (k + 1))
         case measure=>omega
         case rel=>exact ⟨k + 1,_,by go_num,by omega,by omega,cP,Rv,fP⟩
     ·have tQ:decide ((k:Int) < ((za Aa (i:Int)).f0.length:Int))=false:=decide_eq_false (by omega);have htb:=EK.out;rw [List.drop_eq_nil_of_le (by omega),List.flatMap_nil,List.foldl_nil] at htb;have bP:=S6.out;rw [← htb] at bP;have yac:=ga.mk bP;clear bP htb;go_wp2
      go_roundg (Aa.length - (i + 1))
      case measure=>omega
      case rel=>exact ⟨i + 1,s1,by go_num,by omega,by omega,yac,HI⟩
  ·have Ns:decide ((i:Int) < (Aa.length:Int))=false:=decide_eq_false (by omega);have heq:=hU.out;rw [List.drop_eq_nil_of_le (by omega),List.flatMap_nil,List.foldl_nil] at heq;subst heq;go_wp2;go_ret;exact ⟨_,rfl,Kd.xd HI.out.r (fun _ _=>trivial),HI.out.bw⟩
end Go.Proofs.Ytkigbdceceeenaa.P
end
section
namespace Go.Proofs.Ytkigbdceceeenaa.P
open Go.RowKit Go.Proofs.Ma.Tb Go.Proofs.Ma.Gd Go.Proofs.Ma.De
set_option linter.unusedVariables false
set_option linter.unusedSimpArgs false
attribute [local go_sem] Rh si wj Nj qh oh zi ri
mutual
noncomputable def qc.j0:Nat→Int→List Int→Bool→List Int→Int→Int→Int→List (Je)→Option (List Int)
 | 0,_,_,_,_,_,_,_,_=>none
 | k + 1,x1,x5,x18,yc,Qc,Gc,Dc,Yb=>if x18=true then (some x5) else ((ai.f yc Qc Gc Dc Yb).bind fun t107=>((xh.f yc Qc Gc Dc Yb).bind fun t110=>(qc.l0 k x1 x5 t107 t110 0 yc Qc Gc Dc Yb)))
noncomputable def qc.l0:Nat→Int→List Int→List (List Bool)→List Bool→Int→List Int→Int→Int→Int→List (Je)→Option (List Int)
 | 0,_,_,_,_,_,_,_,_,_,_=>none
 | k + 1,x1,x5,x6,x7,x8,yc,Qc,Gc,Dc,Yb=>if x8 < Dc then (if 0 ≤ x8 then (if x8 < (x7.length:Int) then (if Vf false x7 x8=true then (if x8 < (x6.length:Int) then ((mc.f k (yd x6 x8) x5 x1).bind fun t115=>(if x5.length < 17592186044416 then (qc.l0 k x1 (x5 ++ [t115]) x6 x7 (wrap64 (x8 + 1)) yc Qc Gc Dc Yb) else (none))) else (none)) else (if x5.length < 17592186044416 then (qc.l0 k x1 (x5 ++ [(-1)]) x6 x7 (wrap64 (x8 + 1)) yc Qc Gc Dc Yb) else (none))) else (none)) else (none)) else (some x5)
end
noncomputable def qc.f (k:Nat) (Qa:List Int) (Ja:Int) (Ga:Int) (Ia:Int) (Aa:List (Je)) (a1:Int):Option (List Int):=(some (([]:List Int):List Int)).bind fun ud=>((mb.f k Qa Ja Ga Ia Aa).bind fun t105=>(if t105=true then ((qb.f a1 0 12).bind fun t106=>(qc.j0 k a1 ud (!t106) Qa Ja Ga Ia Aa)) else (qc.j0 k a1 ud true Qa Ja Ga Ia Aa)))
theorem qc.calls (k:Nat) (Ya:Option Addr) (Za:Nat) (Qa:List Int) (Ja:Int) (Ga:Int) (Ia:Int) (Mb:Option Addr) (Cb:Nat) (Aa:List (Je)) (a1:Int) (r:List Int) (w:World) (Ud:Kd.C (Kd.int .i64) w Ya Qa.length Qa) (Rd:Qa.length ≤ Za) (yf:Kd.C Fq w Mb Aa.length Aa) (kf:Aa.length ≤ Cb) (h:qc.f k Qa Ja Ga Ia Aa a1=some r) :
  Calls Try.prog 29 #[.agg #[.slice Ya Qa.length Za,.int .i64 Ja,.int .i64 Ga,.int .i64 Ia,.slice Mb Aa.length Cb],.int .i64 a1] w fun e w'=>∃ Nl:Value,e = .returned (Nl)∧Kd.R (Kd.int .i64) 3 w' w.heap.size (fun _=>True) Nl r∧Below w.heap.size w w':=by
 have GF:=Try.underlying30;have Ze:=ga.mk Ud;have Af:=ga.mk Rd;clear Ud Rd;have xg:=ga.mk yf;have ki:=ga.mk kf;clear yf kf;have HB:=ga.mk (Below.refl w.heap.size w);have H:((some (([]:List Int):List Int)).bind fun ud=>((mb.f k Qa Ja Ga Ia Aa).bind fun t105=>(if t105=true then ((qb.f a1 0 12).bind fun t106=>(qc.j0 k a1 ud (!t106) Qa Ja Ga Ia Aa)) else (qc.j0 k a1 ud true Qa Ja Ga Ia Aa))))=some r:=h;clear h;obtain ⟨ud,jf⟩:∃ y_:List Int,y_=(([]:List Int)):=⟨_,rfl⟩;replace H:((mb.f k Qa Ja Ga Ia Aa).bind fun t105=>(if t105=true then ((qb.f a1 0 12).bind fun t106=>(qc.j0 k a1 ud (!t106) Qa Ja Ga Ia Aa)) else (qc.j0 k a1 ud true Qa Ja Ga Ia Aa)))=some r:=by first|(rw [jf];with_reducible exact H)|(have Ed:=(Option.bind_some _ _).symm.trans H;rw [jf];with_reducible exact Ed)|(have Ed:=(Option.bind_some _ _).symm.trans H;with_reducible exact Ed)|with_reducible exact H|(rw [jf];exact H)|exact H
 have ei:=ga.mk jf;clear jf;have uV:=ga.mk H;clear H;go_enter Try.func29,Try.ntmps29
 go_upto_region 2 with (first|((with_reducible refine Ab (N:=2) rfl ?_);refine Lb ?hg (N:=2) ?hd (cs:=#[.slice Ya Qa.length Za,.int .i64 Ja,.int .i64 Ga,.int .i64 Ia,.slice Mb Aa.length Cb]) (t:=30) ?hr ?_;(case hd=>rfl);(case hg=>rfl);(case hr=>first|(go_simp;done)|(go_simp;rfl));intro ya hg w4 Sb hb;have Eb:=ga.mk (Ra uaH hb);have Fb:=ga.mk (Sb);have Ob:=ga.mk ((by rw [hg];exact (La uaH):w.heap.size ≤ ya));have Ec:=ga.mk ((by rw [hg];exact (La uaH):w.heap.size ≤ ya));clear HB;have HB:=Eb;have oa:=Fb;have Vd:=Ob;have Ta:=Ec;clear Eb Fb Ob Ec hb Sb hg)|((with_reducible refine Ab (N:=10) rfl ?_);refine Kd.Hj (Kd.int .i64) _ 3 ?hg (N:=10) ?hd (xs:=([]:List Int)) (inner:=[]) (ok:=fun _=>True) (Dh:=fun _=>True) ?hr ?hp (fun _ hk=>hk) trivial (Below.refl _ _) (Nat.le_refl _) (by simp) ?_;(case hd=>rfl);(case hg=>rfl);(case hr=>first|(go_simp;done)|(go_simp;rfl));(case hp=>exact (Pd.none _ _));intro wm w5 NA hb gm Pe;clear gm Pe;(first|rw [← ei.out] at NA|(simp only [Int.reduceToNat] at NA;rw [← ei.out] at NA));have Eb:=ga.mk (Kd.Nd NA (La taH));have Fb:=ga.mk (Va (g:=ya) (o:=.cells #[.slice Ya Qa.length Za,.int .i64 Ja,.int .i64 Ga,.int .i64 Ia,.slice Mb Aa.length Cb] 30 (0,0)) vaH hb);have Ob:=ga.mk (Ra taH hb);clear oa HB;have Sg:=Eb;have oa:=Fb;have HB:=Ob;clear Eb Fb Ob hb NA))
 (try simp only [Act.put,List.setIfInBounds_toArray,List.set_cons_zero,List.set_cons_succ])
 go_cut [18] (fun v18 wc=>∃ (kq:Nat) (sP:Bool),v18 = .bool sP∧ga (qc.j0 kq a1 ud sP Qa Ja Ga Ia Aa=some r)∧ga (kq ≤ k)∧ga (Kd.R (Kd.int .i64) 3 wc w.heap.size (fun _=>True) wm ud)∧ga (wc.heap[ya]? = some (.cells #[(.slice Ya Qa.length Za),.int .i64 Ja,.int .i64 Ga,.int .i64 Ia,(.slice Mb Aa.length Cb)] 30 (0,0)))∧ga (Below w.heap.size w wc))
 case first =>
  have H:=uV.out;clear uV;replace H:=Option.bind_eq_some_iff.mp H;obtain ⟨t105,PK,H⟩:=H;replace H:(if t105=true then ((qb.f a1 0 12).bind fun t106=>(qc.j0 k a1 ud (!t106) Qa Ja Ga Ia Aa)) else (qc.j0 k a1 ud true Qa Ja Ga Ia Aa))=some r:=H;have A7:=ga.mk PK;clear PK
  by_cases c8:t105=true
  ·subst c8;have H1:((qb.f a1 0 12).bind fun t106=>(qc.j0 k a1 ud (!t106) Qa Ja Ga Ia Aa))=some r:=by rw [if_pos rfl] at H;exact H
   clear H;have H:=H1;clear H1;replace H:=Option.bind_eq_some_iff.mp H;obtain ⟨t106,A90,H⟩:=H;replace H:(qc.j0 k a1 ud (!t106) Qa Ja Ga Ia Aa)=some r:=H;have A9:=ga.mk A90;clear A90;have H':=ga.mk H;clear H;have Nh:w5.cell? ⟨ya,0,none⟩=some (.slice Ya Qa.length Za):=(ia oa.out 0).trans rfl;have Mh:w5.cell? ⟨ya,1,none⟩=some (.int .i64 Ja):=(ia oa.out 1).trans rfl;have Lh:w5.cell? ⟨ya,2,none⟩=some (.int .i64 Ga):=(ia oa.out 2).trans rfl;have Kh:w5.cell? ⟨ya,3,none⟩=some (.int .i64 Ia):=(ia oa.out 3).trans rfl;have Jh:w5.cell? ⟨ya,4,none⟩=some (.slice Mb Aa.length Cb):=(ia oa.out 4).trans rfl;have Ih:=aa oa.out 0;have Hh:=aa oa.out 1;have Gh:=aa oa.out 2;have Fh:=aa oa.out 3;have Eh:=aa oa.out 4;go_wp2_with (first|((with_reducible refine yb (f:=40) rfl ?_);refine Pc (some 12) rfl rfl Try.func40 (by kernel_rfl) rfl #[.agg #[.slice Ya Qa.length Za,.int .i64 Ja,.int .i64 Ga,.int .i64 Ia,.slice Mb Aa.length Cb]] rfl waH ?_;(with_reducible refine (mb.calls k _ _ Qa Ja Ga Ia _ _ Aa true _ ?Uc ?Tc ?we ?ue A7.out).mono ?_);(case Uc=>repeat (first|exact (Kd.Nb Ze.out HB.out)|(with_reducible refine Kd.dc ?_ _)|(with_reducible refine Kd.Zb ?_ _)|(with_reducible refine Kd.Fc ?_)));(case Tc=>exact Af.out);(case we=>repeat (first|exact (Kd.Nb xg.out HB.out)|(with_reducible refine Kd.dc ?_ _)|(with_reducible refine Kd.Zb ?_ _)|(with_reducible refine Kd.Fc ?_)));(case ue=>exact ki.out);rintro e ck ⟨rfl,hb⟩;refine ⟨_,rfl,?_⟩;have Eb:=ga.mk (Kd.ld faI hb);have Fb:=ga.mk (Va (g:=ya) (o:=.cells #[.slice Ya Qa.length Za,.int .i64 Ja,.int .i64 Ga,.int .i64 Ia,.slice Mb Aa.length Cb] 30 (0,0)) vaH hb);have Ob:=ga.mk (Ra taH hb);clear Sg oa HB;have Sg:=Eb;have oa:=Fb;have HB:=Ob;clear Eb Fb Ob;(try clear hb);(try clear Uj);(try clear hk);(try clear hi))|(go_at_call 53;(with_reducible refine (qb.calls a1 0 12 t106 _ A9.out).mono ?_);rintro e w' ⟨rfl,⟨nd,rfl⟩⟩))
   go_meet
   case rel=>exact ⟨_,(!t106),AaH,H',⟨by first|omega|exact Nat.le_refl _⟩,⟨SaH⟩,⟨zaH⟩,⟨xaH⟩⟩
  ·replace c8:=Bool.eq_false_iff.mpr c8;subst c8;have H1:(qc.j0 k a1 ud true Qa Ja Ga Ia Aa)=some r:=by rw [if_neg (show ¬ (false=true) by decide)] at H;exact H
   clear H;have H:=H1;clear H1;have H':=ga.mk H;clear H;have Wn:w5.cell? ⟨ya,0,none⟩=some (.slice Ya Qa.length Za):=(ia oa.out 0).trans rfl;have Vn:w5.cell? ⟨ya,1,none⟩=some (.int .i64 Ja):=(ia oa.out 1).trans rfl;have Un:w5.cell? ⟨ya,2,none⟩=some (.int .i64 Ga):=(ia oa.out 2).trans rfl;have Tn:w5.cell? ⟨ya,3,none⟩=some (.int .i64 Ia):=(ia oa.out 3).trans rfl;have Sn:w5.cell? ⟨ya,4,none⟩=some (.slice Mb Aa.length Cb):=(ia oa.out 4).trans rfl;have Dn:=aa oa.out 0;have Cn:=aa oa.out 1;have Bn:=aa oa.out 2;have zn:=aa oa.out 3;have vn:=aa oa.out 4;go_wp2_with (first|((with_reducible refine yb (f:=40) rfl ?_);refine Pc (some 12) rfl rfl Try.func40 (by kernel_rfl) rfl #[.agg #[.slice Ya Qa.length Za,.int .i64 Ja,.int .i64 Ga,.int .i64 Ia,.slice Mb Aa.length Cb]] rfl waH ?_;(with_reducible refine (mb.calls k _ _ Qa Ja Ga Ia _ _ Aa false _ ?Uc ?Tc ?we ?ue A7.out).mono ?_);(case Uc=>repeat (first|exact (Kd.Nb Ze.out HB.out)|(with_reducible refine Kd.dc ?_ _)|(with_reducible refine Kd.Zb ?_ _)|(with_reducible refine Kd.Fc ?_)));(case Tc=>exact Af.out);(case we=>repeat (first|exact (Kd.Nb xg.out HB.out)|(with_reducible refine Kd.dc ?_ _)|(with_reducible refine Kd.Zb ?_ _)|(with_reducible refine Kd.Fc ?_)));(case ue=>exact ki.out);rintro e sr ⟨rfl,hb⟩;refine ⟨_,rfl,?_⟩;have Eb:=ga.mk (Kd.ld faI hb);have Fb:=ga.mk (Va (g:=ya) (o:=.cells #[.slice Ya Qa.length Za,.int .i64 Ja,.int .i64 Ga,.int .i64 Ia,.slice Mb Aa.length Cb] 30 (0,0)) vaH hb);have Ob:=ga.mk (Ra taH hb);clear Sg oa HB;have Sg:=Eb;have oa:=Fb;have HB:=Ob;clear Eb Fb Ob;(try clear hb);(try clear Uj);(try clear hk);(try clear hi)))
   go_meet
   case rel=>exact ⟨_,(true),AaH,H',⟨by first|omega|exact Nat.le_refl _⟩,⟨SaH⟩,⟨zaH⟩,⟨xaH⟩⟩
 case rest =>
  clear uV
  try clear c2
  try clear p2
  try clear c4
  try clear c8
  try clear Nh
  try clear Mh
  try clear Lh
  try clear Kh
  try clear Jh
  try clear Wn
  try clear Vn
  try clear Un
  try clear Tn
  try clear Sn
  try clear Ih
  try clear Hh
  try clear Gh
  try clear Fh
  try clear Eh
  try clear Dn
  try clear Cn
  try clear Bn
  try clear zn
  try clear vn
  obtain ⟨kq,sP,rfl,HA,JK,jg,oa,HB⟩:=hcut;cases kq with
  | zero=>exact absurd HA.out (by simp [qc.j0])
  | succ OP =>
   have H:=HA.out;clear HA;simp only [qc.j0] at H
   by_cases cL:sP=true
   ·subst cL;have H1:(some ud)=some r:=by rw [if_pos rfl] at H;exact H
    clear H;have H:=H1;clear H1;obtain rfl:=Option.some.inj H;go_wp2;go_ret;exact ⟨_,by first|rfl|(simp [Pa,Oa] <;> rfl)|(simp [*,Pa,Oa] <;> rfl),UaH,xaH⟩
   ·replace cL:=Bool.eq_false_iff.mpr cL;subst cL;have H1:((ai.f Qa Ja Ga Ia Aa).bind fun t107=>((xh.f Qa Ja Ga Ia Aa).bind fun t110=>(qc.l0 OP a1 ud t107 t110 0 Qa Ja Ga Ia Aa)))=some r:=by rw [if_neg (show ¬ (false=true) by decide)] at H;exact H
    clear H;have H:=H1;clear H1;replace H:=Option.bind_eq_some_iff.mp H;obtain ⟨t107,SM,H⟩:=H;replace H:((xh.f Qa Ja Ga Ia Aa).bind fun t110=>(qc.l0 OP a1 ud t107 t110 0 Qa Ja Ga Ia Aa))=some r:=H;have A_:=ga.mk SM;clear SM;replace H:=Option.bind_eq_some_iff.mp H;obtain ⟨t110,Ual,H⟩:=H;replace H:(qc.l0 OP a1 ud t107 t110 0 Qa Ja Ga Ia Aa)=some r:=H;have A16:=ga.mk Ual;clear Ual;have H':=ga.mk H;clear H;have yy:wc.cell? ⟨ya,0,none⟩=some (.slice Ya Qa.length Za):=(ia oa.out 0).trans rfl;have xy:wc.cell? ⟨ya,1,none⟩=some (.int .i64 Ja):=(ia oa.out 1).trans rfl;have uy:wc.cell? ⟨ya,2,none⟩=some (.int .i64 Ga):=(ia oa.out 2).trans rfl;have sy:wc.cell? ⟨ya,3,none⟩=some (.int .i64 Ia):=(ia oa.out 3).trans rfl;have ry:wc.cell? ⟨ya,4,none⟩=some (.slice Mb Aa.length Cb):=(ia oa.out 4).trans rfl;have Jx:=aa oa.out 0;have Ix:=aa oa.out 1;have Hx:=aa oa.out 2;have Gx:=aa oa.out 3;have Fx:=aa oa.out 4;go_wp2_with (first|((with_reducible refine yb (f:=57) rfl ?_);refine Pc (some 21) rfl rfl Try.func57 (by kernel_rfl) rfl #[.agg #[.slice Ya Qa.length Za,.int .i64 Ja,.int .i64 Ga,.int .i64 Ia,.slice Mb Aa.length Cb]] rfl waH ?_;(with_reducible refine (ai.calls _ _ Qa Ja Ga Ia _ _ Aa t107 _ ?Uc ?Tc ?we ?ue A_.out).mono ?_);(case Uc=>repeat (first|exact (Kd.Nb Ze.out HB.out)|(with_reducible refine Kd.dc ?_ _)|(with_reducible refine Kd.Zb ?_ _)|(with_reducible refine Kd.Fc ?_)));(case Tc=>exact Af.out);(case we=>repeat (first|exact (Kd.Nb xg.out HB.out)|(with_reducible refine Kd.dc ?_ _)|(with_reducible refine Kd.Zb ?_ _)|(with_reducible refine Kd.Fc ?_)));(case ue=>exact ki.out);rintro e TK ⟨O_,rfl,Lk,hb⟩;refine ⟨_,rfl,?_⟩;have Eb:=ga.mk (Kd.ld JaH hb);have Fb:=ga.mk (Kd.Ey Lk (La taH));have Ob:=ga.mk (Va (g:=ya) (o:=.cells #[.slice Ya Qa.length Za,.int .i64 Ja,.int .i64 Ga,.int .i64 Ia,.slice Mb Aa.length Cb] 30 (0,0)) vaH hb);have Ec:=ga.mk (Ra taH hb);clear jg oa HB;have jg:=Eb;have Iv:=Fb;have oa:=Ob;have HB:=Ec;clear Eb Fb Ob Ec;(try clear hb);(try clear Uj);(try clear hk);(try clear hi);(try clear Lk);have Yu:TK.cell? ⟨ya,0,none⟩=some (.slice Ya Qa.length Za):=(ia oa.out 0).trans rfl;have Xu:TK.cell? ⟨ya,1,none⟩=some (.int .i64 Ja):=(ia oa.out 1).trans rfl;have Wu:TK.cell? ⟨ya,2,none⟩=some (.int .i64 Ga):=(ia oa.out 2).trans rfl;have Vu:TK.cell? ⟨ya,3,none⟩=some (.int .i64 Ia):=(ia oa.out 3).trans rfl;have Uu:TK.cell? ⟨ya,4,none⟩=some (.slice Mb Aa.length Cb):=(ia oa.out 4).trans rfl;have wu:=aa oa.out 0;have vu:=aa oa.out 1;have uu:=aa oa.out 2;have tu:=aa oa.out 3;have su:=aa oa.out 4)|((with_reducible refine yb (f:=60) rfl ?_);refine Pc (some 23) rfl rfl Try.func60 (by kernel_rfl) rfl #[.agg #[.slice Ya Qa.length Za,.int .i64 Ja,.int .i64 Ga,.int .i64 Ia,.slice Mb Aa.length Cb]] rfl waH ?_;(with_reducible refine (xh.calls _ _ Qa Ja Ga Ia _ _ Aa t110 _ ?Uc ?Tc ?we ?ue A16.out).mono ?_);(case Uc=>repeat (first|exact (Kd.Nb Ze.out HB.out)|(with_reducible refine Kd.dc ?_ _)|(with_reducible refine Kd.Zb ?_ _)|(with_reducible refine Kd.Fc ?_)));(case Tc=>exact Af.out);(case we=>repeat (first|exact (Kd.Nb xg.out HB.out)|(with_reducible refine Kd.dc ?_ _)|(with_reducible refine Kd.Zb ?_ _)|(with_reducible refine Kd.Fc ?_)));(case ue=>exact ki.out);rintro e w20 ⟨XZ,rfl,Lk,hb⟩;refine ⟨_,rfl,?_⟩;have Eb:=ga.mk (Kd.ld JaH hb);have Fb:=ga.mk (Kd.Aw (by (with_reducible repeat (first|apply Kd.fe|apply Kd.ee|apply Kd.Qe));exact Iv.out) (Kd.Av Lk) hb);have Ob:=ga.mk (Kd.Nd Lk (La taH));have Ec:=ga.mk (Va (g:=ya) (o:=.cells #[.slice Ya Qa.length Za,.int .i64 Ja,.int .i64 Ga,.int .i64 Ia,.slice Mb Aa.length Cb] 30 (0,0)) vaH hb);have gf:=ga.mk (Ra taH hb);clear jg Iv oa HB;have jg:=Eb;have Iv:=Fb;have rG:=Ob;have oa:=Ec;have HB:=gf;clear Eb Fb Ob Ec gf;(try clear hb);(try clear Uj);(try clear hk);(try clear hi);(try clear Lk)))
    go_loopg [5,8] OP (fun kq v5 v8 w'=>∃ (Me:List Int) (Jj:Int),v8 = .int .i64 Jj∧ga (qc.l0 kq a1 Me t107 t110 Jj Qa Ja Ga Ia Aa=some r)∧ga (kq ≤ OP)∧ga (Kd.R (Kd.int .i64) 3 w' w.heap.size (fun _=>True) v5 Me)∧ga (Kd.S (Kd.slice 4 Kd.bool) 60 w' w.heap.size (fun k_=>some k_ ≠ (XZ:Value).ownBlock) O_ t107)∧ga (Kd.R Kd.bool 4 w' w.heap.size (fun _=>True) XZ t110)∧ga (w'.heap[ya]? = some (.cells #[(.slice Ya Qa.length Za),.int .i64 Ja,.int .i64 Ga,.int .i64 Ia,(.slice Mb Aa.length Cb)] 30 (0,0)))∧ga (Below w.heap.size w w'))
    case atStart=>exact ⟨(ud),(0),AaH,H',⟨Nat.le_refl _⟩,⟨UaH⟩,⟨by (with_reducible repeat (first|apply Kd.fe|apply Kd.ee|apply Kd.Qe));exact Kd.Ah Iv.out (fun _ hk=>hk.2)⟩,⟨by (with_reducible repeat (first|apply Kd.Xa|apply Kd.Wa|apply Kd.gb));exact rG.out⟩,⟨zaH⟩,⟨xaH⟩⟩
    case round =>
     clear H'
     try clear c1
     try clear c2
     try clear p2
     try clear c4
     try clear c5
     try clear c6
     try clear c8
     try clear cL
     try clear Nh
     try clear Mh
     try clear Lh
     try clear Kh
     try clear Jh
     try clear Wn
     try clear Vn
     try clear Un
     try clear Tn
     try clear Sn
     try clear yy
     try clear xy
     try clear uy
     try clear sy
     try clear ry
     try clear Yu
     try clear Xu
     try clear Wu
     try clear Vu
     try clear Uu
     try clear Ih
     try clear Hh
     try clear Gh
     try clear Fh
     try clear Eh
     try clear Dn
     try clear Cn
     try clear Bn
     try clear zn
     try clear vn
     try clear Jx
     try clear Ix
     try clear Hx
     try clear Gx
     try clear Fx
     try clear wu
     try clear vu
     try clear uu
     try clear tu
     try clear su
     try clear p2
     (try clear HA);(try clear zl);(try clear jg);(try clear uh);(try clear yg);(try clear oa);(try clear HB);obtain ⟨Me,Jj,rfl,HA,zl,jg,uh,yg,oa,HB⟩:=hrel;cases gk with
     | zero=>exact absurd HA.out (by simp [qc.l0])
     | succ k2 =>
      have H:=HA.out;clear HA;simp only [qc.l0] at H
      by_cases Hs:Jj < Ia
      ·rw [if_pos Hs] at H;have DH:decide (Jj < Ia)=true:=decide_eq_true Hs;clear Hs
       by_cases VB:0 ≤ Jj
       ·rw [if_pos VB] at H;have sM:decide (0 ≤ Jj)=true:=decide_eq_true VB;clear VB
        by_cases Yy:Jj < (t110.length:Int)
        ·rw [if_pos Yy] at H;have uD:decide (Jj < (t110.length:Int))=true:=decide_eq_true Yy;clear Yy;obtain ⟨Iaj,LX⟩:∃ b_:Bool,b_=(Vf false t110 Jj):=⟨_,rfl⟩;replace H:(if Iaj=true then (if Jj < (t107.length:Int) then ((mc.f k2 (yd t107 Jj) Me a1).bind fun t115=>(if Me.length < 17592186044416 then (qc.l0 k2 a1 (Me ++ [t115]) t107 t110 (wrap64 (Jj + 1)) Qa Ja Ga Ia Aa) else (none))) else (none)) else (if Me.length < 17592186044416 then (qc.l0 k2 a1 (Me ++ [(-1)]) t107 t110 (wrap64 (Jj + 1)) Qa Ja Ga Ia Aa) else (none)))=some r:=by rw [← LX] at H;exact H
         have C9:=ga.mk LX;clear LX
         by_cases JD:Iaj=true
         ·subst JD;have H1:(if Jj < (t107.length:Int) then ((mc.f k2 (yd t107 Jj) Me a1).bind fun t115=>(if Me.length < 17592186044416 then (qc.l0 k2 a1 (Me ++ [t115]) t107 t110 (wrap64 (Jj + 1)) Qa Ja Ga Ia Aa) else (none))) else (none))=some r:=by rw [if_pos rfl] at H;exact H
          clear H;have H:=H1;clear H1
          by_cases Jz:Jj < (t107.length:Int)
          ·rw [if_pos Jz] at H;have BH:decide (Jj < (t107.length:Int))=true:=decide_eq_true Jz;clear Jz;replace H:=Option.bind_eq_some_iff.mp H;obtain ⟨t115,Pal,H⟩:=H;replace H:(if Me.length < 17592186044416 then (qc.l0 k2 a1 (Me ++ [t115]) t107 t110 (wrap64 (Jj + 1)) Qa Ja Ga Ia Aa) else (none))=some r:=H;have A27:=ga.mk Pal;clear Pal
           by_cases dN:Me.length < 17592186044416
           ·rw [if_pos dN] at H;have hak:=ga.mk dN;clear dN;obtain ⟨qU,mw⟩:∃ y_:List Int,y_=(Me ++ [t115]):=⟨_,rfl⟩;replace H:(qc.l0 k2 a1 qU t107 t110 (wrap64 (Jj + 1)) Qa Ja Ga Ia Aa)=some r:=by first|(rw [mw];with_reducible exact H)|(have Ed:=(Option.bind_some _ _).symm.trans H;rw [mw];with_reducible exact Ed)|(have Ed:=(Option.bind_some _ _).symm.trans H;with_reducible exact Ed)|with_reducible exact H|(rw [mw];exact H)|exact H
            have RY:=ga.mk mw;clear mw;have H':=ga.mk H;clear H;have tB:wr.cell? ⟨ya,0,none⟩=some (.slice Ya Qa.length Za):=(ia oa.out 0).trans rfl;have sB:wr.cell? ⟨ya,1,none⟩=some (.int .i64 Ja):=(ia oa.out 1).trans rfl;have rB:wr.cell? ⟨ya,2,none⟩=some (.int .i64 Ga):=(ia oa.out 2).trans rfl;have qB:wr.cell? ⟨ya,3,none⟩=some (.int .i64 Ia):=(ia oa.out 3).trans rfl;have oB:wr.cell? ⟨ya,4,none⟩=some (.slice Mb Aa.length Cb):=(ia oa.out 4).trans rfl;have eB:=aa oa.out 0;have dB:=aa oa.out 1;have cB:=aa oa.out 2;have bB:=aa oa.out 3;have ZA:=aa oa.out 4;obtain ⟨mP,VG,eV⟩:=Kd.od yg.out;subst eV;have Nv:0 ≤ (Jj:Int):=Ua;have Lv:Jj < (t110.length:Int):=Ua;obtain ⟨yM,vO,Kr⟩:=Kd.lg (Kd.Rb yg.out).2.2 Jj Nv Lv;(try rw [← C9.out] at Kr);cases vO;replace Nv:=eq_true Nv;replace Lv:=eq_true Lv;obtain ⟨Yax,Aab,U5⟩:=Kd.Wj uh.out;subst U5;have R0:0 ≤ (Jj:Int):=Ua;have N0:Jj < (t107.length:Int):=Ua;obtain ⟨naC,yad,Oab,Haw,G1,pQ,xQ⟩:=wv (Kd.Xe uh.out).2.2 Jj R0 N0;cases Haw;obtain ⟨haC,Vaa,bab,CX⟩:=Kd.FH uh.out [] Jj R0 (by first|exact N0|exact Ua|(have e_:=(Kd.Xe uh.out).1;omega));obtain ⟨aam,rfl,kK⟩:=bab;have KA:=CX 0 _ rfl;rw [Nat.add_zero,show ((Kd.slice 4 Kd.bool)).sz=1 from rfl,Nat.mul_one] at KA;replace KA:=Option.some.inj (KA.symm.trans G1);rw [KA] at kK;have Jy:=ga.mk (show Kd.R Kd.bool 4 _ _ _ _ (yd t107 Jj) from kK);clear KA kK CX Vaa;have Hy:=ga.mk xQ;have y7:=ga.mk pQ;clear xQ pQ;replace R0:=eq_true R0;replace N0:=eq_true N0;obtain ⟨Ial,Yai,yaw⟩:=Kd.od jg.out;subst yaw;go_wp2_with (first|((with_reducible refine yb (f:=61) rfl ?_);refine Pc (some 40) rfl rfl Try.func61 (by kernel_rfl) rfl #[.slice yad (yd t107 Jj).length Oab,.slice Ial Me.length Yai,.int .i64 a1] rfl waH ?_;(with_reducible refine (mc.calls k2 _ _ (yd t107 Jj) _ _ Me a1 t115 _ ?Uc ?Tc ?we ?ue A27.out).mono ?_);(case Uc=>repeat (first|exact (by repeat (first|(with_reducible exact Hy.out)|(with_reducible refine Kd.dc ?_ _)|(with_reducible refine Kd.Zb ?_ _)|(with_reducible refine Kd.Fc ?_)|exact Hy.out))|(with_reducible refine Kd.dc ?_ _)|(with_reducible refine Kd.Zb ?_ _)|(with_reducible refine Kd.Fc ?_)));(case Tc=>exact y7.out);(case we=>repeat (first|exact (Kd.Rb jg.out).2.2|(with_reducible refine Kd.dc ?_ _)|(with_reducible refine Kd.Zb ?_ _)|(with_reducible refine Kd.Fc ?_)));(case ue=>exact (Kd.Rb jg.out).2.1);rintro e AP ⟨rfl,hb⟩;refine ⟨_,rfl,?_⟩;have Eb:=ga.mk (Kd.ld JaH hb);have Fb:=ga.mk (Kd.Oh (by (with_reducible repeat (first|apply Kd.fe|apply Kd.ee|apply Kd.Qe));exact uh.out) hb);have Ob:=ga.mk (Kd.ld iaI hb);have Ec:=ga.mk (Kd.ld (by (with_reducible repeat (first|apply Kd.Xa|apply Kd.Wa|apply Kd.gb));exact Jy.out) hb);have gf:=ga.mk (Va (g:=ya) (o:=.cells #[.slice Ya Qa.length Za,.int .i64 Ja,.int .i64 Ga,.int .i64 Ia,.slice Mb Aa.length Cb] 30 (0,0)) vaH hb);have Zf:=ga.mk (Kd.Nb (by repeat (first|(with_reducible exact Hy.out)|(with_reducible refine Kd.dc ?_ _)|(with_reducible refine Kd.Zb ?_ _)|(with_reducible refine Kd.Fc ?_)|exact Hy.out)) hb);have gh:=ga.mk (Ra taH hb);clear jg uh yg Jy oa Hy HB;have jg:=Eb;have uh:=Fb;have yg:=Ob;have Jy:=Ec;have oa:=gf;have Hy:=Zf;have HB:=gh;clear Eb Fb Ob Ec gf Zf gh;(try clear hb);(try clear Uj);(try clear hk);(try clear hi))|((with_reducible refine Jd (b:=.append) (xs:=#[.tmp 41,.tmp 43]) rfl ?_);at_builtin;refine Kd.Rg (Kd.int .i64) (w0:=w) w.heap.size rfl (.tmp 41) (.tmp 43) 22 3 (.int .i64 0) 8 rfl Try.underlying22 info3 rfl (by decide) (by omega) (.slice Ial Me.length Yai) Me t115 [.int .i64 t115] (fun _=>True) (fun _=>False) rfl rfl ?aP (fun _ hk=>hk.elim) ?aF ?aO ?aB ?aS ?aL ?_;(case aP=>exact rfl);(case aB=>exact taH);(case aF=>exact (fun _ _=>trivial));(case aO=>exact JaH);(case aS=>exact (La taH));(case aL=>have:=hak.out;omega);intro taD eH ho hb hg hat;rw [← RY.out] at ho;have Eb:=ga.mk (Kd.CB (by (with_reducible repeat (first|apply Kd.fe|apply Kd.ee|apply Kd.Qe));exact uh.out) (Kd.mh JaH) (by decide) hg);have Fb:=ga.mk (Kd.mj iaI (Kd.mh JaH) (by decide) hg);have Ob:=ga.mk (Vc (g:=ya) (o:=.cells #[.slice Ya Qa.length Za,.int .i64 Ja,.int .i64 Ga,.int .i64 Ia,.slice Mb Aa.length Cb] 30 (0,0)) vaH hg (Kd.tj jg.out oa.out (by decide)));have Ec:=ga.mk (Kd.mj (by (with_reducible repeat (first|apply Kd.Xa|apply Kd.Wa|apply Kd.gb));exact Jy.out) (Kd.mh JaH) (by decide) hg);have gf:=ga.mk (hb);have Zf:=ga.mk (ho);clear uh yg oa Jy HB jg;have uh:=Eb;have yg:=Fb;have oa:=Ob;have Jy:=Ec;have HB:=gf;have Sak:=Zf;clear Eb Fb Ob Ec gf Zf ho hb hg hat))
            go_roundg k2
            case measure=>have:=JK.out;have:=zl.out;omega
            case rel=>exact ⟨(qU),(wrap64 (Jj + 1)),AaH,H',⟨by have:=JK.out;have:=zl.out;omega⟩,⟨by (with_reducible repeat (first|apply Kd.Xa|apply Kd.Wa|apply Kd.gb));exact Sak.out⟩,⟨by (with_reducible repeat (first|apply Kd.fe|apply Kd.ee|apply Kd.Qe));exact uh.out⟩,⟨RaH⟩,⟨zaH⟩,⟨xaH⟩⟩
           ·rw [if_neg dN] at H;exact absurd H (by simp)
          ·rw [if_neg Jz] at H;exact absurd H (by simp)
         ·replace JD:=Bool.eq_false_iff.mpr JD;subst JD;have H1:(if Me.length < 17592186044416 then (qc.l0 k2 a1 (Me ++ [(-1)]) t107 t110 (wrap64 (Jj + 1)) Qa Ja Ga Ia Aa) else (none))=some r:=by rw [if_neg (show ¬ (false=true) by decide)] at H;exact H
          clear H;have H:=H1;clear H1
          by_cases UB:Me.length < 17592186044416
          ·rw [if_pos UB] at H;have WY:=ga.mk UB;clear UB;obtain ⟨pU,iw⟩:∃ y_:List Int,y_=(Me ++ [(-1)]):=⟨_,rfl⟩;replace H:(qc.l0 k2 a1 pU t107 t110 (wrap64 (Jj + 1)) Qa Ja Ga Ia Aa)=some r:=by first|(rw [iw];with_reducible exact H)|(have Ed:=(Option.bind_some _ _).symm.trans H;rw [iw];with_reducible exact Ed)|(have Ed:=(Option.bind_some _ _).symm.trans H;with_reducible exact Ed)|with_reducible exact H|(rw [iw];exact H)|exact H
           have QY:=ga.mk iw;clear iw;have H':=ga.mk H;clear H;have zE:wr.cell? ⟨ya,0,none⟩=some (.slice Ya Qa.length Za):=(ia oa.out 0).trans rfl;have yE:wr.cell? ⟨ya,1,none⟩=some (.int .i64 Ja):=(ia oa.out 1).trans rfl;have xE:wr.cell? ⟨ya,2,none⟩=some (.int .i64 Ga):=(ia oa.out 2).trans rfl;have wE:wr.cell? ⟨ya,3,none⟩=some (.int .i64 Ia):=(ia oa.out 3).trans rfl;have vE:wr.cell? ⟨ya,4,none⟩=some (.slice Mb Aa.length Cb):=(ia oa.out 4).trans rfl;have eE:=aa oa.out 0;have cE:=aa oa.out 1;have bE:=aa oa.out 2;have aE:=aa oa.out 3;have ZD:=aa oa.out 4;obtain ⟨kaG,zab,T5⟩:=Kd.od yg.out;subst T5;have Nv:0 ≤ (Jj:Int):=Ua;have Lv:Jj < (t110.length:Int):=Ua;obtain ⟨yM,vO,Kr⟩:=Kd.lg (Kd.Rb yg.out).2.2 Jj Nv Lv;(try rw [← C9.out] at Kr);cases vO;replace Nv:=eq_true Nv;replace Lv:=eq_true Lv;go_wp2_with (first|((with_reducible refine Jd (b:=.append) (xs:=#[.tmp 41,.tmp 43]) rfl ?_);at_builtin;refine Kd.Rg (Kd.int .i64) (w0:=w) w.heap.size rfl (.tmp 41) (.tmp 43) 22 3 (.int .i64 0) 8 rfl Try.underlying22 info3 rfl (by decide) (by omega) u5 Me (-1) [.int .i64 (-1)] (fun _=>True) (fun _=>False) rfl rfl ?aP (fun _ hk=>hk.elim) ?aF ?aO ?aB ?aS ?aL ?_;(case aP=>exact rfl);(case aB=>exact taH);(case aF=>exact (fun _ _=>trivial));(case aO=>exact JaH);(case aS=>exact (La taH));(case aL=>have:=WY.out;omega);intro L_ BG ho hb hg hat;rw [← QY.out] at ho;have Eb:=ga.mk (Kd.CB (by (with_reducible repeat (first|apply Kd.fe|apply Kd.ee|apply Kd.Qe));exact uh.out) (Kd.mh JaH) (by decide) hg);have Fb:=ga.mk (Kd.mj iaI (Kd.mh JaH) (by decide) hg);have Ob:=ga.mk (Vc (g:=ya) (o:=.cells #[.slice Ya Qa.length Za,.int .i64 Ja,.int .i64 Ga,.int .i64 Ia,.slice Mb Aa.length Cb] 30 (0,0)) vaH hg (Kd.tj jg.out oa.out (by decide)));have Ec:=ga.mk (hb);have gf:=ga.mk (ho);clear uh yg oa HB jg;have uh:=Eb;have yg:=Fb;have oa:=Ob;have HB:=Ec;have iZ:=gf;clear Eb Fb Ob Ec gf ho hb hg hat))
           go_roundg k2
           case measure=>have:=JK.out;have:=zl.out;omega
           case rel=>exact ⟨(pU),(wrap64 (Jj + 1)),AaH,H',⟨by have:=JK.out;have:=zl.out;omega⟩,⟨by (with_reducible repeat (first|apply Kd.Xa|apply Kd.Wa|apply Kd.gb));exact iZ.out⟩,⟨by (with_reducible repeat (first|apply Kd.fe|apply Kd.ee|apply Kd.Qe));exact uh.out⟩,⟨RaH⟩,⟨zaH⟩,⟨xaH⟩⟩
          ·rw [if_neg UB] at H;exact absurd H (by simp)
        ·rw [if_neg Yy] at H;exact absurd H (by simp)
       ·rw [if_neg VB] at H;exact absurd H (by simp)
      ·rw [if_neg Hs] at H;have DH:decide (Jj < Ia)=false:=decide_eq_false Hs;clear Hs;obtain rfl:=Option.some.inj H;have uE:wr.cell? ⟨ya,0,none⟩=some (.slice Ya Qa.length Za):=(ia oa.out 0).trans rfl;have sE:wr.cell? ⟨ya,1,none⟩=some (.int .i64 Ja):=(ia oa.out 1).trans rfl;have rE:wr.cell? ⟨ya,2,none⟩=some (.int .i64 Ga):=(ia oa.out 2).trans rfl;have qE:wr.cell? ⟨ya,3,none⟩=some (.int .i64 Ia):=(ia oa.out 3).trans rfl;have pE:wr.cell? ⟨ya,4,none⟩=some (.slice Mb Aa.length Cb):=(ia oa.out 4).trans rfl;have YD:=aa oa.out 0;have XD:=aa oa.out 1;have WD:=aa oa.out 2;have VD:=aa oa.out 3;have UD:=aa oa.out 4;go_wp2;go_ret;exact ⟨_,by first|rfl|(simp [Pa,Oa] <;> rfl)|(simp [*,Pa,Oa] <;> rfl),UaH,xaH⟩
end Go.Proofs.Ytkigbdceceeenaa.P
end
