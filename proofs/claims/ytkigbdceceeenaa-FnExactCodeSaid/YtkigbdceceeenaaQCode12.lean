import Derived.Shelf.Abstract
import Derived.Outline
import Derived.RegionTactic
import Derived.StillTailTactics
import Derived.Test.YtkigbdceceeenaaQCode1
import Derived.Test.YtkigbdceceeenaaQCode6
import Derived.Test.YtkigbdceceeenaaQCode7
import Derived.Test.YtkigbdceceeenaaQCode11
import Derived.Test.YtkigbdceceeenaaQCode10
import Derived.Test.YtkigbdceceeenaaQCode3
import Derived.Test.YtkigbdceceeenaaQCode5
import Derived.Test.YtkigbdceceeenaaQCode4
set_option maxHeartbeats 32000000
set_option maxRecDepth 100000
section
namespace Go.Proofs.Ytkigbdceceeenaa.P
open Go.RowKit Go.Proofs.Oa.Rb Go.Proofs.Oa.Pd Go.Proofs.Oa.Re
set_option linter.unusedVariables false
set_option linter.unusedSimpArgs false
structure YX (bs:List Ff) (n:Nat) (cs:List Int):Prop where
 lv:PA bs n
 len:cs.length=n
 le:∀ i:Nat,i < cs.length→rd cs (i:Int) ≤ 11
 op:∀ b ∈ bs,∀ x ∈ b.f0,0 ≤ x.f0∧x.f0 ≤ 6
 jm:∀ b ∈ bs,b.f1=0 ∨ b.f1=1 ∨ b.f1=2
 sz:(Ud cs (ud cs (Yc (wh bs n) n)) bs bs.length).length ≤ 900000000
noncomputable def qY (bs:List Ff) (n:Nat) (cs:List Int):List Zb:=(Ud cs (ud cs (Yc (wh bs n) n)) bs bs.length).map (Rp (Gn cs (ud cs (Yc (wh bs n) n)) bs bs.length))
noncomputable def Th.f (Ua:List Int) (Pa:Int) (Ra:Int) (Sa:Int) (Fa:List (Ff)) (l1:List Int):Option (List Int × Int × Int × List Zb):=open Classical in if 0 ≤ Sa∧Ua.length ≤ 1048576∧YX Fa Sa.toNat l1 then some (Ua,Pa,Sa,qY Fa Sa.toNat l1) else none
theorem kM (w:World) (o p:Obj):((w.alloc o).alloc p).heap[w.heap.size + 1]? = some p:=by
 have h:=kg (w.alloc o) p;have hz:(w.alloc o).heap.size=w.heap.size + 1:=by simp
 rw [hz] at h;exact h
theorem wM {W:World} {base:Nat} (h:base ≤ W.heap.size) (o:Obj) (e:Nat):Kd.R (Kd.int .i64) e ((W.alloc o).alloc (.cells #[] e (0,0))) base (fun k=>k=W.heap.size + 1) (.slice (some ⟨W.heap.size + 1,0,none⟩) 0 0) []:=by
 have h2:=mE (Kd.int .i64) e (W.alloc o) (W.heap.size + 1) (by simp)
 have h3:=Kd.yc (Kd.Xf h2) (fun k hk=>(show k=W.heap.size + 1 from by
  have h5:(W.alloc o).heap.size=W.heap.size + 1:=by simp
  have h6:((W.alloc o).alloc (.cells #[] e (0,0))).heap.size=W.heap.size + 2:=by simp [h5]
  have:=hk.2.1;have:=hk.2.2.1
  omega))
 simp only [World.size_alloc] at h3;exact Kd.td h3 (by omega)
theorem zF {W:World} {base:Nat} (h:base ≤ W.heap.size) (e:Nat):Kd.R (Kd.int .i64) e (W.alloc (.cells #[] e (0,0))) base (fun k=>k=W.heap.size) (.slice (some ⟨W.heap.size,0,none⟩) 0 0) []:=by
 have h2:=mE (Kd.int .i64) e W W.heap.size (Nat.le_refl _)
 have h3:=Kd.yc (Kd.Xf h2) (fun k hk=>(show k=W.heap.size from by
  have h6:(W.alloc (.cells #[] e (0,0))).heap.size=W.heap.size + 1:=by simp
  have:=hk.2.1;have:=hk.2.2.1
  omega))
 exact Kd.td h3 h
theorem VG (cs:List Int):∀ L:List Int,(ud cs L).length ≤ L.length:=by
 intro L;unfold ud
 induction L with
 | nil=>exact Nat.le_refl _
 | cons z L ih =>
  rw [List.flatMap_cons,List.length_append,List.length_cons]
  by_cases h:rd cs z ≥ 0
  ·rw [if_pos h,List.length_singleton];omega
  ·rw [if_neg h,List.length_nil];omega
structure CwF (w:World) (base gc q5:Nat) (o oi oc:Obj) (vS:Value) (l0:List Int) (W:World):Prop where
 bw:Below w.heap.size w W
 hx:W.heap[w.heap.size]? = some o
 hy:W.heap[w.heap.size + 1]? = some oi
 hp:W.heap[q5]? = some (.cells #[.pointer (some ⟨gc,0,none⟩)] 104 (0,0))
 hc:W.heap[gc]? = some oc
 ho:Kd.R (Kd.int .i64) 3 W base (fun k=>k ≠ gc∧k ≠ q5) vS l0
 ne:gc ≠ q5∧w.heap.size + 1 < gc∧w.heap.size + 1 < q5
theorem CwF.below {w:World} {base gc q5:Nat} {o oi oc:Obj} {vS:Value} {l0:List Int} {W W1:World} (h:CwF w base gc q5 o oi oc vS l0 W) (hb:Below W.heap.size W W1):CwF w base gc q5 o oi oc vS l0 W1 :=
 ⟨Ma h.bw hb,Na h.hx hb,Na h.hy hb,Na h.hp hb,Na h.hc hb,Kd.Yb h.ho hb,h.ne⟩
theorem Th.calls (yb:Option Addr) (zb:Nat) (Ua:List Int) (Pa:Int) (Ra:Int) (Sa:Int) (fc:Option Addr) (Qb:Nat) (Fa:List (Ff)) (A1:Option Addr) (c1:Nat) (l1:List Int) (r1:List Int) (r2 r3:Int) (r4:List Zb) (w:World) (jf:Kd.C (Kd.int .i64) w yb Ua.length Ua) (Ze:Ua.length ≤ zb) (Lg:Kd.C Wr w fc Fa.length Fa) (Ig:Fa.length ≤ Qb) (Hu:Kd.C (Kd.int .i64) w A1 l1.length l1) (Qp:l1.length ≤ c1) (h:Th.f Ua Pa Ra Sa Fa l1=some (r1,r2,r3,r4)) :
  Calls Try.prog 66 #[.agg #[.slice yb Ua.length zb,.int .i64 Pa,.int .i64 Ra,.int .i64 Sa,.slice fc Fa.length Qb],.slice A1 l1.length c1] w fun e w'=>∃ Zn b7:Value,e = .returned (.agg #[Zn,.int .i64 r2,.int .i64 r3,b7])∧Kd.R (Kd.int .i64) 3 w' w.heap.size (fun _=>True) Zn r1∧Kd.R Yg 79 w' w.heap.size (fun _=>True) b7 r4∧Below w.heap.size w w':=by
 unfold Th.f at h
 by_cases hf:0 ≤ Sa∧Ua.length ≤ 1048576∧YX Fa Sa.toNat l1
 case neg=>rw [if_neg hf] at h;cases h
 rw [if_pos hf] at h;obtain ⟨hn0,hl0,hO⟩:=hf;obtain ⟨n,rfl⟩:∃ n:Nat,Sa=(n:Int):=⟨Sa.toNat,(Int.toNat_of_nonneg hn0).symm⟩;rw [Int.toNat_natCast] at hO h
 obtain ⟨rfl,rfl,rfl,rfl⟩:Ua=r1∧Pa=r2∧(n:Int)=r3∧qY Fa n l1=r4:=by
  have:=Option.some.inj h;simp only [Prod.mk.injEq] at this;exact this
 clear h hn0;have HO:=aa.mk hO;have hn:n ≤ 1048576:=hO.lv.2.1;have hm0:0 < Fa.length:=hO.lv.1.1;have hm1:Fa.length ≤ 1048576:=hO.lv.1.2.1;have HCN:=aa.mk hO.len;clear hO;have ij:=aa.mk jf;have zT:=aa.mk Lg;have D6:=aa.mk Ze;have uY:=aa.mk Ig;have pE:=aa.mk Hu;have HL1:=aa.mk Qp;have HLL:=aa.mk (show (([]:List Int).length + Ua.length) * 8 ≤ 140737488355328 from by simp only [List.length_nil];omega);obtain ⟨W1,Eg⟩:∃ W1,W1=(w.alloc (.cells #[.slice yb Ua.length zb,.int .i64 Pa,.int .i64 Ra,.int .i64 (n:Int),.slice fc Fa.length Qb] 30 (0,0))).alloc (.cells #[.slice none 0 0,.int .i64 0,.int .i64 0,.slice none 0 0] 49 (0,0)):=⟨_,rfl⟩;have HW:=aa.mk Eg;have XA:=aa.mk (show Below w.heap.size w W1 by rw [Eg];exact Ma (ia (Below.refl _ _) _) (ia (Below.refl _ _) _));have Y5:=aa.mk (show W1.heap[w.heap.size]? = some (.cells #[.slice yb Ua.length zb,.int .i64 Pa,.int .i64 Ra,.int .i64 (n:Int),.slice fc Fa.length Qb] 30 (0,0)) by rw [Eg];exact Na (kg _ _) (ia (Below.refl _ _) _))
 have HY1:=aa.mk (show W1.heap[w.heap.size + 1]? = some (.cells #[.slice none 0 0,.int .i64 0,.int .i64 0,.slice none 0 0] 49 (0,0)) by
  rw [Eg];have h:=kg (w.alloc (.cells #[.slice yb Ua.length zb,.int .i64 Pa,.int .i64 Ra,.int .i64 (n:Int),.slice fc Fa.length Qb] 30 (0,0))) (.cells #[.slice none 0 0,.int .i64 0,.int .i64 0,.slice none 0 0] 49 (0,0));have hz:(w.alloc (.cells #[.slice yb Ua.length zb,.int .i64 Pa,.int .i64 Ra,.int .i64 (n:Int),.slice fc Fa.length Qb] 30 (0,0))).heap.size=w.heap.size + 1:=by simp
  rw [hz] at h
  exact h)
 clear Eg jf Lg Ze Ig Hu Qp;go_enter Try.func66,Try.ntmps66
 go_upto_region 1 with (fail)
 rw [← HW.out];clear HW;have HBd:=aa.mk (oa XA.out);have nE:=aa.mk (Ba Y5.out);have HYd:=aa.mk (Ba HY1.out);clear XA Y5 HY1;refine Gh (n:=14) (S:=fun w'=>w'.cell? ⟨w.heap.size,0,none⟩=some (.slice yb Ua.length zb)∧w'.cell? ⟨w.heap.size,1,none⟩=some (.int .i64 Pa)∧w'.cell? ⟨w.heap.size,3,none⟩=some (.int .i64 (n:Int))) (ds:=[13]) #[false,false,false,false,false,false,false,false,false,false,false,false,false,false] (by kernel_rfl) rfl rfl ⟨(ja nE.out 0).trans rfl,(ja nE.out 1).trans rfl,(ja nE.out 3).trans rfl⟩ (fun hHeld=>?_);generalize W1.drew=wd at HBd nE HYd hHeld ⊢;refine ec (i:=1) (N:=some 18) (v:=?_) (a':=?_) #[false,true,false,false,false,false,false,false,false,false,false,false,false,false] rfl rfl (by kernel_rfl) (fun _ _ _ h=>h) (Or.inl ⟨by rfl,?_⟩) ?_ ?_;rotate_left
 ·exact XaJ
 rotate_left
 ·exact WaJ
 refine ec (i:=4) (N:=some 21) (v:=?_) (a':=?_) #[false,true,false,false,true,false,false,false,false,false,false,false,false,false] rfl rfl (by kernel_rfl) (fun _ _ _ h=>h) (Or.inl ⟨by rfl,?_⟩) ?_ ?_;rotate_left
 ·exact XaJ
 rotate_left
 ·exact WaJ
 refine ec (i:=6) (N:=some 23) (v:=?_) (a':=?_) #[false,true,false,false,true,false,true,false,false,false,false,false,false,false] rfl rfl (by kernel_rfl) (fun _ _ _ h=>h) (Or.inl ⟨by rfl,?_⟩) ?_ ?_;rotate_left
 ·exact XaJ
 rotate_left
 ·exact WaJ
 refine ec (i:=9) (N:=some 26) (v:=?_) (a':=?_) #[false,true,false,false,true,false,true,false,false,true,false,false,false,false] rfl rfl (by kernel_rfl) (fun _ _ _ h=>h) (Or.inl ⟨by rfl,?_⟩) ?_ ?_;rotate_left
 ·exact XaJ
 rotate_left
 ·exact WaJ
 refine Pe (i:=2) (N:=some 19) (v:=?_) (a':=?_) #[false,true,true,false,true,false,true,false,false,true,false,false,false,false] rfl rfl (by kernel_rfl) (fun _ _ _ h=>h) (Or.inl ⟨by rfl,?_⟩) hHeld ?_ ?_;rotate_left
 ·exact faK
 rotate_left
 ·exact WaJ
 refine Pe (i:=5) (N:=some 22) (v:=?_) (a':=?_) #[false,true,true,false,true,true,true,false,false,true,false,false,false,false] rfl rfl (by kernel_rfl) (fun _ _ _ h=>h) (Or.inl ⟨by rfl,?_⟩) hHeld ?_ ?_;rotate_left
 ·exact faK
 rotate_left
 ·exact WaJ
 refine Pe (i:=7) (N:=some 24) (v:=?_) (a':=?_) #[false,true,true,false,true,true,true,true,false,true,false,false,false,false] rfl rfl (by kernel_rfl) (fun _ _ _ h=>h) (Or.inl ⟨by rfl,?_⟩) hHeld ?_ ?_;rotate_left
 ·exact faK
 rotate_left
 ·exact WaJ
 refine dP (σ:=Nat × Value × Nat × Nat) 1 #[true,true,true,true,true,true,true,true,true,true,true,true,true,false] (fun s=>[(17,.slice (some ⟨s.1,0,none⟩) 0 0),(20,s.2.1),(25,.agg #[s.2.1,.int .i64 Pa,.int .i64 (n:Int),.slice none 0 0]),(27,.agg #[s.2.1,.int .i64 Pa,.int .i64 (n:Int),.slice none 0 0,.slice A1 l1.length c1]),(28,.pointer (some ⟨s.2.2.1,0,none⟩)),(5,.pointer (some ⟨s.2.2.2,0,none⟩))]) (fun s w'=>Below wd.heap.size wd w'∧Kd.R (Kd.int .i64) 3 w' wd.heap.size (fun k=>k ≠ s.2.2.1∧k ≠ s.2.2.2) s.2.1 Ua∧w'.heap[s.2.2.1]? = some (.cells #[s.2.1,.int .i64 Pa,.int .i64 (n:Int),.slice none 0 0,.slice A1 l1.length c1] 106 (0,0))∧w'.heap[s.2.2.2]? = some (.cells #[.pointer none] 104 (0,0))∧s.2.2.1 ≠ s.2.2.2∧wd.heap.size ≤ s.2.2.1∧wd.heap.size ≤ s.2.2.2) ?_ ?_;rotate_left
 ·intro ur;refine fN (i:=0) (j:=12) (Ni:=some 17) (Nj:=some 5) #[true,true,true,false,true,true,true,true,false,true,false,false,false,false] #[false,true,true,false,true,true,true,true,false,true,false,false,true,false] rfl rfl rfl rfl (by kernel_rfl) (by decide) (by decide) (fun K hK=>?_) (fun K hK=>?_)
  ·skip
   refine Dn (w1:=?_) (v:=?_) (by rfl) rfl ?_ ?_;rotate_left 2
   ·go_simp
    constructor
    ·rfl
    ·rfl
   refine hK.out _ _ ⟨(ja (Na nE.out (ia (Below.refl _ _) _)) 0).trans rfl,(ja (Na nE.out (ia (Below.refl _ _) _)) 1).trans rfl,(ja (Na nE.out (ia (Below.refl _ _) _)) 3).trans rfl⟩ (fun hHeld=>?_);clear hK K;refine Be (a':=?_) ?_ ?_;rotate_left
   ·show Act.put _ (some 17) _=_
    exact WaJ
   refine fN (i:=3) (j:=12) (Ni:=some 20) (Nj:=some 5) #[true,true,true,true,true,true,true,true,false,true,false,false,false,false] #[true,true,true,false,true,true,true,true,false,true,false,false,true,false] rfl rfl rfl rfl (by kernel_rfl) (by decide) (by decide) (fun K hK=>?_) (fun K hK=>?_)
   ·skip
    refine Kd.Hf (Kd.int .i64) (w0:=wd) wd.heap.size (by rfl) (.tmp 17) (.tmp 19) 22 3 (.int .i64 0) 8 rfl Try.underlying22 info3 rfl (by decide) (by omega) (.slice (some ⟨wd.heap.size,0,none⟩) 0 0) [] Ua yb _ zb (fun k=>True) (fun _=>False) rfl rfl (Kd.yc (zF (Nat.le_refl _) 3) (fun _ _=>trivial)) (Kd.Kb (Kd.Kb ij.out HBd.out) (show Below _ wd (wd.alloc (.cells #[] 3 (0,0))) from by exact (ia (Below.refl wd.heap.size wd) _))) (fun _ _ h=>h) (fun _ hk=>hk.elim) (fun _ _=>trivial) (ia (Below.refl _ _) _) (ia (Below.refl wd.heap.size wd) _).size HLL.out ?_;intro v20 wa ho hb hg hat;rw [List.nil_append] at ho;obtain ⟨uC,Tp,rfl⟩:=Kd.Lc ho;have HOa:=aa.mk (Kd.Xf ho);have CT:=aa.mk hb;have QA:=aa.mk (Na nE.out hb);have HZa:=aa.mk (show wd.heap.size + 1 ≤ wa.heap.size from by have:=hg.size;simp at this;omega);clear ho hb hg hat;refine hK.out _ _ ⟨(ja QA.out 0).trans rfl,(ja QA.out 1).trans rfl,(ja QA.out 3).trans rfl⟩ (fun hHeld=>?_);clear hK K;refine Be (a':=?_) ?_ ?_;rotate_left
    ·show Act.put _ (some 20) _=_
     exact WaJ
    refine ec (i:=8) (N:=some 25) (v:=?_) (a':=?_) #[true,true,true,true,true,true,true,true,true,true,false,false,false,false] rfl rfl (by kernel_rfl) (fun _ _ _ h=>h) (Or.inl ⟨by rfl,?_⟩) ?_ ?_;rotate_left
    ·exact XaJ
    rotate_left
    ·exact WaJ
    refine ec (i:=10) (N:=some 27) (v:=?_) (a':=?_) #[true,true,true,true,true,true,true,true,true,true,true,false,false,false] rfl rfl (by kernel_rfl) (fun _ _ _ h=>h) (Or.inl ⟨by rfl,?_⟩) ?_ ?_;rotate_left
    ·exact XaJ
    rotate_left
    ·exact WaJ
    refine fN (i:=11) (j:=12) (Ni:=some 28) (Nj:=some 5) #[true,true,true,true,true,true,true,true,true,true,true,true,false,false] #[true,true,true,true,true,true,true,true,true,true,true,false,true,false] rfl rfl rfl rfl (by kernel_rfl) (by decide) (by decide) (fun K hK=>?_) (fun K hK=>?_)
    ·skip
     refine Dn (w1:=?_) (v:=?_) (by rfl) rfl ?_ ?_;rotate_left 2
     ·go_simp
      constructor
      ·rfl
      ·rfl
     refine hK.out _ _ ⟨(ja (Na QA.out (ia (Below.refl _ _) _)) 0).trans rfl,(ja (Na QA.out (ia (Below.refl _ _) _)) 1).trans rfl,(ja (Na QA.out (ia (Below.refl _ _) _)) 3).trans rfl⟩ (fun hHeld=>?_);clear hK K;refine Be (a':=?_) ?_ ?_;rotate_left
     ·show Act.put _ (some 28) _=_
      exact WaJ
     refine Gi (i:=12) (N:=some 5) #[true,true,true,true,true,true,true,true,true,true,true,true,true,false] rfl rfl (by kernel_rfl) (by decide) (fun K hK=>?_);refine Dn (w1:=?_) (v:=?_) (by rfl) rfl ?_ ?_;rotate_left 2
     ·go_simp
      constructor
      ·rfl
      ·rfl
     refine hK.out _ _ ⟨(ja (Na (Na QA.out (ia (Below.refl _ _) _)) (ia (Below.refl _ _) _)) 0).trans rfl,(ja (Na (Na QA.out (ia (Below.refl _ _) _)) (ia (Below.refl _ _) _)) 1).trans rfl,(ja (Na (Na QA.out (ia (Below.refl _ _) _)) (ia (Below.refl _ _) _)) 3).trans rfl⟩ (fun hHeld=>?_);clear hK K;refine Be (a':=?_) ?_ ?_;rotate_left
     ·show Act.put _ (some 5) _=_
      exact WaJ
     exact Be JaK (ur (wd.heap.size,.slice uC Ua.length Tp,wa.heap.size,wa.heap.size + 1) _ ⟨ia (ia CT.out _) _,Kd.yc (Kd.Xa (Kd.Xa HOa.out _) _) (fun k hk=>⟨fun e=>by have e:k=wa.heap.size:=e;have:=hk.2.2.1;omega,fun e=>by have e:k=wa.heap.size + 1:=e;have:=hk.2.2.1;omega⟩),Na (kg wa _) (ia (Below.refl _ _) _),kM wa _ _,by show wa.heap.size ≠ wa.heap.size + 1;omega,CT.out.size,Nat.le_succ_of_le CT.out.size⟩)
    ·skip
     refine Dn (w1:=?_) (v:=?_) (by rfl) rfl ?_ ?_;rotate_left 2
     ·go_simp
      constructor
      ·rfl
      ·rfl
     refine hK.out _ _ ⟨(ja (Na QA.out (ia (Below.refl _ _) _)) 0).trans rfl,(ja (Na QA.out (ia (Below.refl _ _) _)) 1).trans rfl,(ja (Na QA.out (ia (Below.refl _ _) _)) 3).trans rfl⟩ (fun hHeld=>?_);clear hK K;refine Be (a':=?_) ?_ ?_;rotate_left
     ·show Act.put _ (some 5) _=_
      exact WaJ
     refine Gi (i:=11) (N:=some 28) #[true,true,true,true,true,true,true,true,true,true,true,true,true,false] rfl rfl (by kernel_rfl) (by decide) (fun K hK=>?_);refine Dn (w1:=?_) (v:=?_) (by rfl) rfl ?_ ?_;rotate_left 2
     ·go_simp
      constructor
      ·rfl
      ·rfl
     refine hK.out _ _ ⟨(ja (Na (Na QA.out (ia (Below.refl _ _) _)) (ia (Below.refl _ _) _)) 0).trans rfl,(ja (Na (Na QA.out (ia (Below.refl _ _) _)) (ia (Below.refl _ _) _)) 1).trans rfl,(ja (Na (Na QA.out (ia (Below.refl _ _) _)) (ia (Below.refl _ _) _)) 3).trans rfl⟩ (fun hHeld=>?_);clear hK K;refine Be (a':=?_) ?_ ?_;rotate_left
     ·show Act.put _ (some 28) _=_
      exact WaJ
     exact Be JaK (ur (wd.heap.size,.slice uC Ua.length Tp,wa.heap.size + 1,wa.heap.size) _ ⟨ia (ia CT.out _) _,Kd.yc (Kd.Xa (Kd.Xa HOa.out _) _) (fun k hk=>⟨fun e=>by have e:k=wa.heap.size + 1:=e;have:=hk.2.2.1;omega,fun e=>by have e:k=wa.heap.size:=e;have:=hk.2.2.1;omega⟩),kM wa _ _,Na (kg wa _) (ia (Below.refl _ _) _),by show wa.heap.size + 1 ≠ wa.heap.size;omega,Nat.le_succ_of_le CT.out.size,CT.out.size⟩)
   ·skip
    refine Dn (w1:=?_) (v:=?_) (by rfl) rfl ?_ ?_;rotate_left 2
    ·go_simp
     constructor
     ·rfl
     ·rfl
    refine hK.out _ _ ⟨(ja (Na (Na nE.out (ia (Below.refl _ _) _)) (ia (Below.refl _ _) _)) 0).trans rfl,(ja (Na (Na nE.out (ia (Below.refl _ _) _)) (ia (Below.refl _ _) _)) 1).trans rfl,(ja (Na (Na nE.out (ia (Below.refl _ _) _)) (ia (Below.refl _ _) _)) 3).trans rfl⟩ (fun hHeld=>?_);clear hK K;refine Be (a':=?_) ?_ ?_;rotate_left
    ·show Act.put _ (some 5) _=_
     exact WaJ
    refine Gi (i:=3) (N:=some 20) #[true,true,true,true,true,true,true,true,false,true,false,false,true,false] rfl rfl (by kernel_rfl) (by decide) (fun K hK=>?_);refine Kd.Hf (Kd.int .i64) (w0:=wd) wd.heap.size (by rfl) (.tmp 17) (.tmp 19) 22 3 (.int .i64 0) 8 rfl Try.underlying22 info3 rfl (by decide) (by omega) (.slice (some ⟨wd.heap.size,0,none⟩) 0 0) [] Ua yb _ zb (fun k=>k ≠ wd.heap.size + 1) (fun _=>False) rfl rfl (Kd.yc (Kd.Xa (zF (Nat.le_refl _) 3) _) (fun k e=>by have e:k=wd.heap.size:=e;omega)) (Kd.Kb (Kd.Kb ij.out HBd.out) (show Below _ wd ((wd.alloc (.cells #[] 3 (0,0))).alloc (.cells #[.pointer none] 104 (0,0))) from by exact (ia (ia (Below.refl wd.heap.size wd) _) _))) (fun _ _ h=>h) (fun _ hk=>hk.elim) (fun k hk=>by have hk:_ ≤ k:=hk;simp at hk;omega) (ia (ia (Below.refl _ _) _) _) (ia (ia (Below.refl wd.heap.size wd) _) _).size HLL.out ?_;intro v20 wa ho hb hg hat;rw [List.nil_append] at ho;obtain ⟨uC,Tp,rfl⟩:=Kd.Lc ho;have HOa:=aa.mk (Kd.Xf ho);have CT:=aa.mk hb;have QA:=aa.mk (Na nE.out hb)
    have HPa:=aa.mk (show wa.heap[wd.heap.size + 1]? = some (.cells #[.pointer none] 104 (0,0)) from by
     have h:=kg (wd.alloc (.cells #[] 3 (0,0))) (.cells #[.pointer none] 104 (0,0));have hz:(wd.alloc (.cells #[] 3 (0,0))).heap.size=wd.heap.size + 1:=by simp
     rw [hz] at h
     exact Mc h hg (fun e=>by simp [Value.ownBlock] at e))
    have HZa:=aa.mk (show wd.heap.size + 2 ≤ wa.heap.size from by have:=hg.size;simp at this;omega);clear ho hb hg hat;refine hK.out _ _ ⟨(ja QA.out 0).trans rfl,(ja QA.out 1).trans rfl,(ja QA.out 3).trans rfl⟩ (fun hHeld=>?_);clear hK K;refine Be (a':=?_) ?_ ?_;rotate_left
    ·show Act.put _ (some 20) _=_
     exact WaJ
    refine ec (i:=8) (N:=some 25) (v:=?_) (a':=?_) #[true,true,true,true,true,true,true,true,true,true,false,false,true,false] rfl rfl (by kernel_rfl) (fun _ _ _ h=>h) (Or.inl ⟨by rfl,?_⟩) ?_ ?_;rotate_left
    ·exact XaJ
    rotate_left
    ·exact WaJ
    refine ec (i:=10) (N:=some 27) (v:=?_) (a':=?_) #[true,true,true,true,true,true,true,true,true,true,true,false,true,false] rfl rfl (by kernel_rfl) (fun _ _ _ h=>h) (Or.inl ⟨by rfl,?_⟩) ?_ ?_;rotate_left
    ·exact XaJ
    rotate_left
    ·exact WaJ
    refine Gi (i:=11) (N:=some 28) #[true,true,true,true,true,true,true,true,true,true,true,true,true,false] rfl rfl (by kernel_rfl) (by decide) (fun K hK=>?_);refine Dn (w1:=?_) (v:=?_) (by rfl) rfl ?_ ?_;rotate_left 2
    ·go_simp
     constructor
     ·rfl
     ·rfl
    refine hK.out _ _ ⟨(ja (Na QA.out (ia (Below.refl _ _) _)) 0).trans rfl,(ja (Na QA.out (ia (Below.refl _ _) _)) 1).trans rfl,(ja (Na QA.out (ia (Below.refl _ _) _)) 3).trans rfl⟩ (fun hHeld=>?_);clear hK K;refine Be (a':=?_) ?_ ?_;rotate_left
    ·show Act.put _ (some 28) _=_
     exact WaJ
    exact Be JaK (ur (wd.heap.size,.slice uC Ua.length Tp,wa.heap.size,wd.heap.size + 1) _ ⟨ia CT.out _,Kd.yc (Kd.Xa HOa.out _) (fun k hk=>⟨fun e=>by have e:k=wa.heap.size:=e;have:=hk.2.2.1;omega,hk.1⟩),kg wa _,Na HPa.out (ia (Below.refl _ _) _),by have:=HZa.out;show wa.heap.size ≠ wd.heap.size + 1;omega,CT.out.size,Nat.le_succ _⟩)
  ·skip
   refine Dn (w1:=?_) (v:=?_) (by rfl) rfl ?_ ?_;rotate_left 2
   ·go_simp
    constructor
    ·rfl
    ·rfl
   refine hK.out _ _ ⟨(ja (Na nE.out (ia (Below.refl _ _) _)) 0).trans rfl,(ja (Na nE.out (ia (Below.refl _ _) _)) 1).trans rfl,(ja (Na nE.out (ia (Below.refl _ _) _)) 3).trans rfl⟩ (fun hHeld=>?_);clear hK K;refine Be (a':=?_) ?_ ?_;rotate_left
   ·show Act.put _ (some 5) _=_
    exact WaJ
   refine Gi (i:=0) (N:=some 17) #[true,true,true,false,true,true,true,true,false,true,false,false,true,false] rfl rfl (by kernel_rfl) (by decide) (fun K hK=>?_);refine Dn (w1:=?_) (v:=?_) (by rfl) rfl ?_ ?_;rotate_left 2
   ·go_simp
    constructor
    ·rfl
    ·rfl
   refine hK.out _ _ ⟨(ja (Na (Na nE.out (ia (Below.refl _ _) _)) (ia (Below.refl _ _) _)) 0).trans rfl,(ja (Na (Na nE.out (ia (Below.refl _ _) _)) (ia (Below.refl _ _) _)) 1).trans rfl,(ja (Na (Na nE.out (ia (Below.refl _ _) _)) (ia (Below.refl _ _) _)) 3).trans rfl⟩ (fun hHeld=>?_);clear hK K;refine Be (a':=?_) ?_ ?_;rotate_left
   ·show Act.put _ (some 17) _=_
    exact WaJ
   refine Gi (i:=3) (N:=some 20) #[true,true,true,true,true,true,true,true,false,true,false,false,true,false] rfl rfl (by kernel_rfl) (by decide) (fun K hK=>?_);refine Kd.Hf (Kd.int .i64) (w0:=wd) wd.heap.size (by rfl) (.tmp 17) (.tmp 19) 22 3 (.int .i64 0) 8 rfl Try.underlying22 info3 rfl (by decide) (by omega) (.slice (some ⟨wd.heap.size + 1,0,none⟩) 0 0) [] Ua yb _ zb (fun k=>k ≠ wd.heap.size) (fun _=>False) rfl rfl (Kd.yc (wM (Nat.le_refl _) _ 3) (fun k e=>by have e:k=wd.heap.size + 1:=e;omega)) (Kd.Kb (Kd.Kb ij.out HBd.out) (show Below _ wd ((wd.alloc (.cells #[.pointer none] 104 (0,0))).alloc (.cells #[] 3 (0,0))) from by exact (ia (ia (Below.refl wd.heap.size wd) _) _))) (fun _ _ h=>h) (fun _ hk=>hk.elim) (fun k hk=>by have hk:_ ≤ k:=hk;simp at hk;omega) (ia (ia (Below.refl _ _) _) _) (ia (ia (Below.refl wd.heap.size wd) _) _).size HLL.out ?_;intro v20 wa ho hb hg hat;rw [List.nil_append] at ho;obtain ⟨uC,Tp,rfl⟩:=Kd.Lc ho;have HOa:=aa.mk (Kd.Xf ho);have CT:=aa.mk hb;have QA:=aa.mk (Na nE.out hb)
   have HPa:=aa.mk (show wa.heap[wd.heap.size]? = some (.cells #[.pointer none] 104 (0,0)) from
    Mc (Na (kg wd (.cells #[.pointer none] 104 (0,0))) (ia (Below.refl _ _) _)) hg (fun e=>by simp [Value.ownBlock] at e))
   have HZa:=aa.mk (show wd.heap.size + 2 ≤ wa.heap.size from by have:=hg.size;simp at this;omega);clear ho hb hg hat;refine hK.out _ _ ⟨(ja QA.out 0).trans rfl,(ja QA.out 1).trans rfl,(ja QA.out 3).trans rfl⟩ (fun hHeld=>?_);clear hK K;refine Be (a':=?_) ?_ ?_;rotate_left
   ·show Act.put _ (some 20) _=_
    exact WaJ
   refine ec (i:=8) (N:=some 25) (v:=?_) (a':=?_) #[true,true,true,true,true,true,true,true,true,true,false,false,true,false] rfl rfl (by kernel_rfl) (fun _ _ _ h=>h) (Or.inl ⟨by rfl,?_⟩) ?_ ?_;rotate_left
   ·exact XaJ
   rotate_left
   ·exact WaJ
   refine ec (i:=10) (N:=some 27) (v:=?_) (a':=?_) #[true,true,true,true,true,true,true,true,true,true,true,false,true,false] rfl rfl (by kernel_rfl) (fun _ _ _ h=>h) (Or.inl ⟨by rfl,?_⟩) ?_ ?_;rotate_left
   ·exact XaJ
   rotate_left
   ·exact WaJ
   refine Gi (i:=11) (N:=some 28) #[true,true,true,true,true,true,true,true,true,true,true,true,true,false] rfl rfl (by kernel_rfl) (by decide) (fun K hK=>?_);refine Dn (w1:=?_) (v:=?_) (by rfl) rfl ?_ ?_;rotate_left 2
   ·go_simp
    constructor
    ·rfl
    ·rfl
   refine hK.out _ _ ⟨(ja (Na QA.out (ia (Below.refl _ _) _)) 0).trans rfl,(ja (Na QA.out (ia (Below.refl _ _) _)) 1).trans rfl,(ja (Na QA.out (ia (Below.refl _ _) _)) 3).trans rfl⟩ (fun hHeld=>?_);clear hK K;refine Be (a':=?_) ?_ ?_;rotate_left
   ·show Act.put _ (some 28) _=_
    exact WaJ
   exact Be JaK (ur (wd.heap.size + 1,.slice uC Ua.length Tp,wa.heap.size,wd.heap.size) _ ⟨ia CT.out _,Kd.yc (Kd.Xa HOa.out _) (fun k hk=>⟨fun e=>by have e:k=wa.heap.size:=e;have:=hk.2.2.1;omega,hk.1⟩),kg wa _,Na HPa.out (ia (Below.refl _ _) _),by have:=HZa.out;show wa.heap.size ≠ wd.heap.size;omega,CT.out.size,Nat.le_refl _⟩)
 rintro ⟨s1,vS,gc,q5⟩ W3 ⟨b5,XE,YF,hp3,hne,KC,vP⟩;have hHeld:=(show W3.cell? ⟨w.heap.size,0,none⟩=some (.slice yb Ua.length zb)∧W3.cell? ⟨w.heap.size,1,none⟩=some (.int .i64 Pa)∧W3.cell? ⟨w.heap.size,3,none⟩=some (.int .i64 (n:Int)) from ⟨(ja (Na nE.out b5) 0).trans rfl,(ja (Na nE.out b5) 1).trans rfl,(ja (Na nE.out b5) 3).trans rfl⟩);have VX:=aa.mk b5;have HO3:=aa.mk (show Kd.R (Kd.int .i64) 3 W3 wd.heap.size (fun k=>k ≠ gc∧k ≠ q5) vS Ua from XE);have Q_:=aa.mk (show W3.heap[gc]? = some (.cells #[vS,.int .i64 Pa,.int .i64 (n:Int),.slice none 0 0,.slice A1 l1.length c1] 106 (0,0)) from YF);have HP3:=aa.mk (show W3.heap[q5]? = some (.cells #[.pointer none] 104 (0,0)) from hp3);have HN3:=aa.mk (show gc ≠ q5∧wd.heap.size ≤ gc∧wd.heap.size ≤ q5 from ⟨hne,KC,vP⟩);clear b5 XE YF hp3 hne KC vP;refine Be (a':=?_) ?_ ?_;rotate_left
 ·simp only [qk,Act.put,List.setIfInBounds_toArray,List.set_cons_zero,List.set_cons_succ]
  rfl
 refine aC (i:=13) (N:=none) #[true,true,true,true,true,true,true,true,true,true,true,true,true,true] rfl rfl (by kernel_rfl) (by decide) (fun K hK=>?_);have hfz:=qa HP3.out 0;have hcz:W3.cell? ⟨q5,0,none⟩=some (.pointer none):=(ja HP3.out 0).trans rfl;refine DE (w1:=?_) (by rfl) rfl ?_ ?_;rotate_left
 ·go_simp
  rfl
 refine hK.out _ _ ?_;clear hK K;refine fk (by kernel_rfl) ?_;clear hHeld;have HZd:=aa.mk (show w.heap.size + 2 ≤ wd.heap.size from by have:=Tb HYd.out;omega)
 have HF4:=aa.mk (show CwF w wd.heap.size gc q5 (.cells #[.slice yb Ua.length zb,.int .i64 Pa,.int .i64 Ra,.int .i64 (n:Int),.slice fc Fa.length Qb] 30 (0,0)) (.cells #[.slice none 0 0,.int .i64 0,.int .i64 0,.slice none 0 0] 49 (0,0)) (.cells #[vS,.int .i64 Pa,.int .i64 (n:Int),.slice none 0 0,.slice A1 l1.length c1] 106 (0,0)) vS Ua (W3.setCell ⟨q5,0,none⟩ (.pointer (some ⟨gc,0,none⟩))) from by
  have hk:Kept W3 (W3.setCell ⟨q5,0,none⟩ (.pointer (some ⟨gc,0,none⟩))) (fun k=>k=q5):=(Kept.refl W3 (fun k=>k=q5)).setCell (p:=⟨q5,0,none⟩) (Or.inl rfl) _;have h1:=HN3.out;have h2:=HZd.out
  exact ⟨(Ma HBd.out VX.out).setCell (show w.heap.size ≤ q5 by omega) _,Sd (Na nE.out VX.out) hk (by omega),Sd (Na HYd.out VX.out) hk (by omega),(yp HP3.out 0 _).trans rfl,Sd Q_.out hk h1.1,Kd.Kh HO3.out hk (fun k hk2 e=>hk2.2 e),h1.1,by omega,by omega⟩)
 generalize W3.setCell ⟨q5,0,none⟩ (.pointer (some ⟨gc,0,none⟩))=w4 at HF4 ⊢;clear HBd nE HYd VX HO3 Q_ HP3 HN3
 go_upto_region 2 with (fail)
 have xY:=aa.mk (HF4.out.below (Jh (Below.refl w4.heap.size w4)));clear HF4
 have HLV:=aa.mk (show Im.f Ua Pa Ra (n:Int) Fa=some (Qm Fa n) by
  unfold Im.f
  rw [if_pos ⟨by omega,by rw [Int.toNat_natCast];exact HO.out.lv⟩,Int.toNat_natCast])
 have hrw:Zf (Qm Fa n) 0=Pm Fa n 0:=TT hm0;obtain ⟨kl,RM⟩:=Ev.rounds (US HO.out.lv hm0 (Qm Fa n) (mB Fa n) (by rw [hrw];exact Em _ _ _) Ua Pa Ra (n:Int));rw [hrw,show UE (Ia Fa ((0:Nat):Int)) (Pm Fa n 0)=wh Fa n from rfl,show ((0:Nat):Int)=0 from rfl] at RM;have hin:(wh Fa n).length=n:=by unfold wh;rw [ew,Em]
 obtain ⟨ko,hko⟩:=Ev.rounds (UN (wh Fa n) (by rw [hin];exact hn));have HKL:=aa.mk RM;have HKO:=aa.mk hko;have HIN:=aa.mk hin;clear hrw RM hko hin;refine Gh (n:=7) (S:=fun w'=>w'.cell? ⟨w.heap.size,0,none⟩=some (.slice yb Ua.length zb)∧w'.cell? ⟨w.heap.size,1,none⟩=some (.int .i64 Pa)∧w'.cell? ⟨w.heap.size,2,none⟩=some (.int .i64 Ra)∧w'.cell? ⟨w.heap.size,3,none⟩=some (.int .i64 (n:Int))∧w'.cell? ⟨w.heap.size,4,none⟩=some (.slice fc Fa.length Qb)) (ds:=[]) #[false,false,false,false,false,false,false] (by kernel_rfl) rfl rfl ⟨(ja xY.out.hx 0).trans rfl,(ja xY.out.hx 1).trans rfl,(ja xY.out.hx 2).trans rfl,(ja xY.out.hx 3).trans rfl,(ja xY.out.hx 4).trans rfl⟩ (fun hHeld=>?_);generalize w4.drew=we at xY hHeld ⊢;refine ec (i:=6) (N:=some 35) (v:=?_) (a':=?_) #[false,false,false,false,false,false,true] rfl rfl (by kernel_rfl) (fun _ _ _ h=>h) (Or.inl ⟨by rfl,?_⟩) ?_ ?_;rotate_left
 ·exact XaJ
 rotate_left
 ·exact WaJ
 refine Pe (i:=0) (N:=some 29) (v:=?_) (a':=?_) #[true,false,false,false,false,false,true] rfl rfl (by kernel_rfl) (fun _ _ _ h=>h) (Or.inl ⟨by rfl,?_⟩) hHeld ?_ ?_;rotate_left
 ·exact daK
 rotate_left
 ·exact WaJ
 refine Pe (i:=1) (N:=some 30) (v:=?_) (a':=?_) #[true,true,false,false,false,false,true] rfl rfl (by kernel_rfl) (fun _ _ _ h=>h) (Or.inl ⟨by rfl,?_⟩) hHeld ?_ ?_;rotate_left
 ·exact daK
 rotate_left
 ·exact WaJ
 refine Gi (i:=2) (N:=some 31) #[true,true,true,false,false,false,true] rfl rfl (by kernel_rfl) (by decide) (fun K hK=>?_);refine Hj Try.func47 (by kernel_rfl) rfl #[.agg #[.slice yb Ua.length zb,.int .i64 Pa,.int .i64 Ra,.int .i64 (n:Int),.slice fc Fa.length Qb]] (by rfl) rfl rfl XaK ?_;with_reducible refine (Im.calls yb zb Ua Pa Ra (n:Int) fc Qb Fa (Qm Fa n) we (Kd.Kb ij.out xY.out.bw) D6.out (Kd.Kb zT.out xY.out.bw) uY.out HLV.out).mono ?_
 rintro e w5 ⟨v5,rfl,ho,hb⟩;refine ⟨_,rfl,?_⟩;obtain ⟨A5,c5,rfl⟩:=Kd.yu ho;have z_:=aa.mk ho;have G6:=aa.mk (xY.out.below hb);clear ho hb;refine hK.out _ _ ⟨(ja G6.out.hx 0).trans rfl,(ja G6.out.hx 1).trans rfl,(ja G6.out.hx 2).trans rfl,(ja G6.out.hx 3).trans rfl,(ja G6.out.hx 4).trans rfl⟩ (fun hHeld=>?_);clear hK K;refine Be (a':=?_) ?_ ?_;rotate_left
 ·show Act.put _ (some 31) _=_
  exact WaJ
 refine Gi (i:=3) (N:=some 32) #[true,true,true,true,false,false,true] rfl rfl (by kernel_rfl) (by decide) (fun K hK=>?_);refine Hj Try.func49 (by kernel_rfl) rfl #[.agg #[.slice yb Ua.length zb,.int .i64 Pa,.int .i64 Ra,.int .i64 (n:Int),.slice fc Fa.length Qb],.slice A5 (Qm Fa n).length c5,.int .i64 0] (by rfl) rfl rfl XaK ?_;with_reducible refine (yg.calls kl yb zb Ua Pa Ra (n:Int) fc Qb Fa A5 c5 (Qm Fa n) 0 (wh Fa n) w5 (Kd.Kb ij.out G6.out.bw) D6.out (Kd.Kb zT.out G6.out.bw) uY.out (Kd.Yi z_.out).2.2 (Kd.Yi z_.out).2.1 HKL.out).mono ?_
 rintro e w6 ⟨v6,rfl,ho,hb⟩;refine ⟨_,rfl,?_⟩;obtain ⟨A6,c6,rfl⟩:=Kd.Lc ho;have HR6:=aa.mk ho;have O_:=aa.mk (G6.out.below hb);clear ho hb;refine hK.out _ _ ⟨(ja O_.out.hx 0).trans rfl,(ja O_.out.hx 1).trans rfl,(ja O_.out.hx 2).trans rfl,(ja O_.out.hx 3).trans rfl,(ja O_.out.hx 4).trans rfl⟩ (fun hHeld=>?_);clear hK K;refine Be (a':=?_) ?_ ?_;rotate_left
 ·show Act.put _ (some 32) _=_
  exact WaJ
 refine Gi (i:=4) (N:=some 33) #[true,true,true,true,true,false,true] rfl rfl (by kernel_rfl) (by decide) (fun K hK=>?_);refine Hj Try.func48 (by kernel_rfl) rfl #[.slice A6 (wh Fa n).length c6] (by rfl) rfl rfl XaK ?_;with_reducible refine (bf.calls ko A6 c6 (wh Fa n) (Yc (wh Fa n) (wh Fa n).length) w6 (Kd.Jb HR6.out).2.2 (Kd.Jb HR6.out).2.1 HKO.out).mono ?_
 rintro e w7 ⟨v7,rfl,ho,hb⟩;refine ⟨_,rfl,?_⟩;obtain ⟨A7,c7,rfl⟩:=Kd.Lc ho;have HR7:=aa.mk (Kd.Xf ho);have SB:=aa.mk (O_.out.below hb);clear ho hb;refine hK.out _ _ ⟨(ja SB.out.hx 0).trans rfl,(ja SB.out.hx 1).trans rfl,(ja SB.out.hx 2).trans rfl,(ja SB.out.hx 3).trans rfl,(ja SB.out.hx 4).trans rfl⟩ (fun hHeld=>?_);clear hK K;refine Be (a':=?_) ?_ ?_;rotate_left
 ·show Act.put _ (some 33) _=_
  exact WaJ
 refine ec (i:=5) (N:=some 34) (v:=?_) (a':=?_) #[true,true,true,true,true,true,true] rfl rfl (by kernel_rfl) (fun _ _ _ h=>h) (Or.inl ⟨by rfl,?_⟩) ?_ ?_;rotate_left
 ·exact XaJ
 rotate_left
 ·exact WaJ
 refine fk (by kernel_rfl) ?_;have SaA:=aa.mk (Tb O_.out.hc);clear hHeld z_ HR6 G6 O_ xY HKL HKO HLV;have DaA:=kB (wh Fa n) (wh Fa n).length
 have HNT:=aa.mk (show ∀ z ∈ Yc (wh Fa n) (wh Fa n).length,0 ≤ z∧z < (n:Int) from fun z hz=>by
  obtain ⟨a,h1,h2⟩:=nS hz;have:=HIN.out
  omega)
 have HHD:=aa.mk (show Yc (wh Fa n) (wh Fa n).length=Yc (wh Fa n) n by rw [HIN.out]);have hLn:(Yc (wh Fa n) (wh Fa n).length).length ≤ 1048576:=by have:=HIN.out;omega
 clear DaA HIN;have Yad:=aa.mk (show ∃ PC:Nat→Prop,VA w.heap.size gc vS (.slice A1 l1.length c1) Pa (n:Int) PC (ud l1 ((Yc (wh Fa n) (wh Fa n).length).take 0)) w7∧∀ k,PC k→w7.heap.size ≤ k from ⟨fun _=>False,⟨⟨.slice none 0 0,SB.out.hc,Kd.Qv _ _ _ _ _⟩,fun _ h=>h.elim,by have:=SB.out.ne;omega⟩,fun _ h=>h.elim⟩);have HSZ:=aa.mk (show ∀ L2:List Int,L2.length ≤ 1048576→(ud l1 L2).length ≤ 1048576 from fun L2 h=>Nat.le_trans (VG l1 L2) h);generalize Yc (wh Fa n) (wh Fa n).length=L at HR7 HNT HHD hLn Yad ⊢;have HLR:=aa.mk (show ∀ W,Kept w7 W (fun k=>k=gc)→Kd.C (Kd.int .i64) W A7 L.length L from fun W hk=>(Kd.Jb (Kd.Kh HR7.out hk (fun k hk2 e=>by have:=hk2.2.1;have:=SaA.out;omega))).2.2);go_wp2
 go_loopg [35] L.length (fun gg v35 wr=>∃ (i:Nat),v35 = .int .i64 i∧i ≤ L.length∧L.length - i ≤ gg∧aa (∃ PC:Nat→Prop,VA w.heap.size gc vS (.slice A1 l1.length c1) Pa (n:Int) PC (ud l1 (L.take i)) wr∧∀ k,PC k→w7.heap.size ≤ k)∧aa (Kept w7 wr (fun k=>k=gc))∧aa (Below 0 w7 wr))
 case atStart=>exact ⟨0,rfl,Nat.zero_le _,by omega,Yad,⟨Kept.refl _ _⟩,⟨Below.refl _ _⟩⟩
 case round =>
  clear Yad;(try clear K6);(try clear HK);(try clear HZ);obtain ⟨i,rfl,hi,hgg,K6,HK,HZ⟩:=hrel
  by_cases hli:i < L.length
  ·have Cag:decide ((i:Int) < (L.length:Int))=true:=decide_eq_true (by omega);have i1:0 ≤ (i:Int):=by omega
   have i2:(i:Int) < (L.length:Int):=by omega
   obtain ⟨ad,e1,Qp⟩:=PE (HLR.out wr HK.out) hli;subst e1;obtain ⟨z0,z1⟩:=HNT.out L[i] (List.getElem_mem hli);obtain ⟨z,hz⟩:∃ z:Nat,L[i]=(z:Int):=⟨L[i].toNat,(Int.toNat_of_nonneg z0).symm⟩;rw [hz] at Qp z0 z1;have hzl:z < l1.length:=by have:=HCN.out;omega
   have daB:=aa.mk (vu SB.out.bw SB.out.bw.size HK.out (fun k e=>by have:=SB.out.ne;omega) HZ.out);obtain ⟨ac,e2,My⟩:=PE (Kd.Kb pE.out daB.out) hzl;rw [← vm hzl] at My;have z2:(z:Int) < (l1.length:Int):=by omega
   have HHS:=aa.mk (show ud l1 (L.take (i + 1))=ud l1 (L.take i) ++ (if rd l1 (z:Int) ≥ 0 then [⟨1,4 + rd l1 (z:Int),0,0,(z:Int)⟩] else []) from by
    unfold ud;rw [List.take_succ_eq_append_getElem hli,List.flatMap_append,hz]
    simp)
   have GaA:=aa.mk (HO.out.le z hzl);have HPx:=aa.mk (Sd SB.out.hp HK.out (fun e=>SB.out.ne.1 e.symm));clear hz z1
   by_cases h0:rd l1 (z:Int) ≥ 0
   ·have h0b:decide (rd l1 (z:Int) ≥ 0)=true:=decide_eq_true h0;have b6:=aa.mk (YA h0 GaA.out);have MO:=HHS.out;rw [if_pos h0] at MO;have HHT:=aa.mk MO;clear HHS MO h0
    go_upto_region 6 with (fail)
    have HKd:=aa.mk (HK.out.below (Jh (Below.refl wr.heap.size wr)));have pam:=aa.mk (HZ.out.trans (ql (Jh (Below.refl wr.heap.size wr))));have HPd:=aa.mk (Ba HPx.out);obtain ⟨PC,hcd,hpc⟩:=K6.out;have P_:=aa.mk (hcd.below (Jh (Below.refl wr.heap.size wr)));have HPC:=aa.mk hpc;have Zad:=aa.mk (show wr.drew.cell? (ac.add z)=some (.int .i64 (rd l1 (z:Int))) from My);clear hcd hpc My Qp K6 HK HZ HPx;refine Gh (n:=10) (S:=fun w'=>w'.cell? ⟨q5,0,none⟩=some (.pointer (some ⟨gc,0,none⟩))∧w'.cell? (ac.add z)=some (.int .i64 (rd l1 (z:Int)))) (ds:=[9]) #[false,false,false,false,false,false,false,false,false,false] (by kernel_rfl) rfl rfl ⟨(ja HPd.out 0).trans rfl,Zad.out⟩ (fun hHeld=>?_);generalize wr.drew=wx at HKd pam HPd P_ Zad hHeld ⊢;refine ec (i:=1) (N:=some 45) (v:=?_) (a':=?_) #[false,true,false,false,false,false,false,false,false,false] rfl rfl (by kernel_rfl) (fun _ _ _ h=>h) (Or.inl ⟨by rfl,?_⟩) ?_ ?_;rotate_left
    ·exact XaJ
    rotate_left
    ·exact WaJ
    refine ec (i:=2) (N:=some 46) (v:=?_) (a':=?_) #[false,true,true,false,false,false,false,false,false,false] rfl rfl (by kernel_rfl) (fun _ _ _ h=>h) (Or.inl ⟨by rfl,?_⟩) ?_ ?_;rotate_left
    ·exact XaJ
    rotate_left
    ·exact WaJ
    refine ec (i:=3) (N:=some 47) (v:=?_) (a':=?_) #[false,true,true,true,false,false,false,false,false,false] rfl rfl (by kernel_rfl) (fun _ _ _ h=>h) (Or.inl ⟨by rfl,?_⟩) ?_ ?_;rotate_left
    ·exact XaJ
    rotate_left
    ·exact WaJ
    refine ec (i:=6) (N:=some 50) (v:=?_) (a':=?_) #[false,true,true,true,false,false,true,false,false,false] rfl rfl (by kernel_rfl) (fun _ _ _ h=>h) (Or.inl ⟨by rfl,?_⟩) ?_ ?_;rotate_left
    ·exact XaJ
    rotate_left
    ·exact WaJ
    refine Pe (i:=0) (N:=some 44) (v:=?_) (a':=?_) #[true,true,true,true,false,false,true,false,false,false] rfl rfl (by kernel_rfl) (fun _ _ _ h=>h) (Or.inl ⟨by rfl,?_⟩) hHeld ?_ ?_;rotate_left
    ·rintro w' ⟨s0,s1⟩;go_simp;with_reducible rfl
    rotate_left
    ·exact WaJ
    refine Pe (i:=4) (N:=some 48) (v:=?_) (a':=?_) #[true,true,true,true,true,false,true,false,false,false] rfl rfl (by kernel_rfl) (fun _ _ _ h=>h) (Or.inl ⟨by rfl,?_⟩) hHeld ?_ ?_;rotate_left
    ·rintro w' ⟨s0,s1⟩;go_simp;with_reducible rfl
    rotate_left
    ·exact WaJ
    refine ec (i:=5) (N:=some 49) (v:=?_) (a':=?_) #[true,true,true,true,true,true,true,false,false,false] rfl rfl (by kernel_rfl) (fun _ _ _ h=>h) (Or.inl ⟨by rfl,?_⟩) ?_ ?_;rotate_left
    ·exact XaJ
    rotate_left
    ·exact WaJ
    refine ec (i:=7) (N:=some 51) (v:=?_) (a':=?_) #[true,true,true,true,true,true,true,true,false,false] rfl rfl (by kernel_rfl) (fun _ _ _ h=>h) (Or.inl ⟨by rfl,?_⟩) ?_ ?_;rotate_left
    ·exact XaJ
    rotate_left
    ·exact WaJ
    refine Gi (i:=8) (N:=some 52) #[true,true,true,true,true,true,true,true,true,false] rfl rfl (by kernel_rfl) (by decide) (fun K hK=>?_);refine Dn (w1:=?_) (v:=?_) (by rfl) rfl ?_ ?_;rotate_left 2
    ·go_simp
     constructor
     ·rfl
     ·rfl
    refine hK.out _ _ ⟨(ja (Na HPd.out (ia (Below.refl _ _) _)) 0).trans rfl,Xh Zad.out (Kept.xj (ia (Below.refl wx.heap.size wx) _) (fun _=>False)) id⟩ (fun hHeld=>?_);clear hK K;refine Be (a':=?_) ?_ ?_;rotate_left
    ·show Act.put _ (some 52) _=_
     exact WaJ
    refine aC (i:=9) (N:=some 53) #[true,true,true,true,true,true,true,true,true,true] rfl rfl (by kernel_rfl) (by decide) (fun K hK=>?_);refine Hj Try.func91 (by kernel_rfl) rfl #[.pointer (some ⟨gc,0,none⟩),.slice (some ⟨wx.heap.size,0,none⟩) 1 1] (by rfl) rfl rfl XaK ?_;with_reducible refine (Ns (⟨1,wrap64 (4 + rd l1 (z:Int)),0,0,(z:Int)⟩:Zb) wx.heap.size 1 (P_.out.below (ia (Below.refl wx.heap.size wx) _)) (kg wx _) (Nat.le_refl _) (by have:=HSZ.out (L.take i) (by rw [List.length_take];omega);omega)).mono ?_
    rintro e w8 ⟨rfl,hh⟩;refine ⟨_,rfl,?_⟩;have HE8:=aa.mk (hh.below (ia (Below.refl wx.heap.size wx) _));clear hh;refine hK.out _ _ ?_;clear hK K;refine Be (a':=?_) ?_ ?_;rotate_left
    ·show Act.put _ (some 53) _=_
     exact WaJ
    refine fk (by kernel_rfl) ?_;clear hHeld
    have UX:=aa.mk (show ∃ PC:Nat→Prop,VA w.heap.size gc vS (.slice A1 l1.length c1) Pa (n:Int) PC (ud l1 (L.take (i + 1))) w8∧∀ k,PC k→w7.heap.size ≤ k from by
     obtain ⟨BF,q1,q2⟩:=HE8.out.c
     refine ⟨BF,by rw [HHT.out,← b6.out];exact q1,fun k hk=>(q2 k hk).elim (HPC.out k) (fun e=>Nat.le_trans HKd.out.1 e)⟩)
    have HK8:=aa.mk (show Kept w7 w8 (fun k=>k=gc) from HKd.out.Gj HE8.out.k (fun k e=>e.elim Or.inl (fun e=>Or.inr (HPC.out k e))));have HZ8:=aa.mk (pam.out.trans HE8.out.b);go_wp2
    go_roundg (L.length - (i + 1))
    case measure=>omega
    case rel=>exact ⟨i + 1,by go_num,by omega,by omega,UX,HK8,HZ8⟩
   ·have h0b:decide (rd l1 (z:Int) ≥ 0)=false:=decide_eq_false h0;have MO:=HHS.out;rw [if_neg h0,List.append_nil] at MO;have UX:=K6.out;rw [← MO] at UX;have aaB:=aa.mk UX;clear HHS MO h0 UX;go_wp2
    go_roundg (L.length - (i + 1))
    case measure=>omega
    case rel=>exact ⟨i + 1,by go_num,by omega,by omega,aaB,HK,HZ⟩
  ·have Cag:decide ((i:Int) < (L.length:Int))=false:=decide_eq_false (by omega);obtain rfl:i=L.length:=by omega
   have J6:=K6.out;rw [List.take_length] at J6;have HC9:=aa.mk J6;clear J6 K6;have C6:=aa.mk (vu SB.out.bw SB.out.bw.size HK.out (fun k e=>by have:=SB.out.ne;omega) HZ.out);have HX8:=aa.mk (Sd SB.out.hx HK.out (fun e=>by have:=SB.out.ne;omega));have HY8:=aa.mk (Sd SB.out.hy HK.out (fun e=>by have:=SB.out.ne;omega));have HP8:=aa.mk (Sd SB.out.hp HK.out (fun e=>SB.out.ne.1 e.symm));have HS8:=aa.mk (Kd.Kh (Kd.Xf SB.out.ho) HK.out (fun k hk e=>hk.1.1 e));have qam:=aa.mk HK.out.1;have ian:=aa.mk (Tb SB.out.hc);have Ham:=aa.mk (Tb SB.out.hp);have HNE:=aa.mk SB.out.ne;have HYL:=aa.mk (Tb SB.out.hy);clear HK HZ SB HLR HR7 HNT
   go_upto_region 11 with (fail)
   have HI9:=aa.mk (show ∃ Fx:Nat→Prop,Dp w.heap.size gc (wr.heap.size + 2) q5 Fx vS (.slice A1 l1.length c1) Pa (n:Int) (ud l1 L) [] [] (.slice (some ⟨wr.heap.size,0,none⟩) 0 0) (((wr.alloc (.cells #[] 3 (0,0))).alloc (.cells #[] 3 (0,0))).alloc (.cells #[.slice (some ⟨wr.heap.size + 1,0,none⟩) 0 0] 22 (0,0))) (((wr.alloc (.cells #[] 3 (0,0))).alloc (.cells #[] 3 (0,0))).alloc (.cells #[.slice (some ⟨wr.heap.size + 1,0,none⟩) 0 0] 22 (0,0)))∧(∀ k,¬ Fx k→w.heap.size < k∧k ≠ w.heap.size + 1)∧Below w.heap.size w (((wr.alloc (.cells #[] 3 (0,0))).alloc (.cells #[] 3 (0,0))).alloc (.cells #[.slice (some ⟨wr.heap.size + 1,0,none⟩) 0 0] 22 (0,0)))∧(((wr.alloc (.cells #[] 3 (0,0))).alloc (.cells #[] 3 (0,0))).alloc (.cells #[.slice (some ⟨wr.heap.size + 1,0,none⟩) 0 0] 22 (0,0))).heap[w.heap.size]? = some (.cells #[.slice yb Ua.length zb,.int .i64 Pa,.int .i64 Ra,.int .i64 (n:Int),.slice fc Fa.length Qb] 30 (0,0))∧(((wr.alloc (.cells #[] 3 (0,0))).alloc (.cells #[] 3 (0,0))).alloc (.cells #[.slice (some ⟨wr.heap.size + 1,0,none⟩) 0 0] 22 (0,0))).heap[w.heap.size + 1]? = some (.cells #[.slice none 0 0,.int .i64 0,.int .i64 0,.slice none 0 0] 49 (0,0))∧(∀ W,Kept (((wr.alloc (.cells #[] 3 (0,0))).alloc (.cells #[] 3 (0,0))).alloc (.cells #[.slice (some ⟨wr.heap.size + 1,0,none⟩) 0 0] 22 (0,0))) W (fun k=>¬ Fx k)→Kd.R (Kd.int .i64) 3 W wd.heap.size (fun k=>Fx k) vS Ua) from by
    obtain ⟨PC,hcd,hpc⟩:=HC9.out;have e1:=ia (Below.refl wr.heap.size wr) (.cells #[] 3 (0,0));have r1:=zF (W:=wr) (base:=w.heap.size) (by have:=C6.out.size;omega) 3;have r2:=wM (W:=wr) (base:=w.heap.size) (by have:=C6.out.size;omega) (.cells #[] 3 (0,0)) 3;have z1:(wr.alloc (.cells #[] 3 (0,0))).heap.size=wr.heap.size + 1:=by simp
    generalize wr.alloc (.cells #[] 3 (0,0))=u1 at e1 r1 r2 z1 ⊢;have e2:=ia (Below.refl u1.heap.size u1) (.cells #[] 3 (0,0));have z2:(u1.alloc (.cells #[] 3 (0,0))).heap.size=wr.heap.size + 2:=by simp [z1]
    generalize u1.alloc (.cells #[] 3 (0,0))=u2 at e2 r2 z2 ⊢;have e3:=ia (Below.refl u2.heap.size u2) (.cells #[.slice (some ⟨wr.heap.size + 1,0,none⟩) 0 0] 22 (0,0));have b3:=kg u2 (.cells #[.slice (some ⟨wr.heap.size + 1,0,none⟩) 0 0] 22 (0,0));rw [z2] at b3;have z3:(u2.alloc (.cells #[.slice (some ⟨wr.heap.size + 1,0,none⟩) 0 0] 22 (0,0))).heap.size=wr.heap.size + 3:=by simp [z2]
    have r3:=Kd.Yb r2 e3;have r4:=Kd.Yb (Kd.Yb r1 e2) e3;generalize u2.alloc (.cells #[.slice (some ⟨wr.heap.size + 1,0,none⟩) 0 0] 22 (0,0))=u3 at e3 b3 z3 r3 r4 ⊢;have h7:=qam.out;have hg7:=ian.out;have hq7:=Ham.out;have hne:=HNE.out;have hyl:=HYL.out;have hlt:=hcd.pb;have bb:Below wr.heap.size wr u3:=Ma (Ma e1 e2) e3;refine ⟨fun k=>k < w7.heap.size∧k ≠ gc,⟨⟨PC,fun k=>k=wr.heap.size + 1,_,((hcd.below e1).below e2).below e3,b3,r3,Kd.yc r4 (fun k hk=>?_),fun k hk=>?_,fun k hk=>?_⟩,Kept.refl _ _,Below.refl _ _,⟨fun e=>e.2 rfl,fun e=>by omega,by omega,by omega⟩,⟨⟨hq7,fun e=>hne.1 e.symm⟩,Na HP8.out bb⟩,fun k hk=>by omega⟩,fun k hk=>?_,Ma C6.out bb,Na HX8.out bb,Na HY8.out bb,fun W hk=>?_⟩
    ·have hk:k=wr.heap.size:=hk;exact ⟨fun e=>by have:=(hlt k e).2.1;omega,by omega,by omega,by omega,by omega⟩
    ·have h1:=(hlt k hk).2.1;have h2:=hpc k hk;exact ⟨by omega,by omega,by omega⟩
    ·have hk:k=wr.heap.size + 1:=hk;exact ⟨by omega,by omega,by omega,by omega,by omega⟩
    ·omega
    ·have hs:=Kd.Yb HS8.out bb;refine Kd.yc (Kd.Kh hs hk (fun k hk e=>e ⟨?_,hk.1.1⟩)) (fun k hk=>⟨?_,hk.1.1⟩)
     ·exact hk.2.2.1
     ·exact hk.2.2.1)
   generalize wr.heap.size=nb at HI9 ⊢;generalize (Value.slice (some ⟨nb,0,none⟩) 0 0)=vB0 at HI9 ⊢;generalize nb + 2=qj at HI9 ⊢;generalize (((wr.alloc (.cells #[] 3 (0,0))).alloc (.cells #[] 3 (0,0))).alloc (.cells #[.slice (some ⟨nb + 1,0,none⟩) 0 0] 22 (0,0)))=w9 at HI9 ⊢;obtain ⟨Fx,hi9,hfx,hb9,hx9,hy9,hs9⟩:=HI9.out;have HFX:=aa.mk hfx;have EM:=aa.mk hb9;have HX9:=aa.mk hx9;have HY9:=aa.mk hy9;have HS9:=aa.mk hs9;have TR:=aa.mk (show ∀ k,¬ Fx k→w.heap.size ≤ k from fun k hk=>Nat.le_of_lt (hfx k hk).1);have HFG:=aa.mk (show Fx w.heap.size∧Fx (w.heap.size + 1) from ⟨Classical.byContradiction (fun e=>by have:=(hfx _ e).1;omega),Classical.byContradiction (fun e=>(hfx _ e).2 rfl)⟩);have HCK:=aa.mk (show ∀ W,Kept w9 W (fun k=>¬ Fx k)→Kd.C (Kd.int .i64) W A1 l1.length l1 from fun W hk=>Kd.GM (Kd.oV .i64) pE.out hb9 TR.out W hk);have HHE:=aa.mk (show ud l1 L=(ud l1 (Yc (wh Fa n) n)) from by rw [HHD.out]);have HIL:=aa.mk hi9;rw [HHE.out] at HIL;have HMX:=aa.mk (show ∀ i,i ≤ Fa.length→(Ud l1 (ud l1 (Yc (wh Fa n) n)) Fa i).length ≤ 900000000 from fun i hi=>Nat.le_trans (cM l1 (ud l1 (Yc (wh Fa n) n)) Fa hi) HO.out.sz)
   have HI0:=aa.mk (show Dp w.heap.size gc qj q5 Fx vS (.slice A1 l1.length c1) Pa (n:Int) (Ud l1 (ud l1 (Yc (wh Fa n) n)) Fa 0) (jj (Ud l1 (ud l1 (Yc (wh Fa n) n)) Fa 0)) (Gn l1 (ud l1 (Yc (wh Fa n) n)) Fa 0) vB0 w9 w9 from by
    have h:=HIL.out;rw [show jj (Ud l1 (ud l1 (Yc (wh Fa n) n)) Fa 0)=[] from LG _ (ML _ _) 0]
    exact h)
   clear hi9 hfx hb9 hx9 hy9 hs9 HI9 HIL HHE HHD HSZ HC9 C6 HX8 HY8 HP8 HS8 qam ian Ham HNE HYL hLn Cag hgg hi hli;have Nu:w9.cell? ⟨w.heap.size,4,none⟩=some (.slice fc Fa.length Qb):=(ja HX9.out 4).trans rfl;go_wp2;clear Nu
   go_loopg [8,61] Fa.length (fun gg v8 v61 wr=>∃ (i:Nat),v61 = .int .i64 i∧i ≤ Fa.length∧Fa.length - i ≤ gg∧aa (Dp w.heap.size gc qj q5 Fx vS (.slice A1 l1.length c1) Pa (n:Int) (Ud l1 (ud l1 (Yc (wh Fa n) n)) Fa i) (jj (Ud l1 (ud l1 (Yc (wh Fa n) n)) Fa i)) (Gn l1 (ud l1 (Yc (wh Fa n) n)) Fa i) v8 w9 wr))
   case atStart=>exact ⟨0,rfl,Nat.zero_le _,by omega,HI0⟩
   case round =>
    clear HI0;(try clear HI);obtain ⟨i,rfl,hi,hgg,HI⟩:=hrel
    by_cases hlt:i < Fa.length
    ·have NS:decide ((i:Int) < (Fa.length:Int))=true:=decide_eq_true (by omega);have i1:0 ≤ (i:Int):=by omega
     have i2:(i:Int) < (Fa.length:Int):=by omega
     obtain ⟨ag,Ac,cc,e1,hc0,Qp,dF,YF,Z4,tB,hcC⟩:=Bj zT.out (i:Int) (by omega) (by omega);simp only [Int.toNat_natCast] at hc0 Qp dF YF Z4;have HCC:=aa.mk hcC;have BaI:=aa.mk tB;replace hc0:=Ih hc0 EM.out HI.out.k TR.out;replace Qp:=Ih Qp EM.out HI.out.k TR.out;replace dF:=Ih dF EM.out HI.out.k TR.out;replace YF:=Ih YF EM.out HI.out.k TR.out;replace Z4:=Ih Z4 EM.out HI.out.k TR.out;clear hcC tB;have T_:=aa.mk (lB HO.out.lv hlt);have HBM:=aa.mk (show (Ia Fa (i:Int)) ∈ Fa by rw [ng hlt];exact List.getElem_mem hlt)
     go_upto_region 14 with (fail)
     have HIb:=aa.mk (HI.out.box (o:=(.cells #[.slice Ac (Ia Fa (i:Int)).f0.length cc,.int .i64 (Ia Fa (i:Int)).f1,.int .i64 (Ia Fa (i:Int)).f2,.int .i64 (Ia Fa (i:Int)).f3,.int .i64 (Ia Fa (i:Int)).f4] 59 (0,0))));have Lu:=aa.mk (kg wr (.cells #[.slice Ac (Ia Fa (i:Int)).f0.length cc,.int .i64 (Ia Fa (i:Int)).f1,.int .i64 (Ia Fa (i:Int)).f2,.int .i64 (Ia Fa (i:Int)).f3,.int .i64 (Ia Fa (i:Int)).f4] 59 (0,0)));have nT:=aa.mk (ia (Below.refl wr.heap.size wr) (.cells #[.slice Ac (Ia Fa (i:Int)).f0.length cc,.int .i64 (Ia Fa (i:Int)).f1,.int .i64 (Ia Fa (i:Int)).f2,.int .i64 (Ia Fa (i:Int)).f3,.int .i64 (Ia Fa (i:Int)).f4] 59 (0,0)));generalize wr.alloc (.cells #[.slice Ac (Ia Fa (i:Int)).f0.length cc,.int .i64 (Ia Fa (i:Int)).f1,.int .i64 (Ia Fa (i:Int)).f2,.int .i64 (Ia Fa (i:Int)).f3,.int .i64 (Ia Fa (i:Int)).f4] 59 (0,0))=Ep at HIb Lu nT ⊢;have BK:=aa.mk (show ∀ {vr vL mM Z6 w2},Dp w.heap.size gc qj q5 (fun k=>Fx k ∨ k=wr.heap.size) vS (.slice A1 l1.length c1) Pa (n:Int) vr vL mM Z6 Ep w2→Dp w.heap.size gc qj q5 Fx vS (.slice A1 l1.length c1) Pa (n:Int) vr vL mM Z6 w9 w2 from fun h2=>HI.out.pop nT.out (fun k e=>Or.inl e) h2);have Vam:=aa.mk (BK.out HIb.out).k;clear hc0 Qp dF YF Z4 i1 i2 e1 nT HI;generalize wr.heap.size=IE at HIb Lu BK ⊢;obtain ⟨PC,PJ,vJ,d1,d2,d3,d4,d5,d6⟩:=HIb.out.c;obtain ⟨A8,c8,hv8⟩:=Kd.Lc d4;rw [Pv] at hv8;subst hv8;obtain ⟨vC,hvx,hvr⟩:=d1.hx;obtain ⟨AC,cC,rfl⟩:=Kd.Lc hvr;have h53:Ep.cell? ⟨q5,0,none⟩=some (.pointer (some ⟨gc,0,none⟩)):=(ja HIb.out.p5 0).trans rfl;have wI:Ep.cell? ⟨gc,3,none⟩=some (.slice AC (Ud l1 (ud l1 (Yc (wh Fa n) n)) Fa i).length cC):=(ja hvx 3).trans rfl;have HD:=aa.mk (And.intro d1 (And.intro d2 (And.intro d3 (And.intro d4 (And.intro d5 d6)))));have HBL:=aa.mk (show ((Gn l1 (ud l1 (Yc (wh Fa n) n)) Fa i).length + 1) * 8 ≤ 140737488355328 from by rw [Pv];omega);have HBS:=aa.mk (show w.heap.size ≤ Ep.heap.size from Nat.le_trans d1.bs (Nat.le_of_lt d1.lt));clear d1 d2 d3 d4 d5 d6 hvx hvr
     go_upto_region 15 with (first|((with_reducible refine Za (N:=74) rfl ?_);refine Kd.Ph (Kd.int .i64) (w0:=Ep) w.heap.size rfl (.tmp 66) (.tmp 73) 22 3 (.int .i64 0) 8 rfl Try.underlying22 info3 rfl (by decide) (by omega) _ (Gn l1 (ud l1 (Yc (wh Fa n) n)) Fa i) ((Ud l1 (ud l1 (Yc (wh Fa n) n)) Fa i).length:Int) _ (fun k=>(¬ PC k∧¬ PJ k∧¬ (Fx k ∨ k=IE)∧k ≠ gc∧k ≠ qj) ∨ Ep.heap.size ≤ k) (fun _=>False) rfl rfl rfl (fun _ hk=>hk.elim) (fun _ hk=>Or.inr hk) (Kd.yc HD.out.2.2.2.1 (fun _ hk=>Or.inl hk)) (Below.refl _ _) HBS.out HBL.out ?_;intro HY w74 ho hb hg hat;rw [← dH] at ho;have Xad:=aa.mk (HIb.out.baA HD.out.1 HD.out.2.1 HD.out.2.2.1 HD.out.2.2.2.1 HD.out.2.2.2.2.1 HD.out.2.2.2.2.2 ho hg hb);clear ho hb hg hat h53 wI))
     clear HIb HD HBL HBS;have Gam:=aa.mk (Sd Lu.out Xad.out.k (fun e=>e (Or.inr rfl)));have maz:w74.cell? ⟨IE,0,none⟩=some (.slice Ac (Ia Fa (i:Int)).f0.length cc):=(ja Gam.out 0).trans rfl;have hbl:(Ia Fa (i:Int)).f0.length ≤ 1048576:=T_.out.1;have aan:=aa.mk (show Dp w.heap.size gc qj q5 (fun k=>Fx k ∨ k=IE) vS (.slice A1 l1.length c1) Pa (n:Int) ((Ud l1 (ud l1 (Yc (wh Fa n) n)) Fa i) ++ ((Ia Fa (i:Int)).f0.take 0).flatMap (Bf l1)) (jj (Ud l1 (ud l1 (Yc (wh Fa n) n)) Fa i)) (Gn l1 (ud l1 (Yc (wh Fa n) n)) Fa (i + 1)) HY Ep w74 from by rw [List.take_zero,List.flatMap_nil,List.append_nil];exact Xad.out);clear Xad Gam;go_wp2;clear maz
     go_loopg [78] (Ia Fa (i:Int)).f0.length (fun g3 v78 wr=>∃ (k:Nat),v78 = .int .i64 k∧k ≤ (Ia Fa (i:Int)).f0.length∧(Ia Fa (i:Int)).f0.length - k ≤ g3∧aa (Dp w.heap.size gc qj q5 (fun k=>Fx k ∨ k=IE) vS (.slice A1 l1.length c1) Pa (n:Int) ((Ud l1 (ud l1 (Yc (wh Fa n) n)) Fa i) ++ ((Ia Fa (i:Int)).f0.take k).flatMap (Bf l1)) (jj (Ud l1 (ud l1 (Yc (wh Fa n) n)) Fa i)) (Gn l1 (ud l1 (Yc (wh Fa n) n)) Fa (i + 1)) HY Ep wr))
     case atStart=>exact ⟨0,rfl,Nat.zero_le _,by omega,aan⟩
     case round =>
      clear aan;(try clear HI);obtain ⟨k,rfl,hk,wI,HI⟩:=hrel
      by_cases RM:k < (Ia Fa (i:Int)).f0.length
      ·have hkb:decide ((k:Int) < ((Ia Fa (i:Int)).f0.length:Int))=true:=decide_eq_true (by omega);have p1:0 ≤ (k:Int):=by omega
       have p2:(k:Int) < ((Ia Fa (i:Int)).f0.length:Int):=by omega
       obtain ⟨aI,e6,k0,k1,k2,k3,k4,k5,k6⟩:=Mp HCC.out (k:Int) (by omega) (by omega);simp only [Int.toNat_natCast] at k0 k1 k2 k3 k4 k5 k6;have HIX:=aa.mk (DH T_.out RM);have n6:=aa.mk (HO.out.op _ HBM.out (Ga (Ia Fa (i:Int)).f0 (k:Int)) (by rw [nk RM];exact List.getElem_mem RM));have HNX:=aa.mk (show ((Ud l1 (ud l1 (Yc (wh Fa n) n)) Fa i) ++ ((Ia Fa (i:Int)).f0.take (k + 1)).flatMap (Bf l1))=((Ud l1 (ud l1 (Yc (wh Fa n) n)) Fa i) ++ ((Ia Fa (i:Int)).f0.take k).flatMap (Bf l1)) ++ Bf l1 (Ga (Ia Fa (i:Int)).f0 (k:Int)) from by rw [List.take_succ_eq_append_getElem RM,List.flatMap_append,List.append_assoc,nk RM];simp)
       have HCZ:=aa.mk (show ((Ud l1 (ud l1 (Yc (wh Fa n) n)) Fa i) ++ ((Ia Fa (i:Int)).f0.take k).flatMap (Bf l1)).length + 10 ≤ 1000000000 from by
        have h1:=HMX.out (i + 1) (by omega);rw [jl,List.length_append] at h1;unfold CG at h1
        have h2:(((Ia Fa (i:Int)).f0.take k).flatMap (Bf l1)).length ≤ ((Ia Fa (i:Int)).f0.flatMap (Bf l1)).length:=by
         conv=>rhs;rw [← List.take_append_drop k (Ia Fa (i:Int)).f0,List.flatMap_append,List.length_append]
         omega
        rw [List.length_append] at h1 ⊢
        omega)
       generalize Ga (Ia Fa (i:Int)).f0 (k:Int)=x at k0 k1 k2 k3 k4 k5 k6 HIX n6 HNX;have F_:=aa.mk (BK.out HI.out).k;replace k0:=Ih k0 EM.out F_.out TR.out;replace k1:=Ih k1 EM.out F_.out TR.out;replace k2:=Ih k2 EM.out F_.out TR.out;replace k3:=Ih k3 EM.out F_.out TR.out;replace k4:=Ih k4 EM.out F_.out TR.out;replace k5:=Ih k5 EM.out F_.out TR.out;replace k6:=Ih k6 EM.out F_.out TR.out
       go_upto_region 18 with (fail)
       have HIx:=aa.mk (HI.out.box (o:=(.cells #[.int .i64 x.f0,.int .i64 x.f1,.int .i64 x.f2,.int .i64 x.f3,.int .i64 x.f4,.int .i64 x.f5,.string x.f6] 65 (0,0))));have kT:=aa.mk (kg wr (.cells #[.int .i64 x.f0,.int .i64 x.f1,.int .i64 x.f2,.int .i64 x.f3,.int .i64 x.f4,.int .i64 x.f5,.string x.f6] 65 (0,0)));have FM:=aa.mk (ia (Below.refl wr.heap.size wr) (.cells #[.int .i64 x.f0,.int .i64 x.f1,.int .i64 x.f2,.int .i64 x.f3,.int .i64 x.f4,.int .i64 x.f5,.string x.f6] 65 (0,0)));generalize wr.alloc (.cells #[.int .i64 x.f0,.int .i64 x.f1,.int .i64 x.f2,.int .i64 x.f3,.int .i64 x.f4,.int .i64 x.f5,.string x.f6] 65 (0,0))=Qr at HIx kT FM ⊢;have IX:=aa.mk (show ∀ {vr vL mM Z6 w2},Dp w.heap.size gc qj q5 (fun k=>(Fx k ∨ k=IE) ∨ k=wr.heap.size) vS (.slice A1 l1.length c1) Pa (n:Int) vr vL mM Z6 Qr w2→Dp w.heap.size gc qj q5 (fun k=>Fx k ∨ k=IE) vS (.slice A1 l1.length c1) Pa (n:Int) vr vL mM Z6 Ep w2 from fun h2=>HI.out.pop FM.out (fun k e=>Or.inl e) h2);clear k0 k1 k2 k3 k4 k5 k6 FM HI F_ p1 p2 e6;generalize wr.heap.size=q14 at HIx kT IX ⊢;obtain ⟨x0,x1,x2,x3,x4,x5,x6⟩:=Vaz kT.out;have h53:Qr.cell? ⟨q5,0,none⟩=some (.pointer (some ⟨gc,0,none⟩)):=(ja HIx.out.p5 0).trans rfl;have Uam:=aa.mk (show ∀ W,Kept Qr W (fun k=>¬ ((Fx k ∨ k=IE) ∨ k=q14))→Kd.C (Kd.int .i64) W A1 l1.length l1 from fun W hk=>HCK.out W ((BK.out (IX.out HIx.out)).k.Gj hk (fun k e=>Or.inl (fun e2=>e (Or.inl (Or.inl e2))))));go_wp2_with (first|(go_at_call 93;(with_reducible refine (HIx.out.instr (x:=x) Uam.out (by rw [HCN.out];exact HIX.out) n6.out HO.out.le HCZ.out).mono ?_);rintro e Tx ⟨rfl,hh⟩;rw [← HNX.out] at hh;have MaA:=aa.mk (IX.out hh);clear hh h53 x0 x1 x2 x3 x4 x5 x6))
       go_roundg ((Ia Fa (i:Int)).f0.length - (k + 1))
       case measure=>omega
       case rel=>exact ⟨k + 1,by go_num,by omega,by omega,MaA⟩
      ·have hkb:decide ((k:Int) < ((Ia Fa (i:Int)).f0.length:Int))=false:=decide_eq_false (by omega);obtain rfl:k=(Ia Fa (i:Int)).f0.length:=by omega
       have hie:=HI.out;rw [List.take_length] at hie;have HIE:=aa.mk hie;clear hie HI;obtain ⟨wk,rfl⟩:∃ wk,wk=wr:=⟨_,rfl⟩;have HQk:=aa.mk (Sd Lu.out HIE.out.k (fun e=>e (Or.inr rfl)));have HKC:=aa.mk (show ∀ W,Kept Ep W (fun k=>¬ (Fx k ∨ k=IE))→Kd.C (Kd.int .i64) W A1 l1.length l1 from fun W hk=>HCK.out W (Vam.out.Gj hk (fun k e=>Or.inl (fun e2=>e (Or.inl e2)))))
       have sY:=aa.mk (show ((Ud l1 (ud l1 (Yc (wh Fa n) n)) Fa i) ++ (Ia Fa (i:Int)).f0.flatMap (Bf l1)).length ≤ 900000000 from by
        have h1:=HMX.out (i + 1) (by omega);rw [jl,List.length_append] at h1;unfold CG at h1;rw [List.length_append] at h1 ⊢
        omega)
       have HPS:=aa.mk (show jj ((Ud l1 (ud l1 (Yc (wh Fa n) n)) Fa i) ++ (Ia Fa (i:Int)).f0.flatMap (Bf l1))=jj (Ud l1 (ud l1 (Yc (wh Fa n) n)) Fa i) from gB _ _ (gL _ _));have HCS:=aa.mk (show (Ud l1 (ud l1 (Yc (wh Fa n) n)) Fa (i + 1))=((Ud l1 (ud l1 (Yc (wh Fa n) n)) Fa i) ++ (Ia Fa (i:Int)).f0.flatMap (Bf l1)) ++ Zp l1 (Ia Fa (i:Int)) ((i:Int) + 1) from by rw [jl,List.append_assoc];rfl);have h5k:wk.cell? ⟨q5,0,none⟩=some (.pointer (some ⟨gc,0,none⟩)):=(ja HIE.out.p5 0).trans rfl;have HJM:=aa.mk (HO.out.jm _ HBM.out);have eg:∀ args w,(callFunc 92 args).run Try.prog w = .ok (.enter 92 args) w:=enters_of Try.func92 (by kernel_rfl) rfl;have HJL:=aa.mk (show ∀ ws:List Zb,(jj ws).length ≤ ws.length from fun ws=>rL ws 0)
       by_cases hf:(Ia Fa (i:Int)).f1=2
       ·have HF:=aa.mk hf;have bW:wk.cell? ⟨IE,1,none⟩=some (.int .i64 2):=by rw [← hf];exact (ja HQk.out 1).trans rfl
        have HF2:=aa.mk (T_.out.2.1 (by rw [hf];decide));have ZV:wk.cell? ⟨IE,2,none⟩=some (.int .i64 (Ia Fa (i:Int)).f2):=(ja (Sd Lu.out HIE.out.k (fun e=>e (Or.inr rfl))) 2).trans rfl;have HFB:=aa.mk (show 0 ≤ (Ia Fa (i:Int)).f2∧(Ia Fa (i:Int)).f2 < (l1.length:Int) from by rw [HCN.out];exact HF2.out);clear hf;go_wp2_with (first|(go_at_call 94;(with_reducible refine (HIE.out.load HKC.out HFB.out HO.out.le (by have:=sY.out;omega)).mono ?_);rintro e Wp ⟨rfl,hh⟩;have KX:=aa.mk hh;clear hh h5k bW ZV;have yak:Wp.cell? ⟨q5,0,none⟩=some (.pointer (some ⟨gc,0,none⟩)):=(ja KX.out.p5 0).trans rfl)|(go_at_call 91;(with_reducible refine (KX.out.word (⟨10,1,0,0,0⟩:Zb) (by have:=sY.out;simp only [List.length_append,List.length_cons,List.length_nil] at this ⊢;omega)).mono ?_);rintro e IC ⟨rfl,hh⟩;have LaA:=aa.mk hh;clear hh yak))
        have LK:=aa.mk (show Dp w.heap.size gc qj q5 Fx vS (.slice A1 l1.length c1) Pa (n:Int) (Ud l1 (ud l1 (Yc (wh Fa n) n)) Fa (i + 1)) (jj (Ud l1 (ud l1 (Yc (wh Fa n) n)) Fa (i + 1))) (Gn l1 (ud l1 (Yc (wh Fa n) n)) Fa (i + 1)) HY w9 IC from by
         have hx:=BK.out LaA.out;have e1:Zp l1 (Ia Fa (i:Int)) ((i:Int) + 1)=[Js l1 1 (Ia Fa (i:Int)).f2,⟨10,1,0,0,0⟩]:=by unfold Zp;rw [if_pos HF.out]
         have e2:jj (Ud l1 (ud l1 (Yc (wh Fa n) n)) Fa (i + 1))=jj (Ud l1 (ud l1 (Yc (wh Fa n) n)) Fa i):=by
          rw [HCS.out,e1,gB _ _ (fun y hy=>by
           simp only [List.mem_cons,List.not_mem_nil,or_false] at hy
           rcases hy with rfl|rfl
           ·exact Fo _ _ _
           ·unfold wg;simp)]
          exact HPS.out
         rw [e2,HCS.out,e1];rw [List.append_assoc] at hx
         exact hx)
        go_roundg (Fa.length - (i + 1))
        case measure=>omega
        case rel=>exact ⟨i + 1,by go_num,by omega,by omega,LK⟩
       have zaG:=hf;clear hf
       by_cases hf:(Ia Fa (i:Int)).f1=1
       ·have HF:=aa.mk hf;have bW:wk.cell? ⟨IE,1,none⟩=some (.int .i64 1):=by rw [← hf];exact (ja HQk.out 1).trans rfl
        have HF2:=aa.mk (T_.out.2.1 (by rw [hf];decide));have ZV:wk.cell? ⟨IE,2,none⟩=some (.int .i64 (Ia Fa (i:Int)).f2):=(ja (Sd Lu.out HIE.out.k (fun e=>e (Or.inr rfl))) 2).trans rfl;have HFB:=aa.mk (show 0 ≤ (Ia Fa (i:Int)).f2∧(Ia Fa (i:Int)).f2 < (l1.length:Int) from by rw [HCN.out];exact HF2.out);clear hf
        go_upto_region 26 with (first|(go_at_call 94;(with_reducible refine (HIE.out.load HKC.out HFB.out HO.out.le (by have:=sY.out;omega)).mono ?_);rintro e Wp ⟨rfl,hh⟩;have KX:=aa.mk hh;clear hh h5k bW ZV;have Wac:Wp.cell? ⟨IE,4,none⟩=some (.int .i64 (Ia Fa (i:Int)).f4):=(ja (Sd Lu.out KX.out.k (fun e=>e (Or.inr rfl))) 4).trans rfl)|(go_at_fn 92;(with_reducible refine (KX.out.jump (⟨9,1,0,0,(Ia Fa (i:Int)).f4⟩:Zb) (by have:=sY.out;simp only [List.length_append,List.length_cons,List.length_nil] at this ⊢;omega) (by have:=sY.out;have:=HJL.out ((Ud l1 (ud l1 (Yc (wh Fa n) n)) Fa i) ++ (Ia Fa (i:Int)).f0.flatMap (Bf l1));rw [HPS.out] at this;omega)).mono ?_);rintro e gG ⟨rfl,hh⟩;have KaA:=aa.mk hh;clear hh Wac))
        have QF:=aa.mk (show Dp w.heap.size gc qj q5 (fun k=>Fx k ∨ k=IE) vS (.slice A1 l1.length c1) Pa (n:Int) ((((Ud l1 (ud l1 (Yc (wh Fa n) n)) Fa i) ++ (Ia Fa (i:Int)).f0.flatMap (Bf l1)) ++ [Js l1 1 (Ia Fa (i:Int)).f2]) ++ [(⟨9,1,0,0,(Ia Fa (i:Int)).f4⟩:Zb)]) (jj ((((Ud l1 (ud l1 (Yc (wh Fa n) n)) Fa i) ++ (Ia Fa (i:Int)).f0.flatMap (Bf l1)) ++ [Js l1 1 (Ia Fa (i:Int)).f2]) ++ [(⟨9,1,0,0,(Ia Fa (i:Int)).f4⟩:Zb)])) (Gn l1 (ud l1 (Yc (wh Fa n) n)) Fa (i + 1)) HY Ep gG from by
         have e:jj ((((Ud l1 (ud l1 (Yc (wh Fa n) n)) Fa i) ++ (Ia Fa (i:Int)).f0.flatMap (Bf l1)) ++ [Js l1 1 (Ia Fa (i:Int)).f2]) ++ [(⟨9,1,0,0,(Ia Fa (i:Int)).f4⟩:Zb)])=jj (Ud l1 (ud l1 (Yc (wh Fa n) n)) Fa i) ++ [(((((Ud l1 (ud l1 (Yc (wh Fa n) n)) Fa i) ++ (Ia Fa (i:Int)).f0.flatMap (Bf l1)) ++ [Js l1 1 (Ia Fa (i:Int)).f2]).length:Nat):Int)]:=by
          rw [iB _ _ (Or.inr rfl),gB ((Ud l1 (ud l1 (Yc (wh Fa n) n)) Fa i) ++ (Ia Fa (i:Int)).f0.flatMap (Bf l1)) [Js l1 1 (Ia Fa (i:Int)).f2] (fun y hy=>by rw [List.mem_singleton] at hy;subst hy;exact Fo _ _ _),HPS.out]
         rw [e]
         exact KaA.out)
        have HJW:=aa.mk (show ∀ t:List Zb,((((Ud l1 (ud l1 (Yc (wh Fa n) n)) Fa i) ++ (Ia Fa (i:Int)).f0.flatMap (Bf l1)) ++ [Js l1 1 (Ia Fa (i:Int)).f2]) ++ [(⟨9,1,0,0,(Ia Fa (i:Int)).f4⟩:Zb)]) ++ t=((Ud l1 (ud l1 (Yc (wh Fa n) n)) Fa i) ++ (Ia Fa (i:Int)).f0.flatMap (Bf l1)) ++ ([Js l1 1 (Ia Fa (i:Int)).f2,⟨9,1,0,0,(Ia Fa (i:Int)).f4⟩] ++ t) from fun t=>by simp [List.append_assoc]);have HJE:=aa.mk (show Zp l1 (Ia Fa (i:Int)) ((i:Int) + 1)=[Js l1 1 (Ia Fa (i:Int)).f2,⟨9,1,0,0,(Ia Fa (i:Int)).f4⟩] ++ (if (Ia Fa (i:Int)).f3=(i:Int) + 1 then [] else [⟨8,0,0,0,(Ia Fa (i:Int)).f3⟩]) from by unfold Zp;rw [if_neg (by rw [HF.out];decide),if_pos HF.out]);have HL1:=aa.mk (show ((((Ud l1 (ud l1 (Yc (wh Fa n) n)) Fa i) ++ (Ia Fa (i:Int)).f0.flatMap (Bf l1)) ++ [Js l1 1 (Ia Fa (i:Int)).f2]) ++ [(⟨9,1,0,0,(Ia Fa (i:Int)).f4⟩:Zb)]).length ≤ 900000010 from by have:=sY.out;simp only [List.length_append,List.length_cons,List.length_nil] at this ⊢;omega);have wY:=aa.mk (show (jj ((((Ud l1 (ud l1 (Yc (wh Fa n) n)) Fa i) ++ (Ia Fa (i:Int)).f0.flatMap (Bf l1)) ++ [Js l1 1 (Ia Fa (i:Int)).f2]) ++ [(⟨9,1,0,0,(Ia Fa (i:Int)).f4⟩:Zb)])).length ≤ 1000000000 from by have:=HJL.out ((((Ud l1 (ud l1 (Yc (wh Fa n) n)) Fa i) ++ (Ia Fa (i:Int)).f0.flatMap (Bf l1)) ++ [Js l1 1 (Ia Fa (i:Int)).f2]) ++ [(⟨9,1,0,0,(Ia Fa (i:Int)).f4⟩:Zb)]);have:=HL1.out;omega);generalize ((((Ud l1 (ud l1 (Yc (wh Fa n) n)) Fa i) ++ (Ia Fa (i:Int)).f0.flatMap (Bf l1)) ++ [Js l1 1 (Ia Fa (i:Int)).f2]) ++ [(⟨9,1,0,0,(Ia Fa (i:Int)).f4⟩:Zb)])=C1 at QF HJW HL1 wY;have Vac:gG.cell? ⟨IE,3,none⟩=some (.int .i64 (Ia Fa (i:Int)).f3):=(ja (Sd Lu.out QF.out.k (fun e=>e (Or.inr rfl))) 3).trans rfl
        by_cases h3:(Ia Fa (i:Int)).f3=(i:Int) + 1
        ·have UK:=HJE.out;rw [if_pos h3] at UK
         have LK:=aa.mk (show Dp w.heap.size gc qj q5 Fx vS (.slice A1 l1.length c1) Pa (n:Int) (Ud l1 (ud l1 (Yc (wh Fa n) n)) Fa (i + 1)) (jj (Ud l1 (ud l1 (Yc (wh Fa n) n)) Fa (i + 1))) (Gn l1 (ud l1 (Yc (wh Fa n) n)) Fa (i + 1)) HY w9 gG from by
          rw [HCS.out,UK,← HJW.out [],List.append_nil]
          exact BK.out QF.out)
         rw [h3] at Vac;clear UK h3;go_wp2
         go_roundg (Fa.length - (i + 1))
         case measure=>omega
         case rel=>exact ⟨i + 1,by go_num,by omega,by omega,LK⟩
        ·have UK:=HJE.out;rw [if_neg h3] at UK;have HJ4:=aa.mk UK;clear UK;go_wp2_with (first|(go_at_fn 92;(with_reducible refine (QF.out.jump (⟨8,0,0,0,(Ia Fa (i:Int)).f3⟩:Zb) (by have:=HL1.out;omega) wY.out).mono ?_);rintro e IG ⟨rfl,hh⟩;have Wad:=aa.mk hh;clear hh))
         have LK:=aa.mk (show Dp w.heap.size gc qj q5 Fx vS (.slice A1 l1.length c1) Pa (n:Int) (Ud l1 (ud l1 (Yc (wh Fa n) n)) Fa (i + 1)) (jj (Ud l1 (ud l1 (Yc (wh Fa n) n)) Fa (i + 1))) (Gn l1 (ud l1 (Yc (wh Fa n) n)) Fa (i + 1)) HY w9 IG from by
          rw [HCS.out,HJ4.out,← HJW.out [⟨8,0,0,0,(Ia Fa (i:Int)).f3⟩],iB _ _ (Or.inl rfl)]
          exact BK.out Wad.out)
         go_roundg (Fa.length - (i + 1))
         case measure=>omega
         case rel=>exact ⟨i + 1,by go_num,by omega,by omega,LK⟩
       have AaG:=hf;clear hf;have hf:(Ia Fa (i:Int)).f1=0:=by have:=HJM.out;omega
       have HF:=aa.mk hf;have bW:wk.cell? ⟨IE,1,none⟩=some (.int .i64 0):=by rw [← hf];exact (ja HQk.out 1).trans rfl
       clear hf
       go_upto_region 26 with (fail)
       have QF:=aa.mk (show Dp w.heap.size gc qj q5 (fun k=>Fx k ∨ k=IE) vS (.slice A1 l1.length c1) Pa (n:Int) ((Ud l1 (ud l1 (Yc (wh Fa n) n)) Fa i) ++ (Ia Fa (i:Int)).f0.flatMap (Bf l1)) (jj ((Ud l1 (ud l1 (Yc (wh Fa n) n)) Fa i) ++ (Ia Fa (i:Int)).f0.flatMap (Bf l1))) (Gn l1 (ud l1 (Yc (wh Fa n) n)) Fa (i + 1)) HY Ep wk from by rw [HPS.out];exact HIE.out);have HJW:=aa.mk (show ∀ t:List Zb,((Ud l1 (ud l1 (Yc (wh Fa n) n)) Fa i) ++ (Ia Fa (i:Int)).f0.flatMap (Bf l1)) ++ t=((Ud l1 (ud l1 (Yc (wh Fa n) n)) Fa i) ++ (Ia Fa (i:Int)).f0.flatMap (Bf l1)) ++ ([] ++ t) from fun t=>rfl);clear h5k bW;have HJE:=aa.mk (show Zp l1 (Ia Fa (i:Int)) ((i:Int) + 1)=[] ++ (if (Ia Fa (i:Int)).f3=(i:Int) + 1 then [] else [⟨8,0,0,0,(Ia Fa (i:Int)).f3⟩]) from by unfold Zp;rw [if_neg (by rw [HF.out];decide),if_neg (by rw [HF.out];decide)]);have HL1:=aa.mk (show ((Ud l1 (ud l1 (Yc (wh Fa n) n)) Fa i) ++ (Ia Fa (i:Int)).f0.flatMap (Bf l1)).length ≤ 900000010 from by have:=sY.out;simp only [List.length_append,List.length_cons,List.length_nil] at this ⊢;omega);have wY:=aa.mk (show (jj ((Ud l1 (ud l1 (Yc (wh Fa n) n)) Fa i) ++ (Ia Fa (i:Int)).f0.flatMap (Bf l1))).length ≤ 1000000000 from by have:=HJL.out ((Ud l1 (ud l1 (Yc (wh Fa n) n)) Fa i) ++ (Ia Fa (i:Int)).f0.flatMap (Bf l1));have:=HL1.out;omega);have Gal:wk.cell? ⟨IE,3,none⟩=some (.int .i64 (Ia Fa (i:Int)).f3):=(ja (Sd Lu.out QF.out.k (fun e=>e (Or.inr rfl))) 3).trans rfl
       by_cases h3:(Ia Fa (i:Int)).f3=(i:Int) + 1
       ·have UK:=HJE.out;rw [if_pos h3] at UK
        have LK:=aa.mk (show Dp w.heap.size gc qj q5 Fx vS (.slice A1 l1.length c1) Pa (n:Int) (Ud l1 (ud l1 (Yc (wh Fa n) n)) Fa (i + 1)) (jj (Ud l1 (ud l1 (Yc (wh Fa n) n)) Fa (i + 1))) (Gn l1 (ud l1 (Yc (wh Fa n) n)) Fa (i + 1)) HY w9 wk from by
         rw [HCS.out,UK,← HJW.out [],List.append_nil]
         exact BK.out QF.out)
        rw [h3] at Gal;clear UK h3;go_wp2
        go_roundg (Fa.length - (i + 1))
        case measure=>omega
        case rel=>exact ⟨i + 1,by go_num,by omega,by omega,LK⟩
       ·have UK:=HJE.out;rw [if_neg h3] at UK;have HJ4:=aa.mk UK;clear UK;go_wp2_with (first|(go_at_fn 92;(with_reducible refine (QF.out.jump (⟨8,0,0,0,(Ia Fa (i:Int)).f3⟩:Zb) (by have:=HL1.out;omega) wY.out).mono ?_);rintro e IG ⟨rfl,hh⟩;have Wad:=aa.mk hh;clear hh))
        have LK:=aa.mk (show Dp w.heap.size gc qj q5 Fx vS (.slice A1 l1.length c1) Pa (n:Int) (Ud l1 (ud l1 (Yc (wh Fa n) n)) Fa (i + 1)) (jj (Ud l1 (ud l1 (Yc (wh Fa n) n)) Fa (i + 1))) (Gn l1 (ud l1 (Yc (wh Fa n) n)) Fa (i + 1)) HY w9 IG from by
         rw [HCS.out,HJ4.out,← HJW.out [⟨8,0,0,0,(Ia Fa (i:Int)).f3⟩],iB _ _ (Or.inl rfl)]
         exact BK.out Wad.out)
        go_roundg (Fa.length - (i + 1))
        case measure=>omega
        case rel=>exact ⟨i + 1,by go_num,by omega,by omega,LK⟩
    ·have NS:decide ((i:Int) < (Fa.length:Int))=false:=decide_eq_false (by omega);obtain rfl:i=Fa.length:=by omega
     obtain ⟨wq,rfl⟩:∃ wq,wq=wr:=⟨_,rfl⟩
     have HTO:=aa.mk (bM (cs:=l1) (bs:=Fa) (ML l1 (Yc (wh Fa n) n)) (fun i hi e=>by
      have hE:=HO.out.lv.1.2.2 i hi ((Ia Fa (i:Int)).f4);refine hE ?_;unfold Bu rG;rw [if_neg (by rw [e];decide),if_pos e]
      simp) (fun i hi e=>by
      have hE:=HO.out.lv.1.2.2 i hi ((Ia Fa (i:Int)).f3);refine hE ?_;have hj:=HO.out.jm (Ia Fa (i:Int)) (by rw [ng hi];exact List.getElem_mem hi);unfold Bu rG
      by_cases e0:(Ia Fa (i:Int)).f1=0
      ·rw [if_pos e0];simp
      ·rw [if_neg e0,if_pos (by omega)];simp) Fa.length (Nat.le_refl _))
     have FX:=aa.mk (show qY Fa n l1=(jj (Ud l1 (ud l1 (Yc (wh Fa n) n)) Fa Fa.length)).foldl (Nm (Gn l1 (ud l1 (Yc (wh Fa n) n)) Fa Fa.length)) (Ud l1 (ud l1 (Yc (wh Fa n) n)) Fa Fa.length) from (aU _ _).symm);have HWL:=aa.mk (HMX.out Fa.length (Nat.le_refl _));have HBL:=aa.mk (Pv l1 (ud l1 (Yc (wh Fa n) n)) Fa Fa.length);have HBW:=aa.mk (vu EM.out EM.out.size HI.out.k TR.out HI.out.b);obtain ⟨PC,PJ,vJ,d1,d2,d3,d4,d5,d6⟩:=HI.out.c;obtain ⟨vC,hvx,hvr⟩:=d1.hx;obtain ⟨A8,c8,hv8⟩:=Kd.Lc d4;rw [HBL.out] at hv8;subst hv8;obtain ⟨AJ,cJ,rfl⟩:=Kd.Lc d3;obtain ⟨AC,cC,rfl⟩:=Kd.Lc hvr;have HPB:=aa.mk d1.pb;have HFP:=aa.mk (show ∀ k,Fx k→¬ PC k from fun k h e=>(d5 k e).2.1 h);have HGX:=aa.mk hvx;have H5X:=aa.mk HI.out.p5;have HYX:=aa.mk (Sd HY9.out HI.out.k (fun e=>e HFG.out.2));have HSX:=aa.mk (HS9.out wq HI.out.k);have HQF:=aa.mk HI.out.h5.1;have h9:wq.cell? ⟨qj,0,none⟩=some (.slice AJ (jj (Ud l1 (ud l1 (Yc (wh Fa n) n)) Fa Fa.length)).length cJ):=(ja d2 0).trans rfl;have HJR:=aa.mk (show ∀ W,Kept wq W (fun k=>PC k)→Kd.C (Kd.int .i64) W AJ (jj (Ud l1 (ud l1 (Yc (wh Fa n) n)) Fa Fa.length)).length (jj (Ud l1 (ud l1 (Yc (wh Fa n) n)) Fa Fa.length)) from fun W hk=>(Kd.Jb (Kd.Kh d3 hk (fun k Ts e=>(d5 k e).1 Ts))).2.2)
     have HBR:=aa.mk (show ∀ W,Kept wq W (fun k=>PC k)→Kd.C (Kd.int .i64) W A8 Fa.length (Gn l1 (ud l1 (Yc (wh Fa n) n)) Fa Fa.length) from fun W hk=>by
      have h:=(Kd.Jb (Kd.Kh d4 hk (fun k Ts e=>Ts.1 e))).2.2;rw [HBL.out] at h
      exact h)
     have ij:=aa.mk hvr;have hjl:(jj (Ud l1 (ud l1 (Yc (wh Fa n) n)) Fa Fa.length)).length ≤ 1000000000:=by have:=rL (Ud l1 (ud l1 (Yc (wh Fa n) n)) Fa Fa.length) 0;have:=HWL.out;unfold jj;omega
     have HPA:=aa.mk (fun t ht=>YY (ws:=(Ud l1 (ud l1 (Yc (wh Fa n) n)) Fa Fa.length)) (t:=t) ht);clear d1 d2 d3 d4 d5 d6 hvx hvr HI;generalize Gn l1 (ud l1 (Yc (wh Fa n) n)) Fa Fa.length=Bg at FX HBL HBR ⊢;generalize (Ud l1 (ud l1 (Yc (wh Fa n) n)) Fa Fa.length)=ws at HTO FX HWL HGX h9 HJR ij hjl HPA ⊢;generalize jj ws=J at FX h9 HJR hjl HPA ⊢;go_wp2;clear h9
     go_loopg [122] J.length (fun g4 tH wr=>∃ (t:Nat),tH = .int .i64 t∧t ≤ J.length∧J.length - t ≤ g4∧aa (Kd.R Yg 79 wr w.heap.size PC (.slice AC ws.length cC) ((J.take t).foldl (Nm Bg) ws))∧aa (Kept wq wr (fun k=>PC k))∧aa (Below 0 wq wr))
     case atStart=>exact ⟨0,rfl,Nat.zero_le _,by omega,ij,⟨Kept.refl _ _⟩,⟨Below.refl _ _⟩⟩
     case round =>
      clear ij;(try clear HR);(try clear HK);(try clear HZ);obtain ⟨t,rfl,ht,SK,HR,HK,HZ⟩:=hrel;have HPx:=aa.mk (Sd H5X.out HK.out (HFP.out _ HQF.out));have HGx:=aa.mk (Sd HGX.out HK.out (fun e=>(HPB.out _ e).2.2 rfl))
      by_cases htl:t < J.length
      ·have htb:decide ((t:Int) < (J.length:Int))=true:=decide_eq_true (by omega);have t1:0 ≤ (t:Int):=by omega
       have t2:(t:Int) < (J.length:Int):=by omega
       obtain ⟨adj,ej,hcj⟩:=PE (HJR.out wr HK.out) htl;obtain ⟨z,hz,hzl,tT,hno⟩:=HPA.out t htl;have HZT:=aa.mk hz;rw [hz] at hcj;have hto:=HTO.out ws[z] (List.getElem_mem hzl) tT;have hrd:Wa ((J.take t).foldl (Nm Bg) ws) (z:Int)=ws[z]:=by rw [xH (by omega) _ _ hno,mN hzl]
       obtain ⟨N,hN⟩:∃ N:Nat,(ws[z]).f4=(N:Int):=⟨_,(Int.toNat_of_nonneg hto.1).symm⟩;have hNl:N < Fa.length:=by omega
       obtain ⟨ab,eb,hcb⟩:=Kd.Bm (HBR.out wr HK.out) (N:Int) (by omega) (by omega);rw [Int.toNat_natCast] at hcb;subst ej;subst eb;have Xaj:=kG (Vk:=Bg) (J.take t) ws;obtain ⟨g,cap,eC,-⟩:=Kd.Kn HR.out (by rw [Xaj];omega);obtain ⟨eC1,-,-⟩:AC=some ⟨g,0,none⟩∧ws.length=((J.take t).foldl (Nm Bg) ws).length∧cC=cap:=by injection eC with q1 q2 q3;exact ⟨q1,q2,q3⟩
       subst eC1;have HRg:=aa.mk (show Kd.R Yg 79 wr.drew w.heap.size PC (.slice (some ⟨g,0,none⟩) ws.length cC) ((J.take t).foldl (Nm Bg) ws) from Kd.gb HR.out);have HPG:=aa.mk (show PC g from HRg.out.1 g rfl);obtain ⟨ce,tB,hM,My,hfr⟩:=Kd.Xg HRg.out PK (z:Int) (by omega) (by omega);obtain rfl:=Wh hM;have hxx:((J.take t).foldl (Nm Bg) ws).getD (z:Int).toNat PK=ws[z]:=hrd;have HSG:=aa.mk ((Kd.Jo HRg.out (z:Int) (by omega) (by omega) (seg:=[.int .i64 (rd Bg (N:Int))]) (j:=4) tB My (show 5 ≤ 5 from by decide) (x':=(⟨(Wa ((J.take t).foldl (Nm Bg) ws) (z:Int)).f0,(Wa ((J.take t).foldl (Nm Bg) ws) (z:Int)).f1,(Wa ((J.take t).foldl (Nm Bg) ws) (z:Int)).f2,(Wa ((J.take t).foldl (Nm Bg) ws) (z:Int)).f3,rd Bg (N:Int)⟩:Zb)) (af _ _ _ _) (fun _ hk=>hk)).1)
       have HE4:=aa.mk (show wr.drew.cell? ⟨g,z * 5 + 4,none⟩=some (.int .i64 (N:Int)) from by
        have h:=My 4 _ rfl;rw [hxx,hN,Int.toNat_natCast] at h
        exact h)
       have HF4:=aa.mk (show wr.drew.frozen? ⟨g,z * 5 + 4,none⟩=false from by
        have h:=hfr 4;rw [Int.toNat_natCast] at h
        exact h)
       have HNX:=aa.mk (show (J.take (t + 1)).foldl (Nm Bg) ws=((J.take t).foldl (Nm Bg) ws).set z (⟨(Wa ((J.take t).foldl (Nm Bg) ws) (z:Int)).f0,(Wa ((J.take t).foldl (Nm Bg) ws) (z:Int)).f1,(Wa ((J.take t).foldl (Nm Bg) ws) (z:Int)).f2,(Wa ((J.take t).foldl (Nm Bg) ws) (z:Int)).f3,rd Bg (N:Int)⟩:Zb) from by
        rw [List.take_succ_eq_append_getElem htl,List.foldl_append,List.foldl_cons,List.foldl_nil,hz];unfold Nm
        rw [Int.toNat_natCast,show (Wa ((J.take t).foldl (fun ws a=>ws.set a.toNat ⟨(Wa ws a).f0,(Wa ws a).f1,(Wa ws a).f2,(Wa ws a).f3,rd Bg (Wa ws a).f4⟩) ws) (z:Int)).f4=(N:Int) from (congrArg (fun x:Zb=>x.f4) hrd).trans hN])
       have z1:0 ≤ (z:Int):=by omega
       have z2:(z:Int) < (ws.length:Int):=by omega
       have n1:0 ≤ (N:Int):=by omega
       have n2:(N:Int) < (Fa.length:Int):=by omega
       have pan:=aa.mk (show wr.drew.cell? (ab.add N)=some (.int .i64 (rd Bg (N:Int))) from hcb);have HPd:=aa.mk (Ba HPx.out);have HGd:=aa.mk (Ba HGx.out);have HKd:=aa.mk (HK.out.below (Jh (Below.refl wr.heap.size wr)));have oam:=aa.mk (HZ.out.trans (ql (Jh (Below.refl wr.heap.size wr))));clear hto hrd hN My hfr tB hM hxx Xaj eC tT hno hz hcb
       go_upto_region 32 with (fail)
       clear hcj HK HZ HPx HGx HR;refine Gh (n:=21) (S:=fun w'=>w'.cell? ⟨q5,0,none⟩=some (.pointer (some ⟨gc,0,none⟩))∧w'.cell? ⟨gc,3,none⟩=some (.slice (some ⟨g,0,none⟩) ws.length cC)∧w'.cell? ⟨g,z * 5 + 4,none⟩=some (.int .i64 (N:Int))∧w'.cell? (ab.add N)=some (.int .i64 (rd Bg (N:Int)))) (ds:=[20]) #[false,false,false,false,false,false,false,false,false,false,false,false,false,false,false,false,false,false,false,false,false] (by kernel_rfl) rfl rfl ⟨(ja HPd.out 0).trans rfl,(ja HGd.out 3).trans rfl,HE4.out,pan.out⟩ (fun hHeld=>?_);generalize wr.drew=wx2 at HRg HSG HE4 HF4 pan HPd HGd HKd oam hHeld ⊢;refine ec (i:=5) (N:=some 131) (v:=?_) (a':=?_) #[false,false,false,false,false,true,false,false,false,false,false,false,false,false,false,false,false,false,false,false,false] rfl rfl (by kernel_rfl) (fun _ _ _ h=>h) (Or.inl ⟨by rfl,?_⟩) ?_ ?_;rotate_left
       ·exact XaJ
       rotate_left
       ·exact WaJ
       refine ec (i:=6) (N:=some 132) (v:=?_) (a':=?_) #[false,false,false,false,false,true,true,false,false,false,false,false,false,false,false,false,false,false,false,false,false] rfl rfl (by kernel_rfl) (fun _ _ _ h=>h) (Or.inl ⟨by rfl,?_⟩) ?_ ?_;rotate_left
       ·exact XaJ
       rotate_left
       ·exact WaJ
       refine ec (i:=12) (N:=some 138) (v:=?_) (a':=?_) #[false,false,false,false,false,true,true,false,false,false,false,false,true,false,false,false,false,false,false,false,false] rfl rfl (by kernel_rfl) (fun _ _ _ h=>h) (Or.inl ⟨by rfl,?_⟩) ?_ ?_;rotate_left
       ·exact XaJ
       rotate_left
       ·exact WaJ
       refine Pe (i:=0) (N:=some 126) (v:=?_) (a':=?_) #[true,false,false,false,false,true,true,false,false,false,false,false,true,false,false,false,false,false,false,false,false] rfl rfl (by kernel_rfl) (fun _ _ _ h=>h) (Or.inl ⟨by rfl,?_⟩) hHeld ?_ ?_;rotate_left
       ·exact eaK
       rotate_left
       ·exact WaJ
       refine ec (i:=1) (N:=some 127) (v:=?_) (a':=?_) #[true,true,false,false,false,true,true,false,false,false,false,false,true,false,false,false,false,false,false,false,false] rfl rfl (by kernel_rfl) (fun _ _ _ h=>h) (Or.inl ⟨by rfl,?_⟩) ?_ ?_;rotate_left
       ·exact XaJ
       rotate_left
       ·exact WaJ
       refine ec (i:=2) (N:=some 128) (v:=?_) (a':=?_) #[true,true,true,false,false,true,true,false,false,false,false,false,true,false,false,false,false,false,false,false,false] rfl rfl (by kernel_rfl) (fun _ _ _ h=>h) (Or.inl ⟨by rfl,?_⟩) ?_ ?_;rotate_left
       ·exact XaJ
       rotate_left
       ·exact WaJ
       refine ec (i:=3) (N:=some 129) (v:=?_) (a':=?_) #[true,true,true,true,false,true,true,false,false,false,false,false,true,false,false,false,false,false,false,false,false] rfl rfl (by kernel_rfl) (fun _ _ _ h=>h) (Or.inl ⟨by rfl,?_⟩) ?_ ?_;rotate_left
       ·exact XaJ
       rotate_left
       ·exact WaJ
       refine Pe (i:=4) (N:=some 130) (v:=?_) (a':=?_) #[true,true,true,true,true,true,true,false,false,false,false,false,true,false,false,false,false,false,false,false,false] rfl rfl (by kernel_rfl) (fun _ _ _ h=>h) (Or.inl ⟨by rfl,?_⟩) hHeld ?_ ?_;rotate_left
       ·exact eaK
       rotate_left
       ·exact WaJ
       refine Pe (i:=7) (N:=some 133) (v:=?_) (a':=?_) #[true,true,true,true,true,true,true,true,false,false,false,false,true,false,false,false,false,false,false,false,false] rfl rfl (by kernel_rfl) (fun _ _ _ h=>h) (Or.inl ⟨by rfl,?_⟩) hHeld ?_ ?_;rotate_left
       ·exact eaK
       rotate_left
       ·exact WaJ
       refine ec (i:=8) (N:=some 134) (v:=?_) (a':=?_) #[true,true,true,true,true,true,true,true,true,false,false,false,true,false,false,false,false,false,false,false,false] rfl rfl (by kernel_rfl) (fun _ _ _ h=>h) (Or.inl ⟨by rfl,?_⟩) ?_ ?_;rotate_left
       ·exact XaJ
       rotate_left
       ·exact WaJ
       refine ec (i:=9) (N:=some 135) (v:=?_) (a':=?_) #[true,true,true,true,true,true,true,true,true,true,false,false,true,false,false,false,false,false,false,false,false] rfl rfl (by kernel_rfl) (fun _ _ _ h=>h) (Or.inl ⟨by rfl,?_⟩) ?_ ?_;rotate_left
       ·exact XaJ
       rotate_left
       ·exact WaJ
       refine ec (i:=10) (N:=some 136) (v:=?_) (a':=?_) #[true,true,true,true,true,true,true,true,true,true,true,false,true,false,false,false,false,false,false,false,false] rfl rfl (by kernel_rfl) (fun _ _ _ h=>h) (Or.inl ⟨by rfl,?_⟩) ?_ ?_;rotate_left
       ·exact XaJ
       rotate_left
       ·exact WaJ
       refine Pe (i:=11) (N:=some 137) (v:=?_) (a':=?_) #[true,true,true,true,true,true,true,true,true,true,true,true,true,false,false,false,false,false,false,false,false] rfl rfl (by kernel_rfl) (fun _ _ _ h=>h) (Or.inl ⟨by rfl,?_⟩) hHeld ?_ ?_;rotate_left
       ·exact eaK
       rotate_left
       ·exact WaJ
       refine ec (i:=13) (N:=some 139) (v:=?_) (a':=?_) #[true,true,true,true,true,true,true,true,true,true,true,true,true,true,false,false,false,false,false,false,false] rfl rfl (by kernel_rfl) (fun _ _ _ h=>h) (Or.inl ⟨by rfl,?_⟩) ?_ ?_;rotate_left
       ·exact XaJ
       rotate_left
       ·exact WaJ
       refine ec (i:=14) (N:=some 140) (v:=?_) (a':=?_) #[true,true,true,true,true,true,true,true,true,true,true,true,true,true,true,false,false,false,false,false,false] rfl rfl (by kernel_rfl) (fun _ _ _ h=>h) (Or.inl ⟨by rfl,?_⟩) ?_ ?_;rotate_left
       ·exact XaJ
       rotate_left
       ·exact WaJ
       refine Pe (i:=15) (N:=some 141) (v:=?_) (a':=?_) #[true,true,true,true,true,true,true,true,true,true,true,true,true,true,true,true,false,false,false,false,false] rfl rfl (by kernel_rfl) (fun _ _ _ h=>h) (Or.inl ⟨by rfl,?_⟩) hHeld ?_ ?_;rotate_left
       ·exact eaK
       rotate_left
       ·exact WaJ
       refine ec (i:=16) (N:=some 142) (v:=?_) (a':=?_) #[true,true,true,true,true,true,true,true,true,true,true,true,true,true,true,true,true,false,false,false,false] rfl rfl (by kernel_rfl) (fun _ _ _ h=>h) (Or.inl ⟨by rfl,?_⟩) ?_ ?_;rotate_left
       ·exact XaJ
       rotate_left
       ·exact WaJ
       refine Pe (i:=17) (N:=some 143) (v:=?_) (a':=?_) #[true,true,true,true,true,true,true,true,true,true,true,true,true,true,true,true,true,true,false,false,false] rfl rfl (by kernel_rfl) (fun _ _ _ h=>h) (Or.inl ⟨by rfl,?_⟩) hHeld ?_ ?_;rotate_left
       ·exact eaK
       rotate_left
       ·exact WaJ
       refine ec (i:=18) (N:=some 144) (v:=?_) (a':=?_) #[true,true,true,true,true,true,true,true,true,true,true,true,true,true,true,true,true,true,true,false,false] rfl rfl (by kernel_rfl) (fun _ _ _ h=>h) (Or.inl ⟨by rfl,?_⟩) ?_ ?_;rotate_left
       ·exact XaJ
       rotate_left
       ·exact WaJ
       refine ec (i:=19) (N:=some 145) (v:=?_) (a':=?_) #[true,true,true,true,true,true,true,true,true,true,true,true,true,true,true,true,true,true,true,true,false] rfl rfl (by kernel_rfl) (fun _ _ _ h=>h) (Or.inl ⟨by rfl,?_⟩) ?_ ?_;rotate_left
       ·exact XaJ
       rotate_left
       ·exact WaJ
       refine aC (i:=20) (N:=none) #[true,true,true,true,true,true,true,true,true,true,true,true,true,true,true,true,true,true,true,true,true] rfl rfl (by kernel_rfl) (by decide) (fun K hK=>?_);have hfz:=HF4.out;have hcz:=HE4.out;refine DE (w1:=?_) (by rfl) rfl ?_ ?_;rotate_left
       ·go_simp
        rfl
       refine hK.out _ _ ?_;clear hK K;refine fk (by kernel_rfl) ?_;clear hHeld
       have HRn:=aa.mk (show Kd.R Yg 79 (wx2.setCell ⟨g,z * 5 + 4,none⟩ (.int .i64 (rd Bg (N:Int)))) w.heap.size PC (.slice (some ⟨g,0,none⟩) ws.length cC) ((J.take (t + 1)).foldl (Nm Bg) ws) from by
        have h:=HSG.out;rw [Int.toNat_natCast] at h;rw [HNX.out]
        exact h)
       have HKn:=aa.mk (show Kept wq (wx2.setCell ⟨g,z * 5 + 4,none⟩ (.int .i64 (rd Bg (N:Int)))) (fun k=>PC k) from HKd.out.setCell (p:=⟨g,z * 5 + 4,none⟩) (Or.inl HPG.out) _);have HZn:=aa.mk (oam.out.trans ((Below.refl 0 wx2).setCell (p:=⟨g,z * 5 + 4,none⟩) (Nat.zero_le _) (.int .i64 (rd Bg (N:Int)))));go_wp2
       go_roundg (J.length - (t + 1))
       case measure=>omega
       case rel=>exact ⟨t + 1,by go_num,by omega,by omega,HRn,HKn,HZn⟩
      ·have htb:decide ((t:Int) < (J.length:Int))=false:=decide_eq_false (by omega);obtain rfl:t=J.length:=by omega
       have HRE:=HR.out;rw [List.take_length,← FX.out] at HRE;have HRF:=aa.mk HRE;clear HRE;have HYf:=aa.mk (Sd HYX.out HK.out (HFP.out _ HFG.out.2));have HSf:=aa.mk (Kd.Kh HSX.out HK.out (fun k hk e=>HFP.out k hk e));have HBf:=aa.mk (vu HBW.out HBW.out.size HK.out (fun k e=>(HPB.out k e).1) HZ.out);obtain ⟨AS,cS,rfl⟩:=Kd.Lc HSf.out;have h50:wr.cell? ⟨q5,0,none⟩=some (.pointer (some ⟨gc,0,none⟩)):=(ja HPx.out 0).trans rfl;obtain ⟨m0,m1,m2,m3⟩:=Xaz HGx.out;obtain ⟨y0,y1,y2,y3,f0,f1,f2,f3⟩:=bT HYf.out;go_wp2;have hk0:Kept wr (wr.setCell ⟨w.heap.size + 1,0,none⟩ (.slice AS Ua.length cS)) (fun k=>k=w.heap.size + 1):=(Kept.refl wr (fun k=>k=w.heap.size + 1)).setCell (p:=⟨w.heap.size + 1,0,none⟩) (Or.inl rfl) _;have m8:=hk0.setCell (p:=⟨w.heap.size + 1,1,none⟩) (Or.inl rfl) (.int .i64 Pa);have hk2:=m8.setCell (p:=⟨w.heap.size + 1,2,none⟩) (Or.inl rfl) (.int .i64 (n:Int));have Ts:=hk2.setCell (p:=⟨w.heap.size + 1,3,none⟩) (Or.inl rfl) (.slice AC ws.length cC);have hbl:=(yp (yp (yp (yp HYf.out 0 (.slice AS Ua.length cS)) 1 (.int .i64 Pa)) 2 (.int .i64 (n:Int))) 3 (.slice AC ws.length cC)).trans rfl;have hbw:=(((HBf.out.setCell (p:=⟨w.heap.size + 1,0,none⟩) (Nat.le_succ _) (.slice AS Ua.length cS)).setCell (p:=⟨w.heap.size + 1,1,none⟩) (Nat.le_succ _) (.int .i64 Pa)).setCell (p:=⟨w.heap.size + 1,2,none⟩) (Nat.le_succ _) (.int .i64 (n:Int))).setCell (p:=⟨w.heap.size + 1,3,none⟩) (Nat.le_succ _) (.slice AC ws.length cC);have hz2:=HZd.out;refine bodyPost_ret (results_cell_row rfl _ _ (w.heap.size + 1) 49 #[.slice AS Ua.length cS,.int .i64 Pa,.int .i64 (n:Int),.slice AC ws.length cC] (0,0) _ rfl ?_ Try.underlying49 rfl (by kernel_rfl)) rfl ?_
       ·exact hbl
       ·exact ⟨_,_,rfl,Kd.yc (Kd.td (Kd.Kh (Kd.Xf HSf.out) Ts (fun k hk e=>by have:=hk.2.1;omega)) (by omega)) (fun _ _=>trivial),Kd.yc (Kd.Kh HRF.out Ts (fun k hk e=>HFP.out _ HFG.out.2 (e ▸ hk))) (fun _ _=>trivial),hbw⟩
attribute [local go_sem] Mh ki rj Kj th qh ni ji
noncomputable def ug.l0:Nat→List Int→Int→Int→List Int→Int→Int→Int→List (Ff)→Option (List Int × Int × Int × (List (Zb)))
 | 0,_,_,_,_,_,_,_,_=>none
 | k + 1,x3,x10,x11,qe,Ie,Wd,me,Qc=>if x11 < x10 then (if x3.length < 17592186044416 then (ug.l0 k (x3 ++ [(-1)]) x10 (wrap64 (x11 + 1)) qe Ie Wd me Qc) else (none)) else ((Th.f qe Ie Wd me Qc x3).bind fun pR=>(some (pR.1,pR.2.1,pR.2.2.1,pR.2.2.2)))
noncomputable def ug.f (k:Nat) (Ua:List Int) (Pa:Int) (Ra:Int) (Sa:Int) (Fa:List (Ff)):Option (List Int × Int × Int × (List (Zb))):=(jd.f k Ua Pa Ra Sa Fa).bind fun t103=>(if t103=true then (ug.l0 k (([]:List Int)) Sa 0 Ua Pa Ra Sa Fa) else (some (([]:List Int),0,0,([]:List (Zb)))))
theorem ug.calls (k:Nat) (yb:Option Addr) (zb:Nat) (Ua:List Int) (Pa:Int) (Ra:Int) (Sa:Int) (fc:Option Addr) (Qb:Nat) (Fa:List (Ff)) (r1:List Int) (r2:Int) (r3:Int) (r4:List (Zb)) (w:World) (jf:Kd.C (Kd.int .i64) w yb Ua.length Ua) (Ze:Ua.length ≤ zb) (Lg:Kd.C Wr w fc Fa.length Fa) (Ig:Fa.length ≤ Qb) (h:ug.f k Ua Pa Ra Sa Fa=some (r1,r2,r3,r4)) :
  Calls Try.prog 34 #[.agg #[.slice yb Ua.length zb,.int .i64 Pa,.int .i64 Ra,.int .i64 Sa,.slice fc Fa.length Qb]] w fun e w'=>∃ Zn b7:Value,e = .returned (.agg #[Zn,.int .i64 r2,.int .i64 r3,b7])∧Kd.R (Kd.int .i64) 3 w' w.heap.size (fun _=>True) Zn r1∧Kd.R Yg 79 w' w.heap.size (fun _=>True) b7 r4∧Below w.heap.size w w':=by
 have uI:=Try.underlying30;have rZ:=Try.underlying49;have lf:=aa.mk jf;have Df:=aa.mk Ze;clear jf Ze;have Tg:=aa.mk Lg;have Ej:=aa.mk Ig;clear Lg Ig;have HB:=aa.mk (Below.refl w.heap.size w);have H:((jd.f k Ua Pa Ra Sa Fa).bind fun t103=>(if t103=true then (ug.l0 k (([]:List Int)) Sa 0 Ua Pa Ra Sa Fa) else (some (([]:List Int),0,0,([]:List (Zb))))))=some (r1,r2,r3,r4):=h;clear h;replace H:=Option.bind_eq_some_iff.mp H;obtain ⟨t103,uC,H⟩:=H
 try dsimp only at H
 have A2:=aa.mk uC;clear uC
 by_cases c3:t103=true
 ·subst c3;rw [if_pos rfl] at H;obtain ⟨Md,gl⟩:∃ y_:List Int,y_=(([]:List Int)):=⟨_,rfl⟩;replace H:(ug.l0 k Md Sa 0 Ua Pa Ra Sa Fa)=some (r1,r2,r3,r4):=by first|(rw [gl];with_reducible exact H)|(have Ld:=(Option.bind_some _ _).symm.trans H;rw [gl];with_reducible exact Ld)|(have Ld:=(Option.bind_some _ _).symm.trans H;with_reducible exact Ld)|with_reducible exact H|(rw [gl];exact H)|exact H
  have Rv:=aa.mk gl;clear gl;have H':=aa.mk H;clear H;go_enter Try.func34,Try.ntmps34;go_wp2_with (first|((with_reducible refine Za (N:=1) rfl ?_);refine Ab ?hg (N:=1) ?hd (cs:=#[.slice yb Ua.length zb,.int .i64 Pa,.int .i64 Ra,.int .i64 Sa,.slice fc Fa.length Qb]) (t:=30) ?hr ?_;(case hd|hg=>rfl);(case hr=>exact gaK);intro ya hg w4 Fb hb;have Bb:=aa.mk (Ma jaK hb);have Db:=aa.mk (Fb);have Ib:=aa.mk ((by rw [hg];exact (Da jaK):w.heap.size ≤ ya));have Xb:=aa.mk ((by rw [hg];exact (Da jaK):w.heap.size ≤ ya));clear HB;have HB:=Bb;have ta:=Db;have Jd:=Ib;have Qa:=Xb;clear Bb Db Ib Xb hb Fb hg)|((with_reducible refine Za (N:=2) rfl ?_);refine Ab ?hg (N:=2) ?hd (cs:=#[.slice none 0 0,.int .i64 0,.int .i64 0,.slice none 0 0]) (t:=49) ?hr ?_;(case hd|hg=>rfl);(case hr=>exact gaK);intro Ta hg w5 Fb hb;have Bb:=aa.mk (Na (g:=ya) (o:=.cells #[.slice yb Ua.length zb,.int .i64 Pa,.int .i64 Ra,.int .i64 Sa,.slice fc Fa.length Qb] 30 (0,0)) kaK hb);have Db:=aa.mk (Ma iaK hb);have Ib:=aa.mk (Fb);have Xb:=aa.mk ((by rw [hg];exact (Da iaK):w.heap.size ≤ Ta));have De:=aa.mk ((by rw [hg];exact (Da iaK):w.heap.size ≤ Ta));have ef:=aa.mk ((by rw [hg];exact Nat.ne_of_lt (Tb (g:=ya) (o:=.cells #[.slice yb Ua.length zb,.int .i64 Pa,.int .i64 Ra,.int .i64 Sa,.slice fc Fa.length Qb] 30 (0,0)) kaK):ya ≠ Ta));have Cf:=aa.mk ((by rw [hg];exact Nat.ne_of_gt (Tb (g:=ya) (o:=.cells #[.slice yb Ua.length zb,.int .i64 Pa,.int .i64 Ra,.int .i64 Sa,.slice fc Fa.length Qb] 30 (0,0)) kaK):Ta ≠ ya));clear ta HB;have ta:=Bb;have HB:=Db;have Ea:=Ib;have bh:=Xb;have Lb:=De;have xb:=ef;have qb:=Cf;clear Bb Db Ib Xb De ef Cf hb Fb hg;have pag:=xb.out;have Zaf:=qb.out;have Nv:w5.cell? ⟨ya,0,none⟩=some (.slice yb Ua.length zb):=(ja ta.out 0).trans rfl;have Mv:w5.cell? ⟨ya,1,none⟩=some (.int .i64 Pa):=(ja ta.out 1).trans rfl;have Lv:w5.cell? ⟨ya,2,none⟩=some (.int .i64 Ra):=(ja ta.out 2).trans rfl;have Kv:w5.cell? ⟨ya,3,none⟩=some (.int .i64 Sa):=(ja ta.out 3).trans rfl;have Jv:w5.cell? ⟨ya,4,none⟩=some (.slice fc Fa.length Qb):=(ja ta.out 4).trans rfl;have Bv:=qa ta.out 0;have Av:=qa ta.out 1;have zv:=qa ta.out 2;have wv:=qa ta.out 3;have vv:=qa ta.out 4)|((with_reducible refine Cb (f:=46) rfl ?_);refine Jc (some 5) rfl rfl Try.func46 (by kernel_rfl) rfl #[.agg #[.slice yb Ua.length zb,.int .i64 Pa,.int .i64 Ra,.int .i64 Sa,.slice fc Fa.length Qb]] rfl laK ?_;(with_reducible refine (jd.calls k _ _ Ua Pa Ra Sa _ _ Fa true _ ?Ic ?Gc ?Ae ?ze A2.out).mono ?_);(case Ic=>repeat (first|exact (Kd.Kb lf.out HB.out)|(with_reducible refine Kd.Vb ?_ _)|(with_reducible refine Kd.Ub ?_ _)|(with_reducible refine Kd.tc ?_)));(case Gc=>exact Df.out);(case Ae=>repeat (first|exact (Kd.Kb Tg.out HB.out)|(with_reducible refine Kd.Vb ?_ _)|(with_reducible refine Kd.Ub ?_ _)|(with_reducible refine Kd.tc ?_)));(case ze=>exact Ej.out);rintro e w8 ⟨rfl,hb⟩;refine ⟨_,rfl,?_⟩;have Bb:=aa.mk (Na (g:=ya) (o:=.cells #[.slice yb Ua.length zb,.int .i64 Pa,.int .i64 Ra,.int .i64 Sa,.slice fc Fa.length Qb] 30 (0,0)) kaK hb);have Db:=aa.mk (Na (g:=Ta) (o:=.cells #[.slice none 0 0,.int .i64 0,.int .i64 0,.slice none 0 0] 49 (0,0)) qaK hb);have Ib:=aa.mk (Ma paK hb);clear ta Ea HB;have ta:=Bb;have Ea:=Db;have HB:=Ib;clear Bb Db Ib;(try clear hb);(try clear ek);(try clear hk);(try clear hi))|((with_reducible refine Za (N:=8) rfl ?_);refine Kd.Ei (Kd.int .i64) _ 3 ?hg (N:=8) ?hd (xs:=([]:List Int)) (inner:=[]) (ok:=fun _=>True) (Sh:=fun _=>True) ?hr ?hp (fun _ hk=>hk) trivial (Below.refl _ _) (Nat.le_refl _) (by simp) ?_;(case hd|hg=>rfl);(case hr=>exact gaK);(case hp=>exact (Wc.none _ _));intro zC w9 EC hb bk xe;clear bk xe;(first|rw [← Rv.out] at EC|(simp only [Int.reduceToNat] at EC;rw [← Rv.out] at EC));have Bb:=aa.mk (Kd.td EC (Da paK));have Db:=aa.mk (Na (g:=ya) (o:=.cells #[.slice yb Ua.length zb,.int .i64 Pa,.int .i64 Ra,.int .i64 Sa,.slice fc Fa.length Qb] 30 (0,0)) kaK hb);have Ib:=aa.mk (Na (g:=Ta) (o:=.cells #[.slice none 0 0,.int .i64 0,.int .i64 0,.slice none 0 0] 49 (0,0)) qaK hb);have Xb:=aa.mk (Ma paK hb);clear ta Ea HB;have Vh:=Bb;have ta:=Db;have Ea:=Ib;have HB:=Xb;clear Bb Db Ib Xb hb EC;have tr:w9.cell? ⟨ya,0,none⟩=some (.slice yb Ua.length zb):=(ja ta.out 0).trans rfl;have sr:w9.cell? ⟨ya,1,none⟩=some (.int .i64 Pa):=(ja ta.out 1).trans rfl;have nr:w9.cell? ⟨ya,2,none⟩=some (.int .i64 Ra):=(ja ta.out 2).trans rfl;have kr:w9.cell? ⟨ya,3,none⟩=some (.int .i64 Sa):=(ja ta.out 3).trans rfl;have jr:w9.cell? ⟨ya,4,none⟩=some (.slice fc Fa.length Qb):=(ja ta.out 4).trans rfl;have Kq:=qa ta.out 0;have Jq:=qa ta.out 1;have Iq:=qa ta.out 2;have Hq:=qa ta.out 3;have Gq:=qa ta.out 4))
  go_loopg [3,11] k (fun kq v3 v11 w'=>∃ (We:List Int) (WB:Int),v11 = .int .i64 WB∧aa (ug.l0 kq We Sa WB Ua Pa Ra Sa Fa=some (r1,r2,r3,r4))∧aa (kq ≤ k)∧aa (Kd.R (Kd.int .i64) 3 w' w.heap.size (fun _=>True) v3 We)∧aa (w'.heap[ya]? = some (.cells #[(.slice yb Ua.length zb),.int .i64 Pa,.int .i64 Ra,.int .i64 Sa,(.slice fc Fa.length Qb)] 30 (0,0)))∧aa (w'.heap[Ta]? = some (.cells #[(.slice none 0 0),.int .i64 0,.int .i64 0,(.slice none 0 0)] 49 (0,0)))∧aa (Below w.heap.size w w'))
  case atStart=>exact ⟨(Md),(0),saK,H',⟨Nat.le_refl _⟩,⟨by (with_reducible repeat (first|apply Kd.Xa|apply Kd.Ya|apply Kd.gb));exact Vh.out⟩,⟨taK⟩,⟨xaK⟩,⟨maK⟩⟩
  case round =>
   clear H'
   try clear p2
   try clear c3
   try clear c4
   try clear c6
   try clear tr
   try clear sr
   try clear nr
   try clear kr
   try clear jr
   try clear Nv
   try clear Mv
   try clear Lv
   try clear Kv
   try clear Jv
   try clear Kq
   try clear Jq
   try clear Iq
   try clear Hq
   try clear Gq
   try clear Bv
   try clear Av
   try clear zv
   try clear wv
   try clear vv
   (try clear HA);(try clear Vg);(try clear Jf);(try clear ta);(try clear Ea);(try clear HB);obtain ⟨We,WB,rfl,HA,Vg,Jf,ta,Ea,HB⟩:=hrel;cases gk with
   | zero=>exact absurd HA.out (by simp [ug.l0])
   | succ k1 =>
    have H:=HA.out;clear HA;simp only [ug.l0] at H
    by_cases uo:WB < Sa
    ·rw [if_pos uo] at H;have JA:decide (WB < Sa)=true:=decide_eq_true uo;clear uo
     by_cases ZF:We.length < 17592186044416
     ·rw [if_pos ZF] at H;have rW:=aa.mk ZF;clear ZF;obtain ⟨zh,cv⟩:∃ y_:List Int,y_=(We ++ [(-1)]):=⟨_,rfl⟩;replace H:(ug.l0 k1 zh Sa (wrap64 (WB + 1)) Ua Pa Ra Sa Fa)=some (r1,r2,r3,r4):=by first|(rw [cv];with_reducible exact H)|(have Ld:=(Option.bind_some _ _).symm.trans H;rw [cv];with_reducible exact Ld)|(have Ld:=(Option.bind_some _ _).symm.trans H;with_reducible exact Ld)|with_reducible exact H|(rw [cv];exact H)|exact H
      have yM:=aa.mk cv;clear cv;have H':=aa.mk H;clear H;go_wp2_with (first|((with_reducible refine Qe (b:=.append) (xs:=#[.tmp 13,.tmp 14]) rfl ?_);at_builtin;refine Kd.Ph (Kd.int .i64) (w0:=w) w.heap.size rfl (.tmp 13) (.tmp 14) 22 3 (.int .i64 0) 8 rfl Try.underlying22 info3 rfl (by decide) (by omega) u3 We (-1) [.int .i64 (-1)] (fun _=>True) (fun _=>False) rfl rfl ?aP (fun _ hk=>hk.elim) ?aF ?aO ?aB ?aS ?aL ?_;(case aP=>exact rfl);(case aB=>exact paK);(case aF=>exact (fun _ _=>trivial));(case aO=>exact CaK);(case aS=>exact (Da paK));(case aL=>have:=rW.out;omega);intro WR Ol ho hb hg hat;rw [← yM.out] at ho;have Bb:=aa.mk (Mc (g:=ya) (o:=.cells #[.slice yb Ua.length zb,.int .i64 Pa,.int .i64 Ra,.int .i64 Sa,.slice fc Fa.length Qb] 30 (0,0)) kaK hg (Kd.Yh Jf.out ta.out (by decide)));have Db:=aa.mk (Mc (g:=Ta) (o:=.cells #[.slice none 0 0,.int .i64 0,.int .i64 0,.slice none 0 0] 49 (0,0)) qaK hg (Kd.Yh Jf.out Ea.out (by decide)));have Ib:=aa.mk (hb);have Xb:=aa.mk (ho);clear ta Ea HB Jf;have ta:=Bb;have Ea:=Db;have HB:=Ib;have zl:=Xb;clear Bb Db Ib Xb ho hb hg hat))
      go_roundg k1
      case measure=>have:=Vg.out;omega
      case rel=>exact ⟨(zh),(wrap64 (WB + 1)),saK,H',⟨by have:=Vg.out;omega⟩,⟨by (with_reducible repeat (first|apply Kd.Xa|apply Kd.Ya|apply Kd.gb));exact zl.out⟩,⟨taK⟩,⟨xaK⟩,⟨maK⟩⟩
     ·rw [if_neg ZF] at H;exact absurd H (by simp)
    ·rw [if_neg uo] at H;have JA:decide (WB < Sa)=false:=decide_eq_false uo;clear uo;replace H:=Option.bind_eq_some_iff.mp H;obtain ⟨⟨t110,t113,t114,t115⟩,fY,H⟩:=H;replace H:(some (t110,t113,t114,t115))=some (r1,r2,r3,r4):=H;have A15:=aa.mk fY;clear fY;simp only [Option.some.injEq,Prod.mk.injEq] at H;obtain ⟨rfl,rfl,rfl,rfl⟩:=H;have waD:=xb.out;have NaC:=qb.out;obtain ⟨ux,sx,qx,ox,jx,Hw,Gw,Fw,Ew,Dw⟩:=ri ta.out;obtain ⟨mae,wac,mac⟩:=Kd.Lc Jf.out;subst mac;go_wp2_with (first|((with_reducible refine Cb (f:=66) rfl ?_);refine Jc (some 19) rfl rfl Try.func66 (by kernel_rfl) rfl #[.agg #[.slice yb Ua.length zb,.int .i64 Pa,.int .i64 Ra,.int .i64 Sa,.slice fc Fa.length Qb],.slice mae We.length wac] rfl laK ?_;(with_reducible refine (Th.calls _ _ Ua Pa Ra Sa _ _ Fa _ _ We t110 t113 t114 t115 _ ?Ic ?Gc ?Ae ?ze ?Su ?Ru A15.out).mono ?_);(case Ic=>repeat (first|exact (Kd.Kb lf.out HB.out)|(with_reducible refine Kd.Vb ?_ _)|(with_reducible refine Kd.Ub ?_ _)|(with_reducible refine Kd.tc ?_)));(case Gc=>exact Df.out);(case Ae=>repeat (first|exact (Kd.Kb Tg.out HB.out)|(with_reducible refine Kd.Vb ?_ _)|(with_reducible refine Kd.Ub ?_ _)|(with_reducible refine Kd.tc ?_)));(case ze=>exact Ej.out);(case Su=>repeat (first|exact (Kd.Jb Jf.out).2.2|(with_reducible refine Kd.Vb ?_ _)|(with_reducible refine Kd.Ub ?_ _)|(with_reducible refine Kd.tc ?_)));(case Ru=>exact (Kd.Jb Jf.out).2.1);rintro e Qo ⟨aaG,cN,rfl,fj,ho1,hb⟩;refine ⟨_,rfl,?_⟩;have Bb:=aa.mk (Kd.aj CaK (Kd.en fj) hb);have Db:=aa.mk (Kd.td (Kd.Jn fj (Kd.Ap CaK)) (Da paK));have Ib:=aa.mk (Kd.td ho1 (Da paK));have Xb:=aa.mk (Na (g:=ya) (o:=.cells #[.slice yb Ua.length zb,.int .i64 Pa,.int .i64 Ra,.int .i64 Sa,.slice fc Fa.length Qb] 30 (0,0)) kaK hb);have De:=aa.mk (Na (g:=Ta) (o:=.cells #[.slice none 0 0,.int .i64 0,.int .i64 0,.slice none 0 0] 49 (0,0)) qaK hb);have ef:=aa.mk (Ma paK hb);clear Jf ta Ea HB;have Jf:=Bb;have D_:=Db;have xo:=Ib;have ta:=Xb;have Ea:=De;have HB:=ef;clear Bb Db Ib Xb De ef;(try clear hb);(try clear ek);(try clear hk);(try clear hi);(try clear fj);(try clear ho1);obtain ⟨IM,dM,lac⟩:=Kd.Lc D_.out;subst lac;have MJ:Qo.cell? ⟨Ta,0,none⟩=some (.slice none 0 0):=(ja Ea.out 0).trans rfl;have LJ:Qo.cell? ⟨Ta,1,none⟩=some (.int .i64 0):=(ja Ea.out 1).trans rfl;have KJ:Qo.cell? ⟨Ta,2,none⟩=some (.int .i64 0):=(ja Ea.out 2).trans rfl;have JJ:Qo.cell? ⟨Ta,3,none⟩=some (.slice none 0 0):=(ja Ea.out 3).trans rfl;have dJ:=qa Ea.out 0;have bJ:=qa Ea.out 1;have aJ:=qa Ea.out 2;have ZI:=qa Ea.out 3;obtain ⟨lae,vac,Caz⟩:=Kd.Lc xo.out;subst Caz));refine bodyPost_ret (results_cell_row rfl _ _ Ta 49 #[.slice IM t110.length dM,.int .i64 t113,.int .i64 t114,.slice lae t115.length vac] (0,0) _ rfl (by (with_reducible repeat (first|refine za ?_ _|refine Ba ?_|refine Aa ?_ _));refine zd (cs:=#[.slice IM t110.length dM,.int .i64 t113,.int .i64 t114,.slice none 0 0]) ?_ 3 _ rfl;(with_reducible repeat (first|refine za ?_ _|refine Ba ?_|refine Aa ?_ _));refine zd (cs:=#[.slice IM t110.length dM,.int .i64 t113,.int .i64 0,.slice none 0 0]) ?_ 2 _ rfl;(with_reducible repeat (first|refine za ?_ _|refine Ba ?_|refine Aa ?_ _));refine zd (cs:=#[.slice IM t110.length dM,.int .i64 0,.int .i64 0,.slice none 0 0]) ?_ 1 _ rfl;(with_reducible repeat (first|refine za ?_ _|refine Ba ?_|refine Aa ?_ _));refine zd (cs:=#[.slice none 0 0,.int .i64 0,.int .i64 0,.slice none 0 0]) ?_ 0 _ rfl;(with_reducible repeat (first|refine za ?_ _|refine Ba ?_|refine Aa ?_ _));exact Ea.out) Try.underlying49 rfl (by kernel_rfl)) rfl ?_;exact ⟨_,_,naK,by (with_reducible repeat (first|apply Kd.Xa|apply Kd.Ya|apply Kd.gb));exact Kd.yc (Kd.zf (p:=⟨Ta,3,none⟩) (Kd.zf (p:=⟨Ta,2,none⟩) (Kd.zf (p:=⟨Ta,1,none⟩) (Kd.zf (p:=⟨Ta,0,none⟩) (Kd.nh D_.out Ea.out (by decide)) (fun _ hk=>hk.2) (.slice IM t110.length dM)) (fun _ hk=>hk.2) (.int .i64 t113)) (fun _ hk=>hk.2) (.int .i64 t114)) (fun _ hk=>hk.2) (.slice lae t115.length vac)) (fun _ hk=>trivial),by (with_reducible repeat (first|apply Kd.Xa|apply Kd.Ya|apply Kd.gb));exact Kd.yc (Kd.zf (p:=⟨Ta,3,none⟩) (Kd.zf (p:=⟨Ta,2,none⟩) (Kd.zf (p:=⟨Ta,1,none⟩) (Kd.zf (p:=⟨Ta,0,none⟩) (Kd.nh xo.out Ea.out (by decide)) (fun _ hk=>hk.2) (.slice IM t110.length dM)) (fun _ hk=>hk.2) (.int .i64 t113)) (fun _ hk=>hk.2) (.int .i64 t114)) (fun _ hk=>hk.2) (.slice lae t115.length vac)) (fun _ hk=>trivial),maK⟩
 ·replace c3:=Bool.eq_false_iff.mpr c3;subst c3;rw [if_neg (show ¬ (false=true) by decide)] at H;simp only [Option.some.injEq,Prod.mk.injEq] at H;obtain ⟨rfl,rfl,rfl,rfl⟩:=H;go_enter Try.func34,Try.ntmps34;go_wp2_with (first|((with_reducible refine Za (N:=1) rfl ?_);refine Ab ?hg (N:=1) ?hd (cs:=#[.slice yb Ua.length zb,.int .i64 Pa,.int .i64 Ra,.int .i64 Sa,.slice fc Fa.length Qb]) (t:=30) ?hr ?_;(case hd|hg=>rfl);(case hr=>exact gaK);intro ya hg Po Fb hb;have Bb:=aa.mk (Ma jaK hb);have Db:=aa.mk (Fb);have Ib:=aa.mk ((by rw [hg];exact (Da jaK):w.heap.size ≤ ya));have Xb:=aa.mk ((by rw [hg];exact (Da jaK):w.heap.size ≤ ya));clear HB;have HB:=Bb;have ta:=Db;have Jd:=Ib;have Qa:=Xb;clear Bb Db Ib Xb hb Fb hg)|((with_reducible refine Za (N:=2) rfl ?_);refine Ab ?hg (N:=2) ?hd (cs:=#[.slice none 0 0,.int .i64 0,.int .i64 0,.slice none 0 0]) (t:=49) ?hr ?_;(case hd|hg=>rfl);(case hr=>exact gaK);intro Ta hg Xv Fb hb;have Bb:=aa.mk (Na (g:=ya) (o:=.cells #[.slice yb Ua.length zb,.int .i64 Pa,.int .i64 Ra,.int .i64 Sa,.slice fc Fa.length Qb] 30 (0,0)) kaK hb);have Db:=aa.mk (Ma iaK hb);have Ib:=aa.mk (Fb);have Xb:=aa.mk ((by rw [hg];exact (Da iaK):w.heap.size ≤ Ta));have De:=aa.mk ((by rw [hg];exact (Da iaK):w.heap.size ≤ Ta));have ef:=aa.mk ((by rw [hg];exact Nat.ne_of_lt (Tb (g:=ya) (o:=.cells #[.slice yb Ua.length zb,.int .i64 Pa,.int .i64 Ra,.int .i64 Sa,.slice fc Fa.length Qb] 30 (0,0)) kaK):ya ≠ Ta));have Cf:=aa.mk ((by rw [hg];exact Nat.ne_of_gt (Tb (g:=ya) (o:=.cells #[.slice yb Ua.length zb,.int .i64 Pa,.int .i64 Ra,.int .i64 Sa,.slice fc Fa.length Qb] 30 (0,0)) kaK):Ta ≠ ya));clear ta HB;have ta:=Bb;have HB:=Db;have Ea:=Ib;have bh:=Xb;have Lb:=De;have xb:=ef;have qb:=Cf;clear Bb Db Ib Xb De ef Cf hb Fb hg;have ZU:=xb.out;have YU:=qb.out;have Qq:Xv.cell? ⟨ya,0,none⟩=some (.slice yb Ua.length zb):=(ja ta.out 0).trans rfl;have Pq:Xv.cell? ⟨ya,1,none⟩=some (.int .i64 Pa):=(ja ta.out 1).trans rfl;have Oq:Xv.cell? ⟨ya,2,none⟩=some (.int .i64 Ra):=(ja ta.out 2).trans rfl;have Nq:Xv.cell? ⟨ya,3,none⟩=some (.int .i64 Sa):=(ja ta.out 3).trans rfl;have Mq:Xv.cell? ⟨ya,4,none⟩=some (.slice fc Fa.length Qb):=(ja ta.out 4).trans rfl;have mq:=qa ta.out 0;have lq:=qa ta.out 1;have jq:=qa ta.out 2;have iq:=qa ta.out 3;have gq:=qa ta.out 4)|((with_reducible refine Cb (f:=46) rfl ?_);refine Jc (some 5) rfl rfl Try.func46 (by kernel_rfl) rfl #[.agg #[.slice yb Ua.length zb,.int .i64 Pa,.int .i64 Ra,.int .i64 Sa,.slice fc Fa.length Qb]] rfl laK ?_;(with_reducible refine (jd.calls k _ _ Ua Pa Ra Sa _ _ Fa false _ ?Ic ?Gc ?Ae ?ze A2.out).mono ?_);(case Ic=>repeat (first|exact (Kd.Kb lf.out HB.out)|(with_reducible refine Kd.Vb ?_ _)|(with_reducible refine Kd.Ub ?_ _)|(with_reducible refine Kd.tc ?_)));(case Gc=>exact Df.out);(case Ae=>repeat (first|exact (Kd.Kb Tg.out HB.out)|(with_reducible refine Kd.Vb ?_ _)|(with_reducible refine Kd.Ub ?_ _)|(with_reducible refine Kd.tc ?_)));(case ze=>exact Ej.out);rintro e IG ⟨rfl,hb⟩;refine ⟨_,rfl,?_⟩;have Bb:=aa.mk (Na (g:=ya) (o:=.cells #[.slice yb Ua.length zb,.int .i64 Pa,.int .i64 Ra,.int .i64 Sa,.slice fc Fa.length Qb] 30 (0,0)) kaK hb);have Db:=aa.mk (Na (g:=Ta) (o:=.cells #[.slice none 0 0,.int .i64 0,.int .i64 0,.slice none 0 0] 49 (0,0)) qaK hb);have Ib:=aa.mk (Ma paK hb);clear ta Ea HB;have ta:=Bb;have Ea:=Db;have HB:=Ib;clear Bb Db Ib;(try clear hb);(try clear ek);(try clear hk);(try clear hi);have fE:IG.cell? ⟨Ta,0,none⟩=some (.slice none 0 0):=(ja Ea.out 0).trans rfl;have eE:IG.cell? ⟨Ta,1,none⟩=some (.int .i64 0):=(ja Ea.out 1).trans rfl;have cE:IG.cell? ⟨Ta,2,none⟩=some (.int .i64 0):=(ja Ea.out 2).trans rfl;have bE:IG.cell? ⟨Ta,3,none⟩=some (.slice none 0 0):=(ja Ea.out 3).trans rfl;have uD:=qa Ea.out 0;have tD:=qa Ea.out 1;have sD:=qa Ea.out 2;have rD:=qa Ea.out 3));refine bodyPost_ret (results_cell_row rfl _ _ Ta 49 #[.slice none 0 0,.int .i64 0,.int .i64 0,.slice none 0 0] (0,0) _ rfl OaK Try.underlying49 rfl (by kernel_rfl)) rfl ?_;exact ⟨_,_,naK,UaK,UaK,maK⟩
section
variable {l0:List Int} {p v s:Int} {l4:List Ff}
theorem qu (h:Uj l0 p v s l4=true):sB l0 p v s l4.length=true∧(∀ b ∈ l4,Lp l0 s l4 b=true)∧Rd l4 ≤ 1000:=by
 unfold Uj at h;simp only [Bool.and_eq_true,Bool.not_eq_true',List.any_eq_false,decide_eq_true_eq] at h;exact ⟨h.1,fun b hb=>by have:=h.2.1 b hb;simpa using this,h.2.2⟩
theorem gR (l:List Ff) (b:Ff) (hb:b ∈ l):b.f0.length ≤ Rd l:=by
 unfold Rd;exact QE (List.mem_map.mpr ⟨b,hb,rfl⟩)
end
end Go.Proofs.Ytkigbdceceeenaa.P
end
section
namespace Go.Proofs.Ytkigbdceceeenaa.P
open Go.RowKit Go.Proofs.Oa.Rb Go.Proofs.Oa.Pd Go.Proofs.Oa.Re
set_option linter.unusedVariables false
set_option linter.unusedSimpArgs false
theorem Haa {n0 n:Nat} {x:tf} (h:mm n0 (n:Int) x=true):mz n x:=by
 unfold mm om at h;unfold mz
 by_cases o0:x.f0=0
 ·rw [yE (by omega) (by omega) (by omega)];simp [o0,Fl] at h ⊢;omega
 by_cases o1:x.f0=1
 ·rw [Dm (Or.inl o1)];simp [o1,Fl] at h ⊢;omega
 by_cases o2:x.f0=2
 ·rw [Fp o2];simp [o2,Fl] at h ⊢;omega
 by_cases o3:x.f0=3
 ·by_cases ha:0 ≤ x.f2
  ·rw [ZK ha (Or.inl o3) (by omega)];simp [o3,Fl] at h ⊢;omega
  ·rw [XK ha (Or.inl o3) (by omega)];simp [o3,Fl] at h ⊢;omega
 by_cases o4:x.f0=4
 ·by_cases ha:0 ≤ x.f2
  ·rw [bL ha o4];simp [o4,Fl] at h ⊢;omega
  ·rw [YK ha o4];simp [o4,Fl] at h ⊢;omega
 by_cases o5:x.f0=5
 ·rw [yE (by omega) (by omega) (by omega)];simp [o5,Fl] at h ⊢;omega
 by_cases o6:x.f0=6
 ·rw [Dm (Or.inr o6)];simp [o6,Fl] at h ⊢;omega
 simp [o0,o1,o2,o3,o4,o5,o6] at h
theorem aW {n0 n n4:Nat} {b:Ff} (h:sj n0 (n:Int) n4 b.f0 b.f1 b.f2 b.f3 b.f4=true) (hl:b.f0.length ≤ 1048576):lC n b:=by
 unfold sj at h;simp only [Bool.and_eq_true,Bool.not_eq_true',List.any_eq_false] at h;obtain ⟨⟨h1,_⟩,h2⟩:=h;refine ⟨hl,fun hf=>?_,fun x hx=>Haa (n0:=n0) (by have:=h1 x hx;simpa using this)⟩;rw [if_neg hf] at h2
 by_cases h3:b.f1=1
 ·rw [if_pos h3] at h2;simp [Fl] at h2;omega
 ·rw [if_neg h3] at h2
  by_cases h4:b.f1=2
  ·rw [if_pos h4] at h2;simp [Fl] at h2;omega
  ·rw [if_neg h4] at h2;cases h2
theorem JC {l0:List Int} {p v:Int} {n:Nat} {bs:List Ff} (h:Uj l0 p v (n:Int) bs=true) (ht:Rd bs ≤ 1048576):PA bs n:=by
 obtain ⟨h1,h2,_⟩:=qu h;have hh:=rB h1;exact ⟨cO h,by omega,fun b hb=>aW (h2 b hb) (Nat.le_trans (gR bs b hb) ht)⟩
def bg (n:Nat):List Int:=List.replicate n (-1)
theorem Vu {n:Nat} {z:Int} (h:0 ≤ z∧z < (n:Int)):rd (bg n) z = -1:=by
 obtain ⟨k,rfl⟩:∃ k:Nat,z=(k:Int):=⟨z.toNat,(Int.toNat_of_nonneg h.1).symm⟩;rw [vm (show k < (bg n).length by unfold bg;rw [List.length_replicate];omega)];simp [bg]
theorem Cl {n:Nat} {r z:Int} (h:0 ≤ z∧z < (n:Int)):Js (bg n) r z=⟨1,r,0,0,z⟩:=by
 unfold Js;rw [Vu h,if_neg (by omega)]
theorem Sr {n:Nat} {r z:Int} (h:0 ≤ z∧z < (n:Int)):iL (bg n) r z=⟨2,r,0,0,z⟩:=by
 unfold iL;rw [Vu h,if_neg (by omega)]
theorem Gy {n:Nat} (s:List Bool):ud (bg n) (Yc s n)=[]:=by
 have h:∀ L:List Int,(∀ z ∈ L,0 ≤ z∧z < (n:Int))→ud (bg n) L=[]:=by
  intro L;unfold ud
  induction L with
  | nil=>intro _;rfl
  | cons z L ih =>
   intro hL;rw [List.flatMap_cons,Vu (hL z (by simp)),if_neg (by omega),List.nil_append];exact ih (fun y hy=>hL y (by simp [hy]))
 refine h _ (fun z hz=>?_);unfold Yc at hz;obtain ⟨u,hu,rfl⟩:=List.mem_map.1 hz;have:=List.mem_range.1 (List.mem_filter.1 hu).1;omega
theorem addr_eq {n:Nat} {x:tf} (hb:0 ≤ x.f3∧x.f3 < (n:Int)) (ha:0 ≤ x.f2→x.f2 < (n:Int)):Pg.f x.f0 x.f1 x.f2 x.f3 x.f4 x.f5 x.f6=some (XM (bg n) x):=by
 unfold Pg.f XM;rw [Cl hb]
 by_cases h:x.f2 ≥ 0
 ·rw [if_pos h,Cl ⟨h,ha h⟩];simp [h]
 ·rw [if_neg h];simp [h]
theorem MV (t:ByteArray):Ev (fun k=>Af.f k kN t) (vH t):=by
 refine ⟨8,fun k hk=>?_⟩;obtain ⟨m,rfl⟩:∃ m,k=m + 8:=⟨k - 8,by omega⟩;unfold Af.f vH kN;simp only [Af.l0]
 by_cases h0:t.toList=[43]
 ·simp [Kg,h0]
 by_cases h1:t.toList=[45]
 ·simp [Kg,h1,wrap64]
 by_cases h2:t.toList=[42]
 ·simp [Kg,h2,wrap64]
 by_cases h3:t.toList=[38]
 ·simp [Kg,h3,wrap64]
 by_cases h4:t.toList=[61,61]
 ·simp [Kg,h4,wrap64]
 by_cases h5:t.toList=[60]
 ·simp [Kg,h5,wrap64]
 simp [Kg,Ne.symm h0,Ne.symm h1,Ne.symm h2,Ne.symm h3,Ne.symm h4,Ne.symm h5,h0,h1,h2,h3,h4,h5,wrap64]
theorem n5 (t:ByteArray):Ev (fun k=>Ij.f k t) (vH t):=by
 unfold Ij.f;exact Ev.bind (MV t) (Ev.now _)
theorem m5 {n:Nat} {x:tf} (hx:mz n x) (ho:0 ≤ x.f0∧x.f0 ≤ 6):Ev (fun k=>Tc.f k x.f0 x.f1 x.f2 x.f3 x.f4 x.f5 x.f6) (Bf (bg n) x):=by
 have hd:¬ x.f0=4→¬ x.f0=6→0 ≤ x.f1∧x.f1 < (n:Int):=hx.2;unfold Tc.f Bf
 by_cases h0:x.f0=0
 ·rw [if_pos h0,Sr (hd (by omega) (by omega))];exact Ev.pos h0 (Ev.now _)
 refine Ev.neg h0 ?_;rw [if_neg h0]
 by_cases h1:x.f0=1
 ·rw [if_pos h1,Sr (hd (by omega) (by omega)),Cl (hx.1 x.f2 (by rw [Dm (Or.inl h1)];simp))];exact Ev.pos h1 (Ev.now _)
 refine Ev.neg h1 ?_;rw [if_neg h1]
 by_cases h2:x.f0=2
 ·rw [if_pos h2,Sr (hd (by omega) (by omega)),Cl (hx.1 x.f2 (by rw [Fp h2];simp)),Cl (hx.1 x.f3 (by rw [Fp h2];simp))];exact Ev.pos h2 (Ev.bind (n5 x.f6) (Ev.now _))
 refine Ev.neg h2 ?_;rw [if_neg h2]
 by_cases h3:x.f0=3
 ·have hl:=xu (bg n) x;rw [if_pos h3,if_pos h3,Sr (hd (by omega) (by omega))];refine (Ev.bind (Ev.here (addr_eq (hx.1 x.f3 (by rw [Eh (Or.inl h3)];simp)) (fun h=>(hx.1 x.f2 (by rw [Eh (Or.inl h3),if_pos h];simp)).2))) ?_);refine Ev.val (Ev.pos ?_ (Ev.now _));simp only [List.length_cons,List.length_nil];omega
 rw [if_neg h3,if_neg h3]
 by_cases h4:x.f0=4
 ·have hl:=xu (bg n) x;rw [if_pos h4,if_pos h4,Cl (hx.1 x.f4 (by rw [Eh (Or.inr h4),if_pos h4];simp))];refine (Ev.bind (Ev.here (addr_eq (hx.1 x.f3 (by rw [Eh (Or.inr h4)];simp)) (fun h=>(hx.1 x.f2 (by rw [Eh (Or.inr h4),if_pos h];simp)).2))) ?_);refine Ev.val (Ev.pos ?_ (Ev.now _));simp only [List.length_cons,List.length_nil];omega
 rw [if_neg h4,if_neg h4]
 by_cases h5:x.f0=5
 ·rw [if_pos h5,if_pos h5,Sr (hd (by omega) (by omega))];exact Ev.now _
 rw [if_neg h5,if_neg h5,Cl (hx.1 x.f2 (by rw [Dm (Or.inr (by omega))];simp))];exact Ev.now _
theorem mZ {n:Nat} {b:Ff} (nx:Int) (hj:b.f1=0 ∨ b.f1=1 ∨ b.f1=2) (ha:¬ b.f1=0→0 ≤ b.f2∧b.f2 < (n:Int)):Bl.f b.f0 b.f1 b.f2 b.f3 b.f4 nx=some (Zp (bg n) b nx):=by
 unfold Bl.f Zp;rw [Option.bind_some]
 by_cases h2:b.f1=2
 ·rw [if_pos h2,if_pos h2,Cl (ha (by omega))]
 ·rw [if_neg h2,if_neg h2]
  by_cases h1:b.f1=1
  ·rw [if_pos h1,if_pos h1,Cl (ha (by omega)),Option.bind_some,if_pos (by simp),Option.bind_some]
   by_cases h3:b.f3=nx
   ·rw [if_pos h3,if_pos h3];simp
   ·rw [if_neg h3,if_neg h3,if_pos (by simp)];simp
  ·rw [if_neg h1,if_neg h1]
   by_cases h3:b.f3=nx
   ·rw [if_pos h3,if_pos h3];rfl
   ·rw [if_neg h3,if_neg h3,if_pos (by simp)]
section
variable {bs:List Ff} {n:Nat} {l0:List Int} {p v:Int} {R:List Int × Int × Int × List Zb} (sz:List Int) (q1 q2:Int)
theorem j5 (w:Zb):Jj.f w.f0 w.f1 w.f2 w.f3 w.f4=some (decide (wg w)):=by
 unfold Jj.f
 by_cases h:w.f0=8
 ·rw [if_pos h,decide_eq_true (show wg w from Or.inl h)]
 ·rw [if_neg h]
  by_cases h9:w.f0=9
  ·rw [decide_eq_true (show wg w from Or.inr h9),h9];rfl
  ·rw [decide_eq_false (show ¬ wg w from fun e=>e.elim h h9)];simp [h9]
theorem QJ {Vk:List Int} {ws:List Zb} (hl:ws.length ≤ 1000000000) (hto:∀ y ∈ ws,wg y→0 ≤ y.f4∧y.f4 < (Vk.length:Int)):∀ (d i:Nat),i + d=ws.length→Ev (fun k=>Pb.l2 k Vk (i:Int) sz q1 q2 ((ws.take i).map (Rp Vk) ++ ws.drop i)) (sz,q1,q2,ws.map (Rp Vk)):=by
 intro d
 induction d with
 | zero =>
  intro i hi;obtain rfl:i=ws.length:=by omega
  rw [List.take_length,List.drop_length,List.append_nil];refine Ev.step (fun k=>by rw [Pb.l2]) ?_;exact Ev.neg (by rw [List.length_map];omega) (Ev.now _)
 | succ d ih =>
  intro i hi;have hil:i < ws.length:=by omega
  have hln:((ws.take i).map (Rp Vk) ++ ws.drop i).length=ws.length:=by simp;omega
  have hrd:Wa ((ws.take i).map (Rp Vk) ++ ws.drop i) (i:Int)=ws[i]:=by
   rw [mN (by omega),List.getElem_append_right (by simp;omega)];simp [Nat.min_eq_left (Nat.le_of_lt hil)]
  have hnx:∀ y:Zb,((ws.take i).map (Rp Vk) ++ ws.drop i).set i y=(ws.take i).map (Rp Vk) ++ y :: ws.drop (i + 1):=fun y=>by
   rw [List.set_append,if_neg (by simp;omega),List.drop_eq_getElem_cons hil];have hz:i - ((ws.take i).map (Rp Vk)).length=0:=by simp;omega
   rw [hz]
   rfl
  have hst:(ws.take (i + 1)).map (Rp Vk) ++ ws.drop (i + 1)=(ws.take i).map (Rp Vk) ++ Rp Vk ws[i] :: ws.drop (i + 1):=by
   rw [List.take_succ_eq_append_getElem hil,List.map_append,List.append_assoc]
   rfl
  have h:=ih (i + 1) (by omega);rw [hst] at h;refine Ev.step (fun k=>by rw [Pb.l2]) ?_;rw [hln,hrd,sg (x:=(i:Int) + 1) (by omega) (by omega),Int.toNat_natCast,hnx];refine Ev.pos (by omega) (Ev.pos (by omega) (Ev.bind (Ev.here (j5 ws[i])) ?_));unfold Rp at h
  by_cases hg:wg ws[i]
  ·have ht:=hto _ (List.getElem_mem hil) hg;rw [if_pos hg] at h;exact Ev.pos (decide_eq_true hg) (Ev.pos ht.1 (Ev.pos ht.2 h))
  ·rw [if_neg hg] at h;rw [show (ws.take i).map (Rp Vk) ++ ws.drop i=(ws.take i).map (Rp Vk) ++ ws[i] :: ws.drop (i + 1) by rw [← List.drop_eq_getElem_cons hil]];exact Ev.neg (by simp [hg]) h
theorem RJ {i:Nat} (hO:PA bs n) (hop:∀ b ∈ bs,∀ x ∈ b.f0,0 ≤ x.f0∧x.f0 ≤ 6) (hjm:∀ b ∈ bs,b.f1=0 ∨ b.f1=1 ∨ b.f1=2) (hi:i < bs.length) (Vk:List Int) (ws:List Zb) (hw:ws.length + (CG (bg n) (Ia bs (i:Int)) ((i:Int) + 1)).length ≤ 900000000)
  (hK:Ev (fun k=>Pb.l0 k Vk ((i + 1:Nat):Int) l0 p v (n:Int) bs sz q1 q2 (ws ++ CG (bg n) (Ia bs (i:Int)) ((i:Int) + 1))) R) :
  ∀ (d k:Nat),k + d=(Ia bs (i:Int)).f0.length→Ev (fun q=>Pb.l1 q Vk (i:Int) (k:Int) l0 p v (n:Int) bs sz q1 q2 (ws ++ ((Ia bs (i:Int)).f0.take k).flatMap (Bf (bg n)))) R:=by
 have hm:Ia bs (i:Int) ∈ bs:=by rw [ng hi];exact List.getElem_mem hi
 have hb:=lB hO hi;have hbl:=hO.1.2.1;unfold CG at hw hK;rw [List.length_append] at hw;intro d
 induction d with
 | zero =>
  intro k hk;obtain rfl:k=(Ia bs (i:Int)).f0.length:=by omega
  rw [List.take_length];refine Ev.step (fun q=>by rw [Pb.l1]) ?_;rw [Kf hi (by omega)];refine Ev.pos (by omega) (Ev.pos (by omega) (Ev.neg (by omega) (Ev.bind (Ev.here (mZ (n:=n) _ (hjm _ hm) hb.2.1)) (Ev.pos ?_ ?_))))
  ·rw [List.length_append,show (((i + 1:Nat):Int))=(i:Int) + 1 by omega];omega
  ·rw [← List.append_assoc] at hK;rw [show (((i + 1:Nat):Int))=(i:Int) + 1 by omega] at hK ⊢;exact hK
 | succ d ih =>
  intro k hk;have RM:k < (Ia bs (i:Int)).f0.length:=by omega
  have tB:=hb.1;have hx:=m5 (DH hb RM) (hop _ hm (Ga (Ia bs (i:Int)).f0 (k:Int)) (by rw [nk RM];exact List.getElem_mem RM))
  have hs:((Ia bs (i:Int)).f0.take (k + 1)).flatMap (Bf (bg n))=((Ia bs (i:Int)).f0.take k).flatMap (Bf (bg n)) ++ Bf (bg n) (Ga (Ia bs (i:Int)).f0 (k:Int)):=by
   rw [List.take_succ_eq_append_getElem RM,List.flatMap_append,nk RM];simp
  have hle:(((Ia bs (i:Int)).f0.take (k + 1)).flatMap (Bf (bg n))).length ≤ ((Ia bs (i:Int)).f0.flatMap (Bf (bg n))).length:=by
   conv=>rhs;rw [← List.take_append_drop (k + 1) (Ia bs (i:Int)).f0,List.flatMap_append,List.length_append]
   omega
  rw [hs,List.length_append] at hle;have h:=ih (k + 1) (by omega);rw [hs,← List.append_assoc] at h;refine Ev.step (fun q=>by rw [Pb.l1]) ?_;rw [Kf RM (by omega)];refine Ev.pos (by omega) (Ev.pos (by omega) (Ev.pos (by omega) (Ev.pos (by omega) (Ev.bind hx (Ev.pos ?_ h)))));rw [List.length_append];omega
theorem SJ (hO:PA bs n) (hop:∀ b ∈ bs,∀ x ∈ b.f0,0 ≤ x.f0∧x.f0 ≤ 6) (hjm:∀ b ∈ bs,b.f1=0 ∨ b.f1=1 ∨ b.f1=2) (hz:(Ud (bg n) [] bs bs.length).length ≤ 900000000)
  (hK:Ev (fun k=>Pb.l2 k (Gn (bg n) [] bs bs.length) 0 sz q1 q2 (Ud (bg n) [] bs bs.length)) R) :
  ∀ (d i:Nat),i + d=bs.length→Ev (fun k=>Pb.l0 k (Gn (bg n) [] bs i) (i:Int) l0 p v (n:Int) bs sz q1 q2 (Ud (bg n) [] bs i)) R:=by
 have hbl:=hO.1.2.1;intro d
 induction d with
 | zero =>
  intro i hi;obtain rfl:i=bs.length:=by omega
  refine Ev.step (fun k=>by rw [Pb.l0]) ?_;exact Ev.neg (by omega) hK
 | succ d ih =>
  intro i hi;have hil:i < bs.length:=by omega
  have h:=ih (i + 1) (by omega);have hu:=cM (bg n) [] bs (show i + 1 ≤ bs.length by omega);rw [jl,List.length_append] at hu;rw [dH,jl] at h;have hb:=Pv (bg n) [] bs i;refine Ev.step (fun k=>by rw [Pb.l0]) ?_;refine Ev.pos (by omega) (Ev.pos (by omega) ?_);have h1:=RJ (l0:=l0) (p:=p) (v:=v) sz q1 q2 hO hop hjm hil _ (Ud (bg n) [] bs i) (show (Ud (bg n) [] bs i).length + (CG (bg n) (Ia bs (i:Int)) ((i:Int) + 1)).length ≤ 900000000 by omega) h _ 0 (Nat.zero_add _);rw [List.take_zero,List.flatMap_nil,List.append_nil] at h1;exact h1
end
theorem dS (cs:List Int) (x:tf):(Bf cs x).length ≤ 5:=by
 have ha:=xu cs x;unfold Bf
 by_cases h0:x.f0=0
 ·rw [if_pos h0];show 2 ≤ 5;omega
 rw [if_neg h0]
 by_cases h1:x.f0=1
 ·rw [if_pos h1];show 2 ≤ 5;omega
 rw [if_neg h1]
 by_cases h2:x.f0=2
 ·rw [if_pos h2];show 4 ≤ 5;omega
 rw [if_neg h2]
 by_cases h3:x.f0=3
 ·rw [if_pos h3,List.length_append];show _ + 2 ≤ 5;omega
 rw [if_neg h3]
 by_cases h4:x.f0=4
 ·rw [if_pos h4,List.length_append];show _ + 2 ≤ 5;omega
 rw [if_neg h4]
 by_cases h5:x.f0=5
 ·rw [if_pos h5];show 2 ≤ 5;omega
 rw [if_neg h5];show 2 ≤ 5;omega
theorem bS (cs:List Int):∀ l:List tf,(l.flatMap (Bf cs)).length ≤ 5 * l.length:=by
 intro l
 induction l with
 | nil=>simp
 | cons x l ih =>
  have:=dS cs x;rw [List.flatMap_cons,List.length_append,List.length_cons];omega
theorem pS (cs:List Int) (b:Ff) (nx:Int):(Zp cs b nx).length ≤ 3:=by
 unfold Zp
 by_cases h2:b.f1=2
 ·rw [if_pos h2];show 2 ≤ 3;omega
 rw [if_neg h2,List.length_append]
 have h1:(if b.f1=1 then [Js cs 1 b.f2,(⟨9,1,0,0,b.f4⟩:Zb)] else []).length ≤ 2:=by
  by_cases h:b.f1=1
  ·rw [if_pos h];exact Nat.le_refl _
  ·rw [if_neg h];exact Nat.zero_le _
 have h3:(if b.f3=nx then [] else [(⟨8,0,0,0,b.f3⟩:Zb)]).length ≤ 1:=by
  by_cases h:b.f3=nx
  ·rw [if_pos h];exact Nat.zero_le _
  ·rw [if_neg h];exact Nat.le_refl _
 omega
theorem dO (cs:List Int) (hd:List Zb) (bs:List Ff):∀ i,i ≤ bs.length→(Ud cs hd bs i).length ≤ hd.length + 5 * Rd (bs.take i) + 3 * i:=by
 intro i
 induction i with
 | zero=>intro _;show hd.length ≤ _;omega
 | succ i ih =>
  intro hi;have hil:i < bs.length:=by omega
  have h:=ih (by omega);have h1:=bS cs (Ia bs (i:Int)).f0;have h2:=pS cs (Ia bs (i:Int)) ((i:Int) + 1)
  have h3:Rd (bs.take (i + 1))=Rd (bs.take i) + (Ia bs (i:Int)).f0.length:=by
   rw [List.take_succ_eq_append_getElem hil,ng hil];unfold Rd;simp only [List.map_append,List.map_cons,List.map_nil,List.sum_append,List.sum_cons,List.sum_nil,Nat.add_zero]
  rw [jl,List.length_append];unfold CG;rw [List.length_append];omega
theorem naf {n0:Nat} {s:Int} {x:tf} (h:mm n0 s x=true):0 ≤ x.f0∧x.f0 ≤ 6:=by
 unfold mm om at h
 by_cases o0:x.f0=0
 ·omega
 by_cases o1:x.f0=1
 ·omega
 by_cases o2:x.f0=2
 ·omega
 by_cases o3:x.f0=3
 ·omega
 by_cases o4:x.f0=4
 ·omega
 by_cases o5:x.f0=5
 ·omega
 by_cases o6:x.f0=6
 ·omega
 simp [o0,o1,o2,o3,o4,o5,o6] at h
theorem nZ {n0 n4:Nat} {s:Int} {b:Ff} (h:sj n0 s n4 b.f0 b.f1 b.f2 b.f3 b.f4=true):(∀ x ∈ b.f0,0 ≤ x.f0∧x.f0 ≤ 6)∧(b.f1=0 ∨ b.f1=1 ∨ b.f1=2):=by
 unfold sj at h;simp only [Bool.and_eq_true,Bool.not_eq_true',List.any_eq_false] at h;obtain ⟨⟨h1,_⟩,h2⟩:=h;refine ⟨fun x hx=>naf (n0:=n0) (s:=s) (by have:=h1 x hx;simpa using this),?_⟩
 by_cases j0:b.f1=0
 ·exact Or.inl j0
 ·rw [if_neg j0] at h2
  by_cases j1:b.f1=1
  ·exact Or.inr (Or.inl j1)
  ·rw [if_neg j1] at h2
   by_cases j2:b.f1=2
   ·exact Or.inr (Or.inr j2)
   ·rw [if_neg j2] at h2;cases h2
theorem ou {l0:List Int} {p v s:Int} {bs:List Ff} (h:Uj l0 p v s bs=true):∀ b ∈ bs,(∀ x ∈ b.f0,0 ≤ x.f0∧x.f0 ≤ 6)∧(b.f1=0 ∨ b.f1=1 ∨ b.f1=2):=by
 obtain ⟨_,h2,_⟩:=qu h;exact fun b hb=>nZ (h2 b hb)
theorem fR {l0:List Int} {p v:Int} {n:Nat} {bs:List Ff} (h:Uj l0 p v (n:Int) bs=true) (ht:Rd bs ≤ 1048576) {cs:List Int} (hc:cs.length=n) (hle:∀ i:Nat,i < cs.length→rd cs (i:Int) ≤ 11):YX bs n cs:=by
 have hO:=JC h ht;have hj:=ou h;refine ⟨hO,hc,hle,fun b hb=>(hj b hb).1,fun b hb=>(hj b hb).2,?_⟩;have h1:=dO cs (ud cs (Yc (wh bs n) n)) bs bs.length (Nat.le_refl _);have h2:=VG cs (Yc (wh bs n) n);have h3:=kB (wh bs n) n;have h4:=hO.2.1;have h5:=hO.1.2.1;rw [List.take_length] at h1;omega
theorem Vr (n:Nat):(bg n).length=n:=by simp [bg]
theorem eS {l0:List Int} {p v:Int} {n:Nat} {bs:List Ff} (ht:Rd bs ≤ 1048576) (hok:Uj l0 p v (n:Int) bs=true):∀ y ∈ Ud (bg n) [] bs bs.length,wg y→0 ≤ y.f4∧y.f4 < (bs.length:Int):=by
 have hO:=JC hok ht;have hj:=ou hok
 exact bM (cs:=bg n) (hd:=[]) (bs:=bs) (fun y hy=>by cases hy) (fun i hi e=>by
  refine hO.1.2.2 i hi _ ?_;unfold Bu rG;rw [if_neg (by rw [e];decide),if_pos e]
  simp) (fun i hi e=>by
  refine hO.1.2.2 i hi _ ?_;have hj2:=(hj (Ia bs (i:Int)) (by rw [ng hi];exact List.getElem_mem hi)).2;unfold Bu rG
  by_cases e0:(Ia bs (i:Int)).f1=0
  ·rw [if_pos e0];simp
  ·rw [if_neg e0,if_pos (by omega)];simp) bs.length (Nat.le_refl _)
theorem WS (bs:List Ff) (n:Nat):qY bs n (bg n)=(Ud (bg n) [] bs bs.length).map (Rp (Gn (bg n) [] bs bs.length)):=by unfold qY;rw [Gy]
theorem VL {l0:List Int} {p v:Int} {n:Nat} {bs:List Ff} (h0:l0.length ≤ 1048576) (hl:bs.length ≤ 1048576) (ht:Rd bs ≤ 1048576) (hok:Uj l0 p v (n:Int) bs=true):Ev (fun k=>Pb.f k l0 p v (n:Int) bs) (l0,p,(n:Int),qY bs n (bg n)):=by
 have hO:=JC hok ht;have hC:YX bs n (bg n):=fR hok ht (Vr n) (fun i hi=>by rw [Vu ⟨by omega,by rw [Vr] at hi;omega⟩];omega);have hz:=hC.sz;rw [Gy (n:=n) (wh bs n)] at hz;have hj:=ou hok;have h2:=QJ l0 p (n:Int) (Vk:=Gn (bg n) [] bs bs.length) (ws:=Ud (bg n) [] bs bs.length) (by omega) (fun y hy hg=>by rw [Pv];exact eS (l0:=l0) (p:=p) (v:=v) ht hok y hy hg) _ 0 (Nat.zero_add _);rw [List.take_zero,List.map_nil,List.nil_append,List.drop_zero,← WS] at h2;have h1:=SJ (l0:=l0) (p:=p) (v:=v) l0 p (n:Int) hO (fun b hb=>(hj b hb).1) (fun b hb=>(hj b hb).2) hz h2 bs.length 0 (Nat.zero_add _);unfold Pb.f;exact Ev.bind (lF h0 hl ht) (Ev.pos hok (Ev.val (Ev.pos (by simp only [List.length_nil];omega) h1)))
end Go.Proofs.Ytkigbdceceeenaa.P
end
section
namespace Go.Proofs.Ytkigbdceceeenaa.P
open Go.RowKit Go.Proofs.Oa.Rb Go.Proofs.Oa.Pd Go.Proofs.Oa.Re
set_option linter.unusedVariables false
set_option linter.unusedSimpArgs false
theorem VJ {l0:List Int} {p v:Int} {n:Nat} {bs:List Ff} {r:List Int × Int × Int × List Zb} (hn:n ≤ 1048576) (hr:Th.f l0 p v (n:Int) bs (bg n)=some r):∀ (d i:Nat),i + d=n→Ev (fun k=>ug.l0 k (bg i) (n:Int) (i:Int) l0 p v (n:Int) bs) r:=by
 intro d
 induction d with
 | zero =>
  intro i hi;obtain rfl:i=n:=by omega
  refine Ev.step (fun k=>by rw [ug.l0]) ?_;exact Ev.neg (by omega) (Ev.bind (Ev.here hr) (Ev.now _))
 | succ d ih =>
  intro i hi;have hl:=Vr i;have h:=ih (i + 1) (by omega);rw [show bg (i + 1)=bg i ++ [(-1:Int)] from List.replicate_succ'] at h;refine Ev.step (fun k=>by rw [ug.l0]) ?_;rw [Kf (show i < n by omega) (by omega)];exact Ev.pos (by omega) (Ev.pos (by omega) h)
theorem B5 (l0:List Int) (p v s:Int) (bs:List Ff) (h0:l0.length ≤ 1048576) (hl:bs.length ≤ 1048576) (ht:Rd bs ≤ 1048576) :
  ∃ r:List Int × Int × Int × List Zb,Ev (fun k=>Pb.f k l0 p v s bs) r∧Ev (fun k=>ug.f k l0 p v s bs) r∧r.1.length ≤ 1048576∧r.2.2.2.length ≤ 900000000:=by
 by_cases hok:Uj l0 p v s bs=true
 ·have hh:=rB (qu hok).1;obtain ⟨n,rfl⟩:∃ n:Nat,s=(n:Int):=⟨s.toNat,by omega⟩;have hO:=JC hok ht;have hn:=hO.2.1;have hC:YX bs n (bg n):=fR hok ht (Vr n) (fun i hi=>by rw [Vu ⟨by omega,by rw [Vr] at hi;omega⟩];omega);have hhd:=Gy (n:=n) (wh bs n);have hz:=hC.sz;rw [hhd] at hz;have hj:=ou hok
  have hcw:Th.f l0 p v (n:Int) bs (bg n)=some (l0,p,(n:Int),qY bs n (bg n)):=by
   unfold Th.f;rw [if_pos ⟨by omega,h0,by rw [Int.toNat_natCast];exact hC⟩,Int.toNat_natCast]
  have tB:qY bs n (bg n)=(Ud (bg n) [] bs bs.length).map (Rp (Gn (bg n) [] bs bs.length)):=by unfold qY;rw [hhd]
  refine ⟨(l0,p,(n:Int),qY bs n (bg n)),?_,?_,h0,by rw [tB];simpa using hz⟩
  ·exact VL h0 hl ht hok
  ·unfold ug.f;exact Ev.bind (jF h0 hl ht) (Ev.pos hok (VJ hn hcw n 0 (Nat.zero_add _)))
 ·refine ⟨([],0,0,[]),?_,?_,Nat.zero_le _,Nat.zero_le _⟩
  ·unfold Pb.f;exact Ev.bind (lF h0 hl ht) (Ev.neg hok (Ev.now _))
  ·unfold ug.f;exact Ev.bind (jF h0 hl ht) (Ev.neg hok (Ev.now _))
end Go.Proofs.Ytkigbdceceeenaa.P
end
