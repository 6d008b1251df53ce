import Derived.Shelf.Abstract
import Derived.Outline
import Derived.RegionTactic
import Derived.Test.YtmifdccaajngcaaQFresh1
import Derived.Test.YtmifdccaajngcaaQFresh8
import Derived.Test.YtmifdccaajngcaaQFresh9
import Derived.Deep.QuietTactic
import Derived.BigQuiet
import Derived.Test.YtmifdccaajngcaaQFresh7
import Derived.Test.YtmifdccaajngcaaQFresh5
import Derived.Test.YtmifdccaajngcaaQFresh6
import Derived.Test.YtmifdccaajngcaaQFresh2
import Derived.Test.YtmifdccaajngcaaQFresh3
import Derived.Test.YtmifdccaajngcaaQFresh4
section
namespace Go.Proofs.Ytmifdccaajngcaa.P
open Go.RowKit Go.Proofs.Ca.xb Go.Proofs.Ca.Xb Go.Proofs.Ca.ic
set_option linter.unusedVariables false
set_option linter.unusedSimpArgs false
def Df (x:Jh):Int:=if x.f0=4 then -1 else if x.f0=6 then -1 else x.f1
theorem Tx (x:Jh) (w:World):Calls Try.prog 91 #[.agg #[.int .i64 x.f0,.int .i64 x.f1,.int .i64 x.f2,.int .i64 x.f3,.int .i64 x.f4,.int .i64 x.f5,.string x.f6]] w fun e w'=>e = .returned (.int .i64 (Df x))∧Below w.heap.size w w' :=
 Sn.calls _ _ _ _ _ _ _ _ w (by
  unfold Sn.f Df
  split
  ·rfl
  ·split <;> rfl)
def Xh (xs:List Ko) (nx:Int) (x:Jh):List Ko × Int :=
 if 0 ≤ Df x then (xs.set (Df x).toNat (Sk xs nx x).1,(Sk xs nx x).2) else (xs,nx)
section
variable {W:World} {B kb:Nat} {xs:List Ko} {nx:Int}
set_option maxHeartbeats 2000000 in
set_option maxRecDepth 100000 in
theorem vH (hk:KS W B kb xs nx) (hn0:0 ≤ nx) (qn:nx ≤ 1000000000) (x:Jh) (h1:x.f0=1→0 ≤ x.f2∧x.f2 < xs.length) (h2:x.f0=2→(0 ≤ x.f2∧x.f2 < xs.length)∧(0 ≤ x.f3∧x.f3 < xs.length)) (h3:Df x < xs.length) :
  Calls Try.prog 60 #[.pointer (some ⟨kb,0,none⟩),.agg #[.int .i64 x.f0,.int .i64 x.f1,.int .i64 x.f2,.int .i64 x.f3,.int .i64 x.f4,.int .i64 x.f5,.string x.f6]] W fun e w'=>e = .returned (.tuple #[])∧KS w' B kb (Xh xs nx x).1 (Xh xs nx x).2∧Below B W w':=by
 obtain ⟨W1,hW1⟩:∃ W1,W1=W.alloc (.cells #[.int .i64 x.f0,.int .i64 x.f1,.int .i64 x.f2,.int .i64 x.f3,.int .i64 x.f4,.int .i64 x.f5,.string x.f6] 70 (0,0)):=⟨_,rfl⟩
 have HW:=qa.mk hW1
 have Ri:Below W.heap.size W W1:=by rw [hW1];exact ia (Below.refl _ _) _
 have Af:W1.heap[W.heap.size]? = some (.cells #[.int .i64 x.f0,.int .i64 x.f1,.int .i64 x.f2,.int .i64 x.f3,.int .i64 x.f4,.int .i64 x.f5,.string x.f6] 70 (0,0)):=by rw [hW1];exact Yc _ _
 have hk1:=hk.below Ri
 have rQ:B ≤ W.heap.size:=by
  obtain ⟨hB,v,hh,_⟩:=hk
  have:=Ac hh
  omega
 have HB:=qa.mk (Ri.mono rQ)
 have HK:=qa.mk hk1
 have HX:=qa.mk Af
 have hx0:=(ga Af 0).trans rfl
 have hx1:=(ga Af 1).trans rfl
 have Gk:=(ga Af 2).trans rfl
 have Fk:=(ga Af 3).trans rfl
 have qm:=(ga Af 4).trans rfl
 have vp:=(ga Af 5).trans rfl
 have om:=(ga Af 6).trans rfl
 clear hW1 Af hk1 Ri hk
 unfold Xh
 by_cases hm:0 ≤ Df x
 ·rw [if_pos hm]
  have hmb:decide (Df x ≥ 0)=true:=decide_eq_true hm
  go_enter Try.func60,Try.ntmps60
  go_upto_region 1 with (fail)
  rw [← HW.out]
  clear HW
  go_upto_region 3 with (first|(go_at_call 91;(with_reducible refine (Tx x _).mono ?_);rintro e w1 ⟨rfl,hb⟩;have PO:=qa.mk hb;clear hb))
  have HX:=qa.mk (Ga (Wa HX.out PO.out))
  have HB:=qa.mk (za (HB.out.trans (PO.out.mono (Nat.le_trans rQ HB.out.size))))
  obtain ⟨v,hkv⟩:=(HK.out.below PO.out).drew
  have HK:=qa.mk hkv
  clear hkv hx0 hx1 Gk Fk qm vp om
  obtain ⟨A,cc,rfl,_,hC⟩:=Kd.Kh HK.out.2.2
  have dD:=hC.2.1
  obtain ⟨ad,c9,e1,NI,hcK,jO⟩:=Kd.Cx hC zR (Df x) hm h3
  cases e1
  obtain ⟨g,rfl⟩:=Kd.jm HK.out.2.2
  clear hC
  refine Pg (n:=10) (S:=fun w'=>w'.cell? ⟨kb,0,none⟩=some (.slice (some ⟨g,0,none⟩) xs.length cc)∧w'.cell? ⟨W.heap.size,0,none⟩=some (.int .i64 x.f0)∧w'.cell? ⟨W.heap.size,1,none⟩=some (.int .i64 x.f1)∧w'.cell? ⟨W.heap.size,2,none⟩=some (.int .i64 x.f2)∧w'.cell? ⟨W.heap.size,3,none⟩=some (.int .i64 x.f3)∧w'.cell? ⟨W.heap.size,4,none⟩=some (.int .i64 x.f4)∧w'.cell? ⟨W.heap.size,5,none⟩=some (.int .i64 x.f5)∧w'.cell? ⟨W.heap.size,6,none⟩=some (.string x.f6)) (ds:=[9]) #[false,false,false,false,false,false,false,false,false,false] (by kernel_rfl) rfl rfl ⟨(ga HK.out.2.1 0).trans rfl,(ga HX.out 0).trans rfl,(ga HX.out 1).trans rfl,(ga HX.out 2).trans rfl,(ga HX.out 3).trans rfl,(ga HX.out 4).trans rfl,(ga HX.out 5).trans rfl,(ga HX.out 6).trans rfl⟩ (fun hHeld=>?_)
  generalize w1.drew=w2 at HX HB HK hHeld ⊢
  refine Nb (i:=0) (N:=some 9) (v:=?_) (a':=?_) #[true,false,false,false,false,false,false,false,false,false] rfl rfl (by kernel_rfl) (fun _ _ _ h=>h) (Or.inl ⟨by rfl,?_⟩) ?_ ?_
  rotate_left
  ·intro w'
   go_simp
   with_reducible rfl
  rotate_left
  ·simp only [Act.put,List.setIfInBounds_toArray,List.set_cons_zero,List.set_cons_succ,Za,gb]
   rfl
  refine Nb (i:=1) (N:=some 10) (v:=?_) (a':=?_) #[true,true,false,false,false,false,false,false,false,false] rfl rfl (by kernel_rfl) (fun _ _ _ h=>h) (Or.inl ⟨by rfl,?_⟩) ?_ ?_
  rotate_left
  ·intro w'
   go_simp
   with_reducible rfl
  rotate_left
  ·simp only [Act.put,List.setIfInBounds_toArray,List.set_cons_zero,List.set_cons_succ,Za,gb]
   rfl
  refine Nb (i:=2) (N:=some 11) (v:=?_) (a':=?_) #[true,true,true,false,false,false,false,false,false,false] rfl rfl (by kernel_rfl) (fun _ _ _ h=>h) (Or.inl ⟨by rfl,?_⟩) ?_ ?_
  rotate_left
  ·intro w'
   go_simp
   with_reducible rfl
  rotate_left
  ·simp only [Act.put,List.setIfInBounds_toArray,List.set_cons_zero,List.set_cons_succ,Za,gb]
   rfl
  refine Nb (i:=4) (N:=some 13) (v:=?_) (a':=?_) #[true,true,true,false,true,false,false,false,false,false] rfl rfl (by kernel_rfl) (fun _ _ _ h=>h) (Or.inl ⟨by rfl,?_⟩) ?_ ?_
  rotate_left
  ·intro w'
   go_simp
   with_reducible rfl
  rotate_left
  ·simp only [Act.put,List.setIfInBounds_toArray,List.set_cons_zero,List.set_cons_succ,Za,gb]
   rfl
  refine Nb (i:=5) (N:=some 14) (v:=?_) (a':=?_) #[true,true,true,false,true,true,false,false,false,false] rfl rfl (by kernel_rfl) (fun _ _ _ h=>h) (Or.inl ⟨by rfl,?_⟩) ?_ ?_
  rotate_left
  ·intro w'
   go_simp
   with_reducible rfl
  rotate_left
  ·simp only [Act.put,List.setIfInBounds_toArray,List.set_cons_zero,List.set_cons_succ,Za,gb]
   rfl
  refine Jd (i:=3) (N:=some 12) (v:=?_) (a':=?_) #[true,true,true,true,true,true,false,false,false,false] rfl rfl (by kernel_rfl) (fun _ _ _ h=>h) (Or.inl ⟨by rfl,?_⟩) hHeld ?_ ?_
  rotate_left
  ·rintro w' ⟨s0,s1,s2,s3,s4,s5,s6,s7⟩
   go_simp
   with_reducible rfl
  rotate_left
  ·simp only [Act.put,List.setIfInBounds_toArray,List.set_cons_zero,List.set_cons_succ,Za,gb]
   rfl
  refine Jd (i:=6) (N:=some 15) (v:=?_) (a':=?_) #[true,true,true,true,true,true,true,false,false,false] rfl rfl (by kernel_rfl) (fun _ _ _ h=>h) (Or.inl ⟨by rfl,?_⟩) hHeld ?_ ?_
  rotate_left
  ·rintro w' ⟨s0,s1,s2,s3,s4,s5,s6,s7⟩
   go_simp
   with_reducible rfl
  rotate_left
  ·simp only [Act.put,List.setIfInBounds_toArray,List.set_cons_zero,List.set_cons_succ,Za,gb]
   rfl
  refine gh (i:=7) (N:=some 16) #[true,true,true,true,true,true,true,true,false,false] rfl rfl (by kernel_rfl) (by decide) (fun K hK=>?_)
  refine Gn Try.func92 (by kernel_rfl) rfl #[.pointer (some ⟨kb,0,none⟩),.agg #[.int .i64 x.f0,.int .i64 x.f1,.int .i64 x.f2,.int .i64 x.f3,.int .i64 x.f4,.int .i64 x.f5,.string x.f6]] (by rfl) rfl rfl (by simp only [List.map_toArray,List.map_cons,List.map_nil];rfl) ?_
  with_reducible refine (tG HK.out hn0 qn x h1 h2).mono ?_
  rintro e w3 ⟨rfl,hkv,hkk,hbv⟩
  refine ⟨_,rfl,?_⟩
  have HX:=qa.mk (Kp HX.out hkk (by obtain ⟨_,q,_⟩:=HK.out;intro e;rw [← e,HX.out] at q;simp at q))
  have HB:=qa.mk (HB.out.trans (hbv.mono HK.out.1))
  have HK:=qa.mk hkv
  clear hkv hkk hbv
  refine hK.out _ _ ⟨(ga HK.out.2.1 0).trans rfl,(ga HX.out 0).trans rfl,(ga HX.out 1).trans rfl,(ga HX.out 2).trans rfl,(ga HX.out 3).trans rfl,(ga HX.out 4).trans rfl,(ga HX.out 5).trans rfl,(ga HX.out 6).trans rfl⟩ (fun hHeld=>?_)
  clear hK K
  refine Xd (a':=?_) ?_ ?_
  rotate_left
  ·show Act.put _ (some 16) _=_
   simp only [Act.put,List.setIfInBounds_toArray,List.set_cons_zero,List.set_cons_succ,Za,gb]
   rfl
  refine Nb (i:=8) (N:=some 17) (v:=?_) (a':=?_) #[true,true,true,true,true,true,true,true,true,false] rfl rfl (by kernel_rfl) (fun _ _ _ h=>h) (Or.inl ⟨by rfl,?_⟩) ?_ ?_
  rotate_left
  ·intro w'
   go_simp
   with_reducible rfl
  rotate_left
  ·simp only [Act.put,List.setIfInBounds_toArray,List.set_cons_zero,List.set_cons_succ,Za,gb]
   rfl
  refine Wq (i:=9) (N:=none) #[true,true,true,true,true,true,true,true,true,true] rfl rfl (by kernel_rfl) (by decide) (fun K hK=>?_)
  obtain ⟨c3,eW,gW,tN,oQ⟩:=Kd.Sj HK.out.2.2 zR (Df x) hm h3
  obtain rfl:=tA (Kd.K_of_M _ gW)
  have hs0:w3.cell? ⟨g,(Df x).toNat * 2,none⟩=some (.int .i64 (xs.getD (Df x).toNat zR).f0):=tN 0 _ rfl
  have hs1:w3.cell? ⟨g,(Df x).toNat * 2 + 1,none⟩=some (.int .i64 (xs.getD (Df x).toNat zR).f1):=tN 1 _ rfl
  have hf0:w3.frozen? ⟨g,(Df x).toNat * 2,none⟩=false:=oQ 0
  have hf1:w3.frozen? ⟨g,(Df x).toNat * 2 + 1,none⟩=false:=oQ 1
  have Vaa:=qa.mk (Kd.qu HK.out.2.2 (Df x) hm h3 eW tN (seg:=[.int .i64 (Sk xs nx x).1.f0,.int .i64 (Sk xs nx x).1.f1]) (j:=0) (show 0 + 2 ≤ 2 from by decide) (x':=(Sk xs nx x).1) (Uo:=fun _=>False) (aD _ _ _ _) (fun _ hk=>hk.elim)).1
  have hneg:kb ≠ g:=fun e=>Kd.Qx HK.out.2.2 HK.out.2.1 (by decide) (by rw [e];rfl)
  have hBg:B ≤ g:=by
   obtain ⟨inner,hi⟩:=Kd.Pk HK.out.2.2
   exact bp hi g rfl
  clear eW gW tN oQ
  refine si (w1:=?_) (by rfl) rfl ?_ ?_
  rotate_left
  ·go_simp
   rfl
  refine hK.out _ _ ?_
  clear hK K
  refine Yh (by kernel_rfl) ?_
  go_wp2
  refine bodyPost_end (v:=.tuple #[]) ?_ rfl ?_
  ·kernel_rfl
  exact ⟨rfl,⟨_,HK.out.1,Rb (p:=⟨g,(Df x).toNat * 2 + 1,none⟩) (Rb (p:=⟨g,(Df x).toNat * 2,none⟩) HK.out.2.1 hneg _) hneg _,Vaa.out⟩,(HB.out.setCell hBg _).setCell hBg _⟩
 ·rw [if_neg hm]
  have hmb:decide (Df x ≥ 0)=false:=decide_eq_false hm
  clear hm
  go_enter Try.func60,Try.ntmps60
  go_upto_region 1 with (fail)
  rw [← HW.out]
  clear HW
  go_wp2_with (first|(go_at_call 91;(with_reducible refine (Tx x _).mono ?_);rintro e w1 ⟨rfl,hb⟩;have PO:=qa.mk hb;clear hb))
  refine bodyPost_end (v:=.tuple #[]) ?_ rfl ?_
  ·kernel_rfl
  exact ⟨rfl,HK.out.below PO.out,HB.out.trans (PO.out.mono (Nat.le_trans rQ HB.out.size))⟩
end
end Go.Proofs.Ytmifdccaajngcaa.P
end
section
namespace Go.Proofs.Ytmifdccaajngcaa.P
open Go.RowKit Go.Proofs.Ca.xb Go.Proofs.Ca.Xb Go.Proofs.Ca.ic
set_option linter.unusedVariables false
set_option linter.unusedSimpArgs false
def qp (s:Int) (x:Jh):Bool:=(!(x.f0 == 1) || Sh s x.f2) && (!(x.f0 == 2) || (Sh s x.f2 && Sh s x.f3)) && decide (Df x < s)
def Ow (s:Int) (code:List Jh):Bool:=decide (0 ≤ s) && decide (s ≤ 1000) && decide (code.length ≤ 1048576) && code.all (qp s)
def bh (xs:List Ko) (nx:Int) (code:List Jh):List Ko × Int:=code.foldl (fun p x=>Xh p.1 p.2 x) (xs,nx)
theorem zG (xs:List Ko) (nx:Int) (x:Jh):nx ≤ (Sk xs nx x).2∧(Sk xs nx x).2 ≤ nx + 1:=by
 unfold Sk
 repeat' split
 all_goals simp only
 all_goals omega
theorem EB (xs:List Ko) (nx:Int) (x:Jh):nx ≤ (Xh xs nx x).2∧(Xh xs nx x).2 ≤ nx + 1∧(Xh xs nx x).1.length=xs.length:=by
 unfold Xh
 have:=zG xs nx x
 split
 ·exact ⟨this.1,this.2,List.length_set⟩
 ·exact ⟨Int.le_refl _,by simp only;omega,rfl⟩
theorem kr (code:List Jh):∀ (xs:List Ko) (nx:Int),nx ≤ (bh xs nx code).2∧(bh xs nx code).2 ≤ nx + code.length∧(bh xs nx code).1.length=xs.length:=by
 induction code with
 | nil=>intro xs nx;simp [bh]
 | cons x l ih =>
  intro xs nx
  have h:=ih (Xh xs nx x).1 (Xh xs nx x).2
  have h2:=EB xs nx x
  have e:bh xs nx (x :: l)=bh (Xh xs nx x).1 (Xh xs nx x).2 l:=rfl
  rw [e,List.length_cons]
  omega
theorem Pw (code:List Jh) (xs:List Ko) (nx:Int) (i:Nat) (h:i < code.length):bh xs nx (code.take (i + 1))=Xh (bh xs nx (code.take i)).1 (bh xs nx (code.take i)).2 code[i]:=by
 unfold bh
 rw [List.take_succ_eq_append_getElem h,List.foldl_append]
 rfl
def Xe.f (k:Nat) (Ra:List Int) (Ja:Int) (Ma:Int) (Oa:Int) (Qa:List (Eh)) (a1:Int):Option Int :=
 (Kb.f k Ra Ja Ma Oa Qa).bind fun t =>
  if t=true then
   if qi a1 0 ((Qa.length:Int) - 1)=true then
    if Ow Oa (mb Qa a1).f0=true then some ((bh (idents Oa.toNat) Oa (mb Qa a1).f0).2 - Oa) else none
   else some (-1)
  else some (-1)
theorem Xe.mono:∀ a0 a1 a2 a3 a4 a5 k,mc (Xe.f k a0 a1 a2 a3 a4 a5) (Xe.f (k + 1) a0 a1 a2 a3 a4 a5):=by
 intro a0 a1 a2 a3 a4 a5 k
 unfold Xe.f
 repeat' first
   | (with_reducible exact Kb.mono _ _ _ _ _ _)
   | (with_reducible exact mc.refl _)
   | (with_reducible exact mc.none _)
   | (with_reducible apply mc.bind)
   | split
   | (intro _)
theorem Dy {s:Int} {x:Jh} {n:Nat} (hn:s=(n:Int)) (h:qp s x=true):(x.f0=1→0 ≤ x.f2∧x.f2 < (n:Int))∧(x.f0=2→(0 ≤ x.f2∧x.f2 < (n:Int))∧(0 ≤ x.f3∧x.f3 < (n:Int)))∧Df x < (n:Int):=by
 subst hn
 unfold qp Sh at h
 simp only [Bool.and_eq_true,Bool.or_eq_true,Bool.not_eq_true',beq_eq_false_iff_ne,decide_eq_true_eq] at h
 obtain ⟨⟨h1,h2⟩,h3⟩:=h
 exact ⟨fun e=>h1.resolve_left (fun hne=>hne e),fun e=>h2.resolve_left (fun hne=>hne e),h3⟩
set_option maxHeartbeats 2000000 in
set_option maxRecDepth 100000 in
theorem Xe.calls (k:Nat) (Ib:Option Addr) (Gb:Nat) (Ra:List Int) (Ja:Int) (Ma:Int) (Oa:Int) (qc:Option Addr) (dc:Nat) (Qa:List (Eh)) (a1:Int) (r:Int) (w:World) (zf:Kd.C (Kd.int .i64) w Ib Ra.length Ra) (uf:Ra.length ≤ Gb) (bg:Kd.C Xq w qc Qa.length Qa) (cg:Qa.length ≤ dc) (h:Xe.f k Ra Ja Ma Oa Qa a1=some r) :
  Calls Try.prog 16 #[.agg #[.slice Ib Ra.length Gb,.int .i64 Ja,.int .i64 Ma,.int .i64 Oa,.slice qc Qa.length dc],.int .i64 a1] w fun e w'=>e = .returned (.int .i64 r)∧Below w.heap.size w w':=by
 unfold Xe.f at h
 obtain ⟨t,ht,h⟩:=Option.bind_eq_some_iff.mp h
 have HT:=qa.mk ht
 have hm4:=bg.2.1
 obtain ⟨W1,hW1⟩:∃ W1,W1=w.alloc (.cells #[.slice Ib Ra.length Gb,.int .i64 Ja,.int .i64 Ma,.int .i64 Oa,.slice qc Qa.length dc] 30 (0,0)):=⟨_,rfl⟩
 have HW:=qa.mk hW1
 have Ri:Below w.heap.size w W1:=by rw [hW1];exact ia (Below.refl _ _) _
 have Af:W1.heap[w.heap.size]? = some (.cells #[.slice Ib Ra.length Gb,.int .i64 Ja,.int .i64 Ma,.int .i64 Oa,.slice qc Qa.length dc] 30 (0,0)):=by rw [hW1];exact Yc _ _
 have HB:=qa.mk Ri
 have HX:=qa.mk Af
 have fA:=qa.mk zf
 have MO:=qa.mk bg
 have HL0:=qa.mk uf
 have HL4:=qa.mk cg
 have hx0:=(ga Af 0).trans rfl
 have hx1:=(ga Af 1).trans rfl
 have Gk:=(ga Af 2).trans rfl
 have Fk:=(ga Af 3).trans rfl
 have qm:=(ga Af 4).trans rfl
 clear hW1 Ri Af zf bg ht uf cg
 have HH:=qa.mk h
 clear h
 cases t with
 | false =>
  have h:=HH.out
  rw [if_neg (by simp)] at h
  cases h
  go_enter Try.func16,Try.ntmps16
  go_upto_region 1 with (fail)
  rw [← HW.out]
  clear HW
  go_wp2_with (first|(go_at_call 57;(with_reducible refine (Kb.calls k Ib Gb Ra Ja Ma Oa qc dc Qa false W1 (Kd.Yb fA.out HB.out) HL0.out (Kd.Yb MO.out HB.out) HL4.out HT.out).mono ?_);rintro e w2 ⟨rfl,hb⟩;have Kt:=qa.mk (Pa HB.out hb);clear hb))
  all_goals
   go_ret
   exact ⟨rfl,Kt.out⟩
 | true =>
  have h:=HH.out
  rw [if_pos rfl] at h
  cases hb:qi a1 0 ((Qa.length:Int) - 1) with
  | false =>
   rw [hb,if_neg (by simp)] at h
   cases h
   go_enter Try.func16,Try.ntmps16
   go_upto_region 1 with (fail)
   rw [← HW.out]
   clear HW
   go_wp2_with (first|(go_at_call 57;(with_reducible refine (Kb.calls k Ib Gb Ra Ja Ma Oa qc dc Qa true W1 (Kd.Yb fA.out HB.out) HL0.out (Kd.Yb MO.out HB.out) HL4.out HT.out).mono ?_);rintro e w2 ⟨rfl,hb⟩;have Kt:=qa.mk (Pa HB.out hb);have qm:=(ga (Wa HX.out hb) 4).trans rfl;clear hb)|(go_at_call 58;(with_reducible refine (Oh _ _ _ _).mono ?_);rintro e w3 ⟨rfl,⟨n2,rfl⟩⟩))
   all_goals
    go_ret
    exact ⟨rfl,ja Kt.out _⟩
  | true =>
   rw [hb,if_pos rfl] at h
   by_cases hok:Ow Oa (mb Qa a1).f0=true
   ·rw [if_pos hok] at h
    have hr:=Option.some.inj h
    unfold Ow at hok
    simp only [Bool.and_eq_true,decide_eq_true_eq,List.all_eq_true] at hok
    obtain ⟨⟨⟨hs0,hs1⟩,NI⟩,hall⟩:=hok
    obtain ⟨n,rfl⟩:∃ n:Nat,Oa=(n:Int):=⟨Oa.toNat,by omega⟩
    rw [Int.toNat_natCast] at hr
    have HR:=qa.mk hr
    have HA:=qa.mk hall
    have hq:0 ≤ a1∧a1 < (Qa.length:Int):=by simp [qi] at hb;omega
    obtain ⟨q1,q2⟩:=hq
    clear h hr hall
    go_enter Try.func16,Try.ntmps16
    go_upto_region 1 with (fail)
    rw [← HW.out]
    clear HW
    go_upto_region 4 with (first|(go_at_call 57;(with_reducible refine (Kb.calls k Ib Gb Ra Ja Ma (n:Int) qc dc Qa true W1 (Kd.Yb fA.out HB.out) HL0.out (Kd.Yb MO.out HB.out) HL4.out HT.out).mono ?_);rintro e w2 ⟨rfl,SI⟩;have Kt:=qa.mk (Pa HB.out SI);have fR:=qa.mk (Wa HX.out SI);have hy0:=(ga fR.out 0).trans rfl;have hy1:=(ga fR.out 1).trans rfl;have hy2:=(ga fR.out 2).trans rfl;have hy3:=(ga fR.out 3).trans rfl;have hy4:=(ga fR.out 4).trans rfl;clear SI)|(go_at_call 58;(with_reducible refine (Oh _ _ _ _).mono ?_);rintro e w3 ⟨rfl,⟨n2,rfl⟩⟩)|(go_at_call 59;(with_reducible refine (Mw Ib qc Gb dc Ra.length Qa.length Ja Ma n (by omega) _).mono ?_);rintro e w4 ⟨kb,rfl,hks,SI⟩;have Og:=qa.mk (Pa (ja Kt.out n2) SI);have HX4:=qa.mk (Wa (Ea fR.out n2) SI);have HK4:=qa.mk hks;have HS4:=qa.mk (Ac fR.out);clear hks SI hy0 hy1 hy2 hy3 hy4))
    have hz4:=(ga HX4.out 4).trans rfl
    obtain ⟨ad,A5,c5,e1,hb0,_,_,_,_,hc5,hC5⟩:=Wi MO.out a1 q1 q2
    cases e1
    have HC5:=qa.mk hC5
    have hm5:=hC5.2.1
    replace hb0:=(Og.out.cell (World.block_lt_of_cell? w _ hb0)).trans hb0
    clear hC5
    generalize (mb Qa a1).f0=code at hb0 HC5 hc5 hm5 HR HA NI
    go_wp2
    go_loopg [29] code.length (fun gg r9 wr=>∃ j:Nat,j ≤ code.length∧code.length - j ≤ gg∧r9 = .int .i64 j∧qa (KS wr w2.heap.size kb (bh (idents n) (n:Int) (code.take j)).1 (bh (idents n) (n:Int) (code.take j)).2)∧qa (Below w.heap.size w wr)∧qa (wr.heap[w.heap.size]? = some (.cells #[.slice Ib Ra.length Gb,.int .i64 Ja,.int .i64 Ma,.int .i64 n,.slice (some ad) Qa.length dc] 30 (0,0))))
    case atStart=>exact ⟨0,Nat.zero_le _,by omega,rfl,⟨HK4.out⟩,Og,HX4⟩
    case round =>
     clear HK4 Og HX4 hz4 hb0 hx0 hx1 Gk Fk qm
     (try clear HK)
     (try clear HB)
     (try clear HX)
     obtain ⟨j,hj,hg,rfl,HK,HB,HX⟩:=hrel
     obtain ⟨b1,b2,b3⟩:=kr (code.take j) (idents n) (n:Int)
     rw [ah] at b3
     have hjl:(code.take j).length ≤ code.length:=by rw [List.length_take];omega
     by_cases hlt:j < code.length
     ·have p1:0 ≤ (j:Int):=by omega
      have p2:(j:Int) < (code.length:Int):=by omega
      have LP:decide ((j:Int) < (code.length:Int))=true:=decide_eq_true p2
      obtain ⟨ad7,e2,y0,y1,y2,y3,y4,y5,y6⟩:=Jo (Kd.Yb HC5.out HB.out) (j:Int) p1 p2
      cases e2
      have hx:zb code (j:Int)=code[j]:=by simp [zb,List.getD_eq_getElem?_getD,hlt]
      have HI:=qa.mk (Dy rfl (HA.out _ (List.getElem_mem hlt)))
      rw [hx] at y0 y1 y2 y3 y4 y5 y6
      have HST:=qa.mk (fun (W3:World) (A_:KS W3 w2.heap.size kb (bh (idents n) (n:Int) (code.take j)).1 (bh (idents n) (n:Int) (code.take j)).2)=>vH A_ (by omega) (by omega) code[j] (by rw [b3];exact HI.out.1) (by rw [b3];exact HI.out.2.1) (by rw [b3];exact HI.out.2.2))
      rw [← Pw code (idents n) (n:Int) j hlt] at HST
      simp only [Int.toNat_natCast] at y0 y1 y2 y3 y4 y5 y6
      clear hx b1 b2 b3 hjl
      go_wp2_with (first|(go_at_call 60;(with_reducible refine (HST.out _ (HK.out.alloc _)).mono ?_);rintro e w5 ⟨rfl,hks,SI⟩;have HK5:=qa.mk hks;have Ti:=qa.mk ((ia HB.out _).trans (SI.mono (Nat.le_of_lt HS4.out)));have HX5:=qa.mk ((SI.block _ HS4.out).trans (Da HX.out _));clear hks SI))
      go_roundg (code.length - (j + 1))
      case measure=>omega
      case rel=>exact ⟨j + 1,by omega,by omega,by go_num,HK5,Ti,HX5⟩
     ·have LP:decide ((j:Int) < (code.length:Int))=false:=decide_eq_false (by omega)
      obtain rfl:j=code.length:=by omega
      rw [List.take_length] at HK b1 b2
      obtain ⟨v,hk1,hk2,A_⟩:=HK.out
      have OJ:=(ga hk2 1).trans rfl
      have MP:=(ga HX.out 3).trans rfl
      clear HK hk1 hk2 A_
      go_wp2
      go_quiet (fail)
      go_wp2
      go_ret
      refine ⟨?_,ja HB.out _⟩
      rw [← HR.out]
      congr 2
   ·rw [if_neg hok] at h
    cases h
end Go.Proofs.Ytmifdccaajngcaa.P
end
section
namespace Go.Proofs.Ytmifdccaajngcaa.P
open Go.RowKit Go.Proofs.Ca.xb Go.Proofs.Ca.Xb Go.Proofs.Ca.ic
attribute [local go_sem] Vd Td we ue Dd Cd Ud Sd
set_option linter.unusedVariables false
set_option linter.unusedSimpArgs false
def Ke.f (k:Nat) (Ra:List Int) (Ja:Int) (Ma:Int) (Oa:Int) (Qa:List (Xi)) (a1:Int):Option (Bool):=(af.f k Ra Ja Ma Oa Qa 1048576).bind fun t102=>(if t102 < 0 then (some true) else ((yd.f k Ra Ja Ma Oa Qa).bind fun Ck=>((Gf.f k Ck.1 Ck.2.1 Ck.2.2.1 Ck.2.2.2.1 Ck.2.2.2.2 a1).bind fun t112=>((yd.f k Ra Ja Ma Oa Qa).bind fun Le=>((Xe.f k Le.1 Le.2.1 Le.2.2.1 Le.2.2.2.1 Le.2.2.2.2 a1).bind fun t123=>(if t123=t112 then ((yd.f k Ra Ja Ma Oa Qa).bind fun Jf=>((xe.f k Le.1 Le.2.1 Le.2.2.1 Le.2.2.2.1 Le.2.2.2.2 Jf.1 Jf.2.1 Jf.2.2.1 Jf.2.2.2.1 Jf.2.2.2.2).bind fun t133=>(if t133=true then (some true) else (none)))) else (none)))))))
theorem Ke.mono:∀ a0 a1 a2 a3 a4 a5 k,mc (Ke.f k a0 a1 a2 a3 a4 a5) (Ke.f (k + 1) a0 a1 a2 a3 a4 a5):=by
 intro a0 a1 a2 a3 a4 a5 k
 unfold Ke.f
 repeat' first
   | (with_reducible exact Xe.mono _ _ _ _ _ _ _)
   | (with_reducible exact xe.mono _ _ _ _ _ _ _ _ _ _ _)
   | (with_reducible exact af.mono _ _ _ _ _ _ _)
   | (with_reducible exact yd.mono _ _ _ _ _ _)
   | (with_reducible exact Gf.mono _ _ _ _ _ _ _)
   | (with_reducible exact mc.refl _)
   | (with_reducible exact mc.none _)
   | (with_reducible refine mc.ite ?_ ?_)
   | (with_reducible refine mc.bind ?_ (fun _=>?_))
   | exact Xe.mono _ _ _ _ _ _ _
   | exact xe.mono _ _ _ _ _ _ _ _ _ _ _
   | exact af.mono _ _ _ _ _ _ _
   | exact yd.mono _ _ _ _ _ _
   | exact Gf.mono _ _ _ _ _ _ _
   | exact mc.none _
   | refine mc.ite ?_ ?_
   | refine mc.bind ?_ (fun _=>?_)
set_option maxHeartbeats 8000000 in
set_option maxRecDepth 100000 in
theorem Ke.calls (k:Nat) (Ib:Option Addr) (Gb:Nat) (Ra:List Int) (Ja:Int) (Ma:Int) (Oa:Int) (qc:Option Addr) (dc:Nat) (Qa:List (Xi)) (a1:Int) (r:Bool) (w:World) (zf:Kd.C (Kd.int .i64) w Ib Ra.length Ra) (uf:Ra.length ≤ Gb) (bg:Kd.C Rw w qc Qa.length Qa) (cg:Qa.length ≤ dc) (h:Ke.f k Ra Ja Ma Oa Qa a1=some r) :
  Calls Try.prog 3 #[.agg #[.slice Ib Ra.length Gb,.int .i64 Ja,.int .i64 Ma,.int .i64 Oa,.slice qc Qa.length dc],.int .i64 a1] w fun e w'=>e = .returned (.bool r)∧Below w.heap.size w w':=by
 have WR:=Try.underlying25
 have CA:=Try.underlying30
 have Ve:=qa.mk zf
 have gf:=qa.mk uf
 clear zf uf
 have Tf:=qa.mk bg
 have Yg:=qa.mk cg
 clear bg cg
 have HB:=qa.mk (Below.refl w.heap.size w)
 have H:((af.f k Ra Ja Ma Oa Qa 1048576).bind fun t102=>(if t102 < 0 then (some true) else ((yd.f k Ra Ja Ma Oa Qa).bind fun Ck=>((Gf.f k Ck.1 Ck.2.1 Ck.2.2.1 Ck.2.2.2.1 Ck.2.2.2.2 a1).bind fun t112=>((yd.f k Ra Ja Ma Oa Qa).bind fun Le=>((Xe.f k Le.1 Le.2.1 Le.2.2.1 Le.2.2.2.1 Le.2.2.2.2 a1).bind fun t123=>(if t123=t112 then ((yd.f k Ra Ja Ma Oa Qa).bind fun Jf=>((xe.f k Le.1 Le.2.1 Le.2.2.1 Le.2.2.2.1 Le.2.2.2.2 Jf.1 Jf.2.1 Jf.2.2.1 Jf.2.2.2.1 Jf.2.2.2.2).bind fun t133=>(if t133=true then (some true) else (none)))) else (none))))))))=some r:=h
 clear h
 replace H:=Option.bind_eq_some_iff.mp H
 obtain ⟨t102,Ht,H⟩:=H
 replace H:(if t102 < 0 then (some true) else ((yd.f k Ra Ja Ma Oa Qa).bind fun Ck=>((Gf.f k Ck.1 Ck.2.1 Ck.2.2.1 Ck.2.2.2.1 Ck.2.2.2.2 a1).bind fun t112=>((yd.f k Ra Ja Ma Oa Qa).bind fun Le=>((Xe.f k Le.1 Le.2.1 Le.2.2.1 Le.2.2.2.1 Le.2.2.2.2 a1).bind fun t123=>(if t123=t112 then ((yd.f k Ra Ja Ma Oa Qa).bind fun Jf=>((xe.f k Le.1 Le.2.1 Le.2.2.1 Le.2.2.2.1 Le.2.2.2.2 Jf.1 Jf.2.1 Jf.2.2.1 Jf.2.2.2.1 Jf.2.2.2.2).bind fun t133=>(if t133=true then (some true) else (none)))) else (none)))))))=some r:=H
 have A3:=qa.mk Ht
 clear Ht
 by_cases c4:t102 < 0
 ·rw [if_pos c4] at H
  have Mh:decide (t102 < 0)=true:=decide_eq_true c4
  clear c4
  obtain rfl:=Option.some.inj H
  go_enter Try.func3,Try.ntmps3
  go_wp2_with (first|((with_reducible refine Mb (N:=2) rfl ?_);refine Jb ?hg (N:=2) ?hd (cs:=#[.slice Ib Ra.length Gb,.int .i64 Ja,.int .i64 Ma,.int .i64 Oa,.slice qc Qa.length dc]) (t:=25) ?hr ?_;(case hd=>rfl);(case hg=>rfl);(case hr=>first|(go_simp;done)|(go_simp;rfl));intro Fa hg w5 Qb hb;have Pb:=qa.mk (Pa (by repeat (first|(with_reducible first|exact HB.out|apply ia|apply ja|apply za)|exact HB.out)) hb);have Wb:=qa.mk (Qb);have nc:=qa.mk ((by rw [hg];exact (Na (by repeat (first|(with_reducible first|exact HB.out|apply ia|apply ja|apply za)|exact HB.out))):w.heap.size ≤ Fa));have Nc:=qa.mk ((by rw [hg];exact (Na (by repeat (first|(with_reducible first|exact HB.out|apply ia|apply ja|apply za)|exact HB.out))):w.heap.size ≤ Fa));clear HB;have HB:=Pb;have ua:=Wb;have Nd:=nc;have Va:=Nc;clear Pb Wb nc Nc;clear hb Qb hg;have II:w5.cell? ⟨Fa,0,none⟩=some (.slice Ib Ra.length Gb):=(ga ua.out 0).trans rfl;have GI:w5.cell? ⟨Fa,1,none⟩=some (.int .i64 Ja):=(ga ua.out 1).trans rfl;have FI:w5.cell? ⟨Fa,2,none⟩=some (.int .i64 Ma):=(ga ua.out 2).trans rfl;have EI:w5.cell? ⟨Fa,3,none⟩=some (.int .i64 Oa):=(ga ua.out 3).trans rfl;have DI:w5.cell? ⟨Fa,4,none⟩=some (.slice qc Qa.length dc):=(ga ua.out 4).trans rfl;have pI:=aa ua.out 0;have oI:=aa ua.out 1;have nI:=aa ua.out 2;have mI:=aa ua.out 3;have lI:=aa ua.out 4)|((with_reducible refine Bb (f:=13) rfl ?_);refine jd (some 11) rfl rfl Try.func13 (by kernel_rfl) rfl #[.agg #[.slice Ib Ra.length Gb,.int .i64 Ja,.int .i64 Ma,.int .i64 Oa,.slice qc Qa.length dc],.int .i64 1048576] rfl (by (try simp only [List.map_toArray,List.map_cons,List.map_nil]);first|done|rfl|(simp only [List.length_drop,List.length_take];rfl)) ?_;(with_reducible refine (af.calls k _ _ Ra Ja Ma Oa _ _ Qa 1048576 t102 _ ?side1 ?side2 ?side3 ?side4 A3.out).mono ?_);(case side1=>repeat (first|exact (Kd.Yb Ve.out HB.out)|(with_reducible refine Kd.yc ?_ _)|(with_reducible refine Kd.uc ?_ _)|(with_reducible refine Kd.Sc ?_)));(case side2=>exact gf.out);(case side3=>repeat (first|exact (Kd.Yb Tf.out HB.out)|(with_reducible refine Kd.yc ?_ _)|(with_reducible refine Kd.uc ?_ _)|(with_reducible refine Kd.Sc ?_)));(case side4=>exact Yg.out);rintro e w7 ⟨rfl,hb⟩;refine ⟨_,rfl,?_⟩;have Pb:=qa.mk (Wa (g:=Fa) (o:=.cells #[.slice Ib Ra.length Gb,.int .i64 Ja,.int .i64 Ma,.int .i64 Oa,.slice qc Qa.length dc] 25 (0,0)) (by (with_reducible repeat (first|refine Ea ?_ _|refine Ga ?_|refine Da ?_ _));exact ua.out) hb);have Wb:=qa.mk (Pa (by repeat (first|(with_reducible first|exact HB.out|apply ia|apply ja|apply za|refine Aa ?_ Va.out)|exact HB.out)) hb);clear ua;clear HB;have ua:=Pb;have HB:=Wb;clear Pb Wb;(try clear hb);(try clear hb2);(try clear hk);(try clear hi)))
  go_ret
  exact ⟨by first|rfl|(simp [La,Ka] <;> rfl)|(simp [*,La,Ka] <;> rfl),by repeat (first|(with_reducible first|exact HB.out|apply ia|apply ja|apply za|refine Aa ?_ Va.out)|exact HB.out)⟩
 ·rw [if_neg c4] at H
  have Mh:decide (t102 < 0)=false:=decide_eq_false c4
  clear c4
  replace H:=Option.bind_eq_some_iff.mp H
  obtain ⟨⟨t103,t106,t107,t108,t109⟩,pG,H⟩:=H
  replace H:((Gf.f k t103 t106 t107 t108 t109 a1).bind fun t112=>((yd.f k Ra Ja Ma Oa Qa).bind fun Le=>((Xe.f k Le.1 Le.2.1 Le.2.2.1 Le.2.2.2.1 Le.2.2.2.2 a1).bind fun t123=>(if t123=t112 then ((yd.f k Ra Ja Ma Oa Qa).bind fun Jf=>((xe.f k Le.1 Le.2.1 Le.2.2.1 Le.2.2.2.1 Le.2.2.2.2 Jf.1 Jf.2.1 Jf.2.2.1 Jf.2.2.2.1 Jf.2.2.2.2).bind fun t133=>(if t133=true then (some true) else (none)))) else (none)))))=some r:=H
  have A8:=qa.mk pG
  clear pG
  replace H:=Option.bind_eq_some_iff.mp H
  obtain ⟨t112,A90,H⟩:=H
  replace H:((yd.f k Ra Ja Ma Oa Qa).bind fun Le=>((Xe.f k Le.1 Le.2.1 Le.2.2.1 Le.2.2.2.1 Le.2.2.2.2 a1).bind fun t123=>(if t123=t112 then ((yd.f k Ra Ja Ma Oa Qa).bind fun Jf=>((xe.f k Le.1 Le.2.1 Le.2.2.1 Le.2.2.2.1 Le.2.2.2.2 Jf.1 Jf.2.1 Jf.2.2.1 Jf.2.2.2.1 Jf.2.2.2.2).bind fun t133=>(if t133=true then (some true) else (none)))) else (none))))=some r:=H
  have A9:=qa.mk A90
  clear A90
  replace H:=Option.bind_eq_some_iff.mp H
  obtain ⟨⟨t113,t116,t117,t118,t119⟩,aY,H⟩:=H
  replace H:((Xe.f k t113 t116 t117 t118 t119 a1).bind fun t123=>(if t123=t112 then ((yd.f k Ra Ja Ma Oa Qa).bind fun Jf=>((xe.f k t113 t116 t117 t118 t119 Jf.1 Jf.2.1 Jf.2.2.1 Jf.2.2.2.1 Jf.2.2.2.2).bind fun t133=>(if t133=true then (some true) else (none)))) else (none)))=some r:=H
  have A10:=qa.mk aY
  clear aY
  replace H:=Option.bind_eq_some_iff.mp H
  obtain ⟨t123,JJ,H⟩:=H
  replace H:(if t123=t112 then ((yd.f k Ra Ja Ma Oa Qa).bind fun Jf=>((xe.f k t113 t116 t117 t118 t119 Jf.1 Jf.2.1 Jf.2.2.1 Jf.2.2.2.1 Jf.2.2.2.2).bind fun t133=>(if t133=true then (some true) else (none)))) else (none))=some r:=H
  have UO:=qa.mk JJ
  clear JJ
  by_cases c12:t123=t112
  ·rw [if_pos c12] at H
   have Mad:(t123 == t112)=true:=beq_iff_eq.mpr c12
   have Lad:(t123 != t112)=false:=bne_eq_false_iff_eq.mpr c12
   clear c12
   replace H:=Option.bind_eq_some_iff.mp H
   obtain ⟨⟨t124,t127,t128,t129,t130⟩,IJ,H⟩:=H
   replace H:((xe.f k t113 t116 t117 t118 t119 t124 t127 t128 t129 t130).bind fun t133=>(if t133=true then (some true) else (none)))=some r:=H
   have wR:=qa.mk IJ
   clear IJ
   replace H:=Option.bind_eq_some_iff.mp H
   obtain ⟨t133,HJ,H⟩:=H
   replace H:(if t133=true then (some true) else (none))=some r:=H
   have A14:=qa.mk HJ
   clear HJ
   by_cases c15:t133=true
   ·subst c15
    have H1:(some true)=some r:=by rw [if_pos rfl] at H;exact H
    clear H
    have H:=H1
    clear H1
    obtain rfl:=Option.some.inj H
    go_enter Try.func3,Try.ntmps3
    try go_wp2_with (first|((with_reducible refine Mb (N:=2) rfl ?_);refine Jb ?hg (N:=2) ?hd (cs:=#[.slice Ib Ra.length Gb,.int .i64 Ja,.int .i64 Ma,.int .i64 Oa,.slice qc Qa.length dc]) (t:=25) ?hr ?_;(case hd=>rfl);(case hg=>rfl);(case hr=>first|(go_simp;done)|(go_simp;rfl));intro Fa hg Dw Qb hb;have Pb:=qa.mk (Pa (by repeat (first|(with_reducible first|exact HB.out|apply ia|apply ja|apply za)|exact HB.out)) hb);have Wb:=qa.mk (Qb);have nc:=qa.mk ((by rw [hg];exact (Na (by repeat (first|(with_reducible first|exact HB.out|apply ia|apply ja|apply za)|exact HB.out))):w.heap.size ≤ Fa));have Nc:=qa.mk ((by rw [hg];exact (Na (by repeat (first|(with_reducible first|exact HB.out|apply ia|apply ja|apply za)|exact HB.out))):w.heap.size ≤ Fa));clear HB;have HB:=Pb;have ua:=Wb;have Nd:=nc;have Va:=Nc;clear Pb Wb nc Nc;clear hb Qb hg;have Zs:Dw.cell? ⟨Fa,0,none⟩=some (.slice Ib Ra.length Gb):=(ga ua.out 0).trans rfl;have Ys:Dw.cell? ⟨Fa,1,none⟩=some (.int .i64 Ja):=(ga ua.out 1).trans rfl;have iw:Dw.cell? ⟨Fa,2,none⟩=some (.int .i64 Ma):=(ga ua.out 2).trans rfl;have ew:Dw.cell? ⟨Fa,3,none⟩=some (.int .i64 Oa):=(ga ua.out 3).trans rfl;have dw:Dw.cell? ⟨Fa,4,none⟩=some (.slice qc Qa.length dc):=(ga ua.out 4).trans rfl;have Ds:=aa ua.out 0;have Cs:=aa ua.out 1;have jv:=aa ua.out 2;have cv:=aa ua.out 3;have av:=aa ua.out 4)|((with_reducible refine Bb (f:=13) rfl ?_);refine jd (some 11) rfl rfl Try.func13 (by kernel_rfl) rfl #[.agg #[.slice Ib Ra.length Gb,.int .i64 Ja,.int .i64 Ma,.int .i64 Oa,.slice qc Qa.length dc],.int .i64 1048576] rfl (by (try simp only [List.map_toArray,List.map_cons,List.map_nil]);first|done|rfl|(simp only [List.length_drop,List.length_take];rfl)) ?_;(with_reducible refine (af.calls k _ _ Ra Ja Ma Oa _ _ Qa 1048576 t102 _ ?side1 ?side2 ?side3 ?side4 A3.out).mono ?_);(case side1=>repeat (first|exact (Kd.Yb Ve.out HB.out)|(with_reducible refine Kd.yc ?_ _)|(with_reducible refine Kd.uc ?_ _)|(with_reducible refine Kd.Sc ?_)));(case side2=>exact gf.out);(case side3=>repeat (first|exact (Kd.Yb Tf.out HB.out)|(with_reducible refine Kd.yc ?_ _)|(with_reducible refine Kd.uc ?_ _)|(with_reducible refine Kd.Sc ?_)));(case side4=>exact Yg.out);rintro e jB ⟨rfl,hb⟩;refine ⟨_,rfl,?_⟩;have Pb:=qa.mk (Wa (g:=Fa) (o:=.cells #[.slice Ib Ra.length Gb,.int .i64 Ja,.int .i64 Ma,.int .i64 Oa,.slice qc Qa.length dc] 25 (0,0)) (by (with_reducible repeat (first|refine Ea ?_ _|refine Ga ?_|refine Da ?_ _));exact ua.out) hb);have Wb:=qa.mk (Pa (by repeat (first|(with_reducible first|exact HB.out|apply ia|apply ja|apply za|refine Aa ?_ Va.out)|exact HB.out)) hb);clear ua;clear HB;have ua:=Pb;have HB:=Wb;clear Pb Wb;(try clear hb);(try clear hb2);(try clear hk);(try clear hi);have TF:jB.cell? ⟨Fa,0,none⟩=some (.slice Ib Ra.length Gb):=(ga ua.out 0).trans rfl;have SF:jB.cell? ⟨Fa,1,none⟩=some (.int .i64 Ja):=(ga ua.out 1).trans rfl;have RF:jB.cell? ⟨Fa,2,none⟩=some (.int .i64 Ma):=(ga ua.out 2).trans rfl;have QF:jB.cell? ⟨Fa,3,none⟩=some (.int .i64 Oa):=(ga ua.out 3).trans rfl;have PF:jB.cell? ⟨Fa,4,none⟩=some (.slice qc Qa.length dc):=(ga ua.out 4).trans rfl;have xE:=aa ua.out 0;have wE:=aa ua.out 1;have vE:=aa ua.out 2;have uE:=aa ua.out 3;have tE:=aa ua.out 4)|((with_reducible refine Bb (f:=15) rfl ?_);refine jd (some 15) rfl rfl Try.func15 (by kernel_rfl) rfl #[.agg #[.slice Ib Ra.length Gb,.int .i64 Ja,.int .i64 Ma,.int .i64 Oa,.slice qc Qa.length dc]] rfl (by (try simp only [List.map_toArray,List.map_cons,List.map_nil]);first|done|rfl|(simp only [List.length_drop,List.length_take];rfl)) ?_;(with_reducible refine (yd.calls k _ _ Ra Ja Ma Oa _ _ Qa t103 t106 t107 t108 t109 _ ?side1 ?side2 ?side3 ?side4 A8.out).mono ?_);(case side1=>repeat (first|exact (Kd.Yb Ve.out HB.out)|(with_reducible refine Kd.yc ?_ _)|(with_reducible refine Kd.uc ?_ _)|(with_reducible refine Kd.Sc ?_)));(case side2=>exact gf.out);(case side3=>repeat (first|exact (Kd.Yb Tf.out HB.out)|(with_reducible refine Kd.yc ?_ _)|(with_reducible refine Kd.uc ?_ _)|(with_reducible refine Kd.Sc ?_)));(case side4=>exact Yg.out);rintro e w20 ⟨xae,uae,rfl,Vo,QB,hb⟩;refine ⟨_,rfl,?_⟩;have Pb:=qa.mk (Kd.Xg Vo (Na (by repeat (first|(with_reducible first|exact HB.out|apply ia|apply ja|apply za|refine Aa ?_ Va.out)|exact HB.out))));have Wb:=qa.mk (Kd.yt QB (Na (by repeat (first|(with_reducible first|exact HB.out|apply ia|apply ja|apply za|refine Aa ?_ Va.out)|exact HB.out))));have nc:=qa.mk (Wa (g:=Fa) (o:=.cells #[.slice Ib Ra.length Gb,.int .i64 Ja,.int .i64 Ma,.int .i64 Oa,.slice qc Qa.length dc] 25 (0,0)) (by (with_reducible repeat (first|refine Ea ?_ _|refine Ga ?_|refine Da ?_ _));exact ua.out) hb);have Nc:=qa.mk (Pa (by repeat (first|(with_reducible first|exact HB.out|apply ia|apply ja|apply za|refine Aa ?_ Va.out)|exact HB.out)) hb);clear ua;clear HB;have wh:=Pb;have uh:=Wb;have ua:=nc;have HB:=Nc;clear Pb Wb nc Nc;(try clear hb);(try clear hb2);(try clear hk);(try clear hi);(try clear Vo);(try clear QB);obtain ⟨MX,MW,Iaa⟩:=Kd.mh wh.out;subst Iaa;obtain ⟨LX,LW,Haa⟩:=Kd.zw uh.out;subst Haa)|((with_reducible refine Bb (f:=14) rfl ?_);refine jd (some 17) rfl rfl Try.func14 (by kernel_rfl) rfl #[.agg #[.slice MX t103.length MW,.int .i64 t106,.int .i64 t107,.int .i64 t108,.slice LX t109.length LW],.int .i64 a1] rfl (by (try simp only [List.map_toArray,List.map_cons,List.map_nil]);first|done|rfl|(simp only [List.length_drop,List.length_take];rfl)) ?_;(with_reducible refine (Gf.calls k _ _ t103 t106 t107 t108 _ _ t109 a1 t112 _ ?side1 ?side2 ?side3 ?side4 A9.out).mono ?_);(case side1=>repeat (first|exact (Kd.ee wh.out).2.2|(with_reducible refine Kd.yc ?_ _)|(with_reducible refine Kd.uc ?_ _)|(with_reducible refine Kd.Sc ?_)));(case side2=>exact (Kd.ee wh.out).2.1);(case side3=>repeat (first|exact (Kd.Ai uh.out).2.2|(with_reducible refine Kd.yc ?_ _)|(with_reducible refine Kd.uc ?_ _)|(with_reducible refine Kd.Sc ?_)));(case side4=>exact (Kd.Ai uh.out).2.1);rintro e iB ⟨rfl,hb⟩;refine ⟨_,rfl,?_⟩;have Pb:=qa.mk (Kd.Ge (by (with_reducible repeat (first|apply Kd.Qc|apply Kd.Pc|apply Kd.xd));exact wh.out) hb);have Wb:=qa.mk (Kd.Qj (by (with_reducible repeat (first|apply Kd.ag|apply Kd.Zf|apply Kd.Jg));exact uh.out) hb);have nc:=qa.mk (Wa (g:=Fa) (o:=.cells #[.slice Ib Ra.length Gb,.int .i64 Ja,.int .i64 Ma,.int .i64 Oa,.slice qc Qa.length dc] 25 (0,0)) (by (with_reducible repeat (first|refine Ea ?_ _|refine Ga ?_|refine Da ?_ _));exact ua.out) hb);have Nc:=qa.mk (Pa (by repeat (first|(with_reducible first|exact HB.out|apply ia|apply ja|apply za|refine Aa ?_ Va.out)|exact HB.out)) hb);clear wh;clear uh;clear ua;clear HB;have wh:=Pb;have uh:=Wb;have ua:=nc;have HB:=Nc;clear Pb Wb nc Nc;(try clear hb);(try clear hb2);(try clear hk);(try clear hi);have nk:iB.cell? ⟨Fa,0,none⟩=some (.slice Ib Ra.length Gb):=(ga ua.out 0).trans rfl;have jk:iB.cell? ⟨Fa,1,none⟩=some (.int .i64 Ja):=(ga ua.out 1).trans rfl;have Cq:iB.cell? ⟨Fa,2,none⟩=some (.int .i64 Ma):=(ga ua.out 2).trans rfl;have Bq:iB.cell? ⟨Fa,3,none⟩=some (.int .i64 Oa):=(ga ua.out 3).trans rfl;have Aq:iB.cell? ⟨Fa,4,none⟩=some (.slice qc Qa.length dc):=(ga ua.out 4).trans rfl;have ck:=aa ua.out 0;have bk:=aa ua.out 1;have lq:=aa ua.out 2;have jq:=aa ua.out 3;have iq:=aa ua.out 4)|((with_reducible refine Bb (f:=15) rfl ?_);refine jd (some 19) rfl rfl Try.func15 (by kernel_rfl) rfl #[.agg #[.slice Ib Ra.length Gb,.int .i64 Ja,.int .i64 Ma,.int .i64 Oa,.slice qc Qa.length dc]] rfl (by (try simp only [List.map_toArray,List.map_cons,List.map_nil]);first|done|rfl|(simp only [List.length_drop,List.length_take];rfl)) ?_;(with_reducible refine (yd.calls k _ _ Ra Ja Ma Oa _ _ Qa t113 t116 t117 t118 t119 _ ?side1 ?side2 ?side3 ?side4 A10.out).mono ?_);(case side1=>repeat (first|exact (Kd.Yb Ve.out HB.out)|(with_reducible refine Kd.yc ?_ _)|(with_reducible refine Kd.uc ?_ _)|(with_reducible refine Kd.Sc ?_)));(case side2=>exact gf.out);(case side3=>repeat (first|exact (Kd.Yb Tf.out HB.out)|(with_reducible refine Kd.yc ?_ _)|(with_reducible refine Kd.uc ?_ _)|(with_reducible refine Kd.Sc ?_)));(case side4=>exact Yg.out);rintro e w25 ⟨tae,sae,rfl,Vo,QB,hb⟩;refine ⟨_,rfl,?_⟩;have Pb:=qa.mk (Kd.Dt (by (with_reducible repeat (first|apply Kd.Qc|apply Kd.Pc|apply Kd.xd));exact wh.out) (Kd.Bx Vo) hb);have Wb:=qa.mk (Kd.Bt (by (with_reducible repeat (first|apply Kd.ag|apply Kd.Zf|apply Kd.Jg));exact uh.out) (Kd.JC QB) hb);have nc:=qa.mk (Kd.Xg (Kd.Yz Vo (Kd.BN (by (with_reducible repeat (first|apply Kd.Qc|apply Kd.Pc|apply Kd.xd));exact wh.out))) (Na (by repeat (first|(with_reducible first|exact HB.out|apply ia|apply ja|apply za|refine Aa ?_ Va.out)|exact HB.out))));have Nc:=qa.mk (Kd.yt (Kd.IC QB (Kd.XQ (by (with_reducible repeat (first|apply Kd.ag|apply Kd.Zf|apply Kd.Jg));exact uh.out))) (Na (by repeat (first|(with_reducible first|exact HB.out|apply ia|apply ja|apply za|refine Aa ?_ Va.out)|exact HB.out))));have qe:=qa.mk (Wa (g:=Fa) (o:=.cells #[.slice Ib Ra.length Gb,.int .i64 Ja,.int .i64 Ma,.int .i64 Oa,.slice qc Qa.length dc] 25 (0,0)) (by (with_reducible repeat (first|refine Ea ?_ _|refine Ga ?_|refine Da ?_ _));exact ua.out) hb);have lf:=qa.mk (Pa (by repeat (first|(with_reducible first|exact HB.out|apply ia|apply ja|apply za|refine Aa ?_ Va.out)|exact HB.out)) hb);clear wh;clear uh;clear ua;clear HB;have wh:=Pb;have uh:=Wb;have ai:=nc;have Zh:=Nc;have ua:=qe;have HB:=lf;clear Pb Wb nc Nc qe lf;(try clear hb);(try clear hb2);(try clear hk);(try clear hi);(try clear Vo);(try clear QB))|((with_reducible refine Mb (N:=7) rfl ?_);refine Jb ?hg (N:=7) ?hd (cs:=#[.slice none 0 0,.int .i64 0,.int .i64 0,.int .i64 0,.slice none 0 0]) (t:=30) ?hr ?_;(case hd=>rfl);(case hg=>rfl);(case hr=>first|(go_simp;done)|(go_simp;rfl));intro tf hg Sq Qb hb;have Pb:=qa.mk (Kd.Ge (by (with_reducible repeat (first|apply Kd.Qc|apply Kd.Pc|apply Kd.xd));exact wh.out) hb);have Wb:=qa.mk (Kd.Qj (by (with_reducible repeat (first|apply Kd.ag|apply Kd.Zf|apply Kd.Jg));exact uh.out) hb);have nc:=qa.mk (Kd.Ge (by (with_reducible repeat (first|apply Kd.Qc|apply Kd.Pc|apply Kd.xd));exact ai.out) hb);have Nc:=qa.mk (Kd.Qj (by (with_reducible repeat (first|apply Kd.ag|apply Kd.Zf|apply Kd.Jg));exact Zh.out) hb);have qe:=qa.mk (Wa (g:=Fa) (o:=.cells #[.slice Ib Ra.length Gb,.int .i64 Ja,.int .i64 Ma,.int .i64 Oa,.slice qc Qa.length dc] 25 (0,0)) (by (with_reducible repeat (first|refine Ea ?_ _|refine Ga ?_|refine Da ?_ _));exact ua.out) hb);have lf:=qa.mk (Pa (by repeat (first|(with_reducible first|exact HB.out|apply ia|apply ja|apply za|refine Aa ?_ Va.out)|exact HB.out)) hb);have Hf:=qa.mk (Qb);have lp:=qa.mk ((by rw [hg];exact (Na (by repeat (first|(with_reducible first|exact HB.out|apply ia|apply ja|apply za|refine Aa ?_ Va.out)|exact HB.out))):w.heap.size ≤ tf));have gp:=qa.mk ((by rw [hg];exact (Na (by repeat (first|(with_reducible first|exact HB.out|apply ia|apply ja|apply za|refine Aa ?_ Va.out)|exact HB.out))):w.heap.size ≤ tf));have XC:=qa.mk ((by rw [hg];exact Nat.ne_of_lt (Ac (g:=Fa) (o:=.cells #[.slice Ib Ra.length Gb,.int .i64 Ja,.int .i64 Ma,.int .i64 Oa,.slice qc Qa.length dc] 25 (0,0)) (by (with_reducible repeat (first|refine Ea ?_ _|refine Ga ?_|refine Da ?_ _));exact ua.out)):Fa ≠ tf));have UR:=qa.mk ((by rw [hg];exact Nat.ne_of_gt (Ac (g:=Fa) (o:=.cells #[.slice Ib Ra.length Gb,.int .i64 Ja,.int .i64 Ma,.int .i64 Oa,.slice qc Qa.length dc] 25 (0,0)) (by (with_reducible repeat (first|refine Ea ?_ _|refine Ga ?_|refine Da ?_ _));exact ua.out)):tf ≠ Fa));clear wh;clear uh;clear ai;clear Zh;clear ua;clear HB;have wh:=Pb;have uh:=Wb;have ai:=nc;have Zh:=Nc;have ua:=qe;have HB:=lf;have Ef:=Hf;have Yad:=lp;have gy:=gp;have Ll:=XC;have ZG:=UR;clear Pb Wb nc Nc qe lf Hf lp gp XC UR;clear hb Qb hg;obtain ⟨Pq,Ip,Gaa⟩:=Kd.mh ai.out;subst Gaa;have fI:=ZG.out;have cI:=Ll.out;have Qm:Sq.cell? ⟨tf,0,none⟩=some (.slice none 0 0):=(ga Ef.out 0).trans rfl;have Pm:Sq.cell? ⟨tf,1,none⟩=some (.int .i64 0):=(ga Ef.out 1).trans rfl;have Jz:Sq.cell? ⟨tf,2,none⟩=some (.int .i64 0):=(ga Ef.out 2).trans rfl;have Iz:Sq.cell? ⟨tf,3,none⟩=some (.int .i64 0):=(ga Ef.out 3).trans rfl;have Hz:Sq.cell? ⟨tf,4,none⟩=some (.slice none 0 0):=(ga Ef.out 4).trans rfl;have Cm:=aa Ef.out 0;have Bm:=aa Ef.out 1;have gz:=aa Ef.out 2;have fz:=aa Ef.out 3;have ez:=aa Ef.out 4;obtain ⟨Eu,Ut,Faa⟩:=Kd.zw Zh.out;subst Faa)|((with_reducible refine Bb (f:=16) rfl ?_);refine jd (some 22) rfl rfl Try.func16 (by kernel_rfl) rfl #[.agg #[.slice Pq t113.length Ip,.int .i64 t116,.int .i64 t117,.int .i64 t118,.slice Eu t119.length Ut],.int .i64 a1] rfl (by (try simp only [List.map_toArray,List.map_cons,List.map_nil]);first|done|rfl|(simp only [List.length_drop,List.length_take];rfl)) ?_;(with_reducible refine (Xe.calls k _ _ t113 t116 t117 t118 _ _ t119 a1 t123 _ ?side1 ?side2 ?side3 ?side4 UO.out).mono ?_);(case side1=>refine (Kd.ee (e:=3) (base:=w.heap.size) (ok:=fun k_=>(True∧some k_ ≠ (.slice MX t103.length MW:Value).ownBlock)) (n:=t113.length) (c:=Ip) ?_).2.2;exact (by (with_reducible repeat (first|apply Kd.Qc|apply Kd.Pc|apply Kd.xd));exact (Kd.ke (Kd.He (p:=⟨tf,4,none⟩) (Kd.He (p:=⟨tf,3,none⟩) (Kd.He (p:=⟨tf,2,none⟩) (Kd.He (p:=⟨tf,1,none⟩) (Kd.He (p:=⟨tf,0,none⟩) (Kd.Rj ai.out Ef.out (by decide)) (fun _ hk=>hk.2) (.slice Pq t113.length Ip)) (fun _ hk=>hk.2) (.int .i64 t116)) (fun _ hk=>hk.2) (.int .i64 t117)) (fun _ hk=>hk.2) (.int .i64 t118)) (fun _ hk=>hk.2) (.slice Eu t119.length Ut)) (fun _ h_=>h_.1))));(case side2=>exact (Kd.ee ai.out).2.1);(case side3=>refine (Kd.Ai (e:=68) (base:=w.heap.size) (ok:=fun k_=>(True∧some k_ ≠ (.slice LX t109.length LW:Value).ownBlock)) (n:=t119.length) (c:=Ut) ?_).2.2;exact (by (with_reducible repeat (first|apply Kd.ag|apply Kd.Zf|apply Kd.Jg));exact (Kd.ur (Kd.Bi (p:=⟨tf,4,none⟩) (Kd.Bi (p:=⟨tf,3,none⟩) (Kd.Bi (p:=⟨tf,2,none⟩) (Kd.Bi (p:=⟨tf,1,none⟩) (Kd.Bi (p:=⟨tf,0,none⟩) (Kd.qt Zh.out Ef.out (by decide)) (fun _ hk=>hk.2) (.slice Pq t113.length Ip)) (fun _ hk=>hk.2) (.int .i64 t116)) (fun _ hk=>hk.2) (.int .i64 t117)) (fun _ hk=>hk.2) (.int .i64 t118)) (fun _ hk=>hk.2) (.slice Eu t119.length Ut)) (fun _ h_=>h_.1))));(case side4=>exact (Kd.Ai Zh.out).2.1);rintro e gB ⟨rfl,hb⟩;refine ⟨_,rfl,?_⟩;have Pb:=qa.mk (Kd.Ge (by (with_reducible repeat (first|apply Kd.Qc|apply Kd.Pc|apply Kd.xd));exact (Kd.ke (Kd.He (p:=⟨tf,4,none⟩) (Kd.He (p:=⟨tf,3,none⟩) (Kd.He (p:=⟨tf,2,none⟩) (Kd.He (p:=⟨tf,1,none⟩) (Kd.He (p:=⟨tf,0,none⟩) (Kd.Rj wh.out Ef.out (by decide)) (fun _ hk=>hk.2) (.slice Pq t113.length Ip)) (fun _ hk=>hk.2) (.int .i64 t116)) (fun _ hk=>hk.2) (.int .i64 t117)) (fun _ hk=>hk.2) (.int .i64 t118)) (fun _ hk=>hk.2) (.slice Eu t119.length Ut)) (fun _ h_=>h_.1))) hb);have Wb:=qa.mk (Kd.Qj (by (with_reducible repeat (first|apply Kd.ag|apply Kd.Zf|apply Kd.Jg));exact (Kd.ur (Kd.Bi (p:=⟨tf,4,none⟩) (Kd.Bi (p:=⟨tf,3,none⟩) (Kd.Bi (p:=⟨tf,2,none⟩) (Kd.Bi (p:=⟨tf,1,none⟩) (Kd.Bi (p:=⟨tf,0,none⟩) (Kd.qt uh.out Ef.out (by decide)) (fun _ hk=>hk.2) (.slice Pq t113.length Ip)) (fun _ hk=>hk.2) (.int .i64 t116)) (fun _ hk=>hk.2) (.int .i64 t117)) (fun _ hk=>hk.2) (.int .i64 t118)) (fun _ hk=>hk.2) (.slice Eu t119.length Ut)) (fun _ h_=>h_.1))) hb);have nc:=qa.mk (Kd.Ge (by (with_reducible repeat (first|apply Kd.Qc|apply Kd.Pc|apply Kd.xd));exact (Kd.ke (Kd.He (p:=⟨tf,4,none⟩) (Kd.He (p:=⟨tf,3,none⟩) (Kd.He (p:=⟨tf,2,none⟩) (Kd.He (p:=⟨tf,1,none⟩) (Kd.He (p:=⟨tf,0,none⟩) (Kd.Rj ai.out Ef.out (by decide)) (fun _ hk=>hk.2) (.slice Pq t113.length Ip)) (fun _ hk=>hk.2) (.int .i64 t116)) (fun _ hk=>hk.2) (.int .i64 t117)) (fun _ hk=>hk.2) (.int .i64 t118)) (fun _ hk=>hk.2) (.slice Eu t119.length Ut)) (fun _ h_=>h_.1))) hb);have Nc:=qa.mk (Kd.Qj (by (with_reducible repeat (first|apply Kd.ag|apply Kd.Zf|apply Kd.Jg));exact (Kd.ur (Kd.Bi (p:=⟨tf,4,none⟩) (Kd.Bi (p:=⟨tf,3,none⟩) (Kd.Bi (p:=⟨tf,2,none⟩) (Kd.Bi (p:=⟨tf,1,none⟩) (Kd.Bi (p:=⟨tf,0,none⟩) (Kd.qt Zh.out Ef.out (by decide)) (fun _ hk=>hk.2) (.slice Pq t113.length Ip)) (fun _ hk=>hk.2) (.int .i64 t116)) (fun _ hk=>hk.2) (.int .i64 t117)) (fun _ hk=>hk.2) (.int .i64 t118)) (fun _ hk=>hk.2) (.slice Eu t119.length Ut)) (fun _ h_=>h_.1))) hb);have qe:=qa.mk (Wa (g:=Fa) (o:=.cells #[.slice Ib Ra.length Gb,.int .i64 Ja,.int .i64 Ma,.int .i64 Oa,.slice qc Qa.length dc] 25 (0,0)) (by (with_reducible repeat (first|refine Ea ?_ _|refine Ga ?_|refine Da ?_ _));refine Rb ?_ Ll.out _;(with_reducible repeat (first|refine Ea ?_ _|refine Ga ?_|refine Da ?_ _));refine Rb ?_ Ll.out _;(with_reducible repeat (first|refine Ea ?_ _|refine Ga ?_|refine Da ?_ _));refine Rb ?_ Ll.out _;(with_reducible repeat (first|refine Ea ?_ _|refine Ga ?_|refine Da ?_ _));refine Rb ?_ Ll.out _;(with_reducible repeat (first|refine Ea ?_ _|refine Ga ?_|refine Da ?_ _));refine Rb ?_ Ll.out _;(with_reducible repeat (first|refine Ea ?_ _|refine Ga ?_|refine Da ?_ _));exact ua.out) hb);have lf:=qa.mk (Wa (g:=tf) (o:=.cells #[.slice Pq t113.length Ip,.int .i64 t116,.int .i64 t117,.int .i64 t118,.slice Eu t119.length Ut] 30 (0,0)) (by (with_reducible repeat (first|refine Ea ?_ _|refine Ga ?_|refine Da ?_ _));refine Db (cs:=#[.slice Pq t113.length Ip,.int .i64 t116,.int .i64 t117,.int .i64 t118,.slice none 0 0]) ?_ 4 _ rfl;(with_reducible repeat (first|refine Ea ?_ _|refine Ga ?_|refine Da ?_ _));refine Db (cs:=#[.slice Pq t113.length Ip,.int .i64 t116,.int .i64 t117,.int .i64 0,.slice none 0 0]) ?_ 3 _ rfl;(with_reducible repeat (first|refine Ea ?_ _|refine Ga ?_|refine Da ?_ _));refine Db (cs:=#[.slice Pq t113.length Ip,.int .i64 t116,.int .i64 0,.int .i64 0,.slice none 0 0]) ?_ 2 _ rfl;(with_reducible repeat (first|refine Ea ?_ _|refine Ga ?_|refine Da ?_ _));refine Db (cs:=#[.slice Pq t113.length Ip,.int .i64 0,.int .i64 0,.int .i64 0,.slice none 0 0]) ?_ 1 _ rfl;(with_reducible repeat (first|refine Ea ?_ _|refine Ga ?_|refine Da ?_ _));refine Db (cs:=#[.slice none 0 0,.int .i64 0,.int .i64 0,.int .i64 0,.slice none 0 0]) ?_ 0 _ rfl;(with_reducible repeat (first|refine Ea ?_ _|refine Ga ?_|refine Da ?_ _));exact Ef.out) hb);have Hf:=qa.mk (Pa (by repeat (first|(with_reducible first|exact HB.out|apply ia|apply ja|apply za|refine Aa ?_ Va.out|refine Aa ?_ gy.out)|exact HB.out)) hb);clear wh;clear uh;clear ai;clear Zh;clear ua;clear Ef;clear HB;have wh:=Pb;have uh:=Wb;have ai:=nc;have Zh:=Nc;have ua:=qe;have Ef:=lf;have HB:=Hf;clear Pb Wb nc Nc qe lf Hf;(try clear hb);(try clear hb2);(try clear hk);(try clear hi)))
    have Pb:=qa.mk (Kd.xd wh.out)
    have Wb:=qa.mk (Kd.Jg uh.out)
    have nc:=qa.mk (Kd.xd ai.out)
    have Nc:=qa.mk (Kd.Jg Zh.out)
    have qe:=qa.mk (Ga ua.out)
    have lf:=qa.mk (Ga Ef.out)
    have Hf:=qa.mk (za HB.out)
    clear wh
    clear uh
    clear ai
    clear Zh
    clear ua
    clear Ef
    clear HB
    have wh:=Pb
    have uh:=Wb
    have ai:=nc
    have Zh:=Nc
    have ua:=qe
    have Ef:=lf
    have HB:=Hf
    clear Pb Wb nc Nc qe lf Hf
    refine Pg (n:=5) (S:=fun w'=>w'.cell? ⟨tf,0,none⟩=some (.slice Pq t113.length Ip)∧w'.cell? ⟨tf,1,none⟩=some (.int .i64 t116)∧w'.cell? ⟨tf,2,none⟩=some (.int .i64 t117)∧w'.cell? ⟨tf,3,none⟩=some (.int .i64 t118)∧w'.cell? ⟨tf,4,none⟩=some (.slice Eu t119.length Ut)∧w'.cell? ⟨Fa,0,none⟩=some (.slice Ib Ra.length Gb)∧w'.cell? ⟨Fa,1,none⟩=some (.int .i64 Ja)∧w'.cell? ⟨Fa,2,none⟩=some (.int .i64 Ma)∧w'.cell? ⟨Fa,3,none⟩=some (.int .i64 Oa)∧w'.cell? ⟨Fa,4,none⟩=some (.slice qc Qa.length dc)) (ds:=[]) #[false,false,false,false,false] (by kernel_rfl) rfl rfl ⟨(ga Ef.out 0).trans rfl,(ga Ef.out 1).trans rfl,(ga Ef.out 2).trans rfl,(ga Ef.out 3).trans rfl,(ga Ef.out 4).trans rfl,(ga ua.out 0).trans rfl,(ga ua.out 1).trans rfl,(ga ua.out 2).trans rfl,(ga ua.out 3).trans rfl,(ga ua.out 4).trans rfl⟩ (fun hHeld=>?_)
    generalize gB.drew=w32 at wh uh ai Zh ua Ef HB hHeld ⊢
    refine Jd (i:=0) (N:=some 26) (v:=?_) (a':=?_) #[true,false,false,false,false] rfl rfl (by kernel_rfl) (fun _ _ _ h=>h) (Or.inl ⟨by rfl,?_⟩) hHeld ?_ ?_
    rotate_left
    ·rintro w' ⟨s0,s1,s2,s3,s4,s5,s6,s7,s8,s9⟩
     go_simp
     with_reducible rfl
    rotate_left
    ·simp only [Act.put,List.setIfInBounds_toArray,List.set_cons_zero,List.set_cons_succ,Za,gb]
     rfl
    refine Jd (i:=1) (N:=some 27) (v:=?_) (a':=?_) #[true,true,false,false,false] rfl rfl (by kernel_rfl) (fun _ _ _ h=>h) (Or.inl ⟨by rfl,?_⟩) hHeld ?_ ?_
    rotate_left
    ·rintro w' ⟨s0,s1,s2,s3,s4,s5,s6,s7,s8,s9⟩
     go_simp
     with_reducible rfl
    rotate_left
    ·simp only [Act.put,List.setIfInBounds_toArray,List.set_cons_zero,List.set_cons_succ,Za,gb]
     rfl
    refine gh (i:=2) (N:=some 28) #[true,true,true,false,false] rfl rfl (by kernel_rfl) (by decide) (fun K hK=>?_)
    refine Gn Try.func15 (by kernel_rfl) rfl #[.agg #[.slice Ib Ra.length Gb,.int .i64 Ja,.int .i64 Ma,.int .i64 Oa,.slice qc Qa.length dc]] (by rfl) rfl rfl (by (try simp only [List.map_toArray,List.map_cons,List.map_nil]);first|done|rfl|(simp only [List.length_drop,List.length_take];rfl)) ?_
    with_reducible refine (yd.calls k _ _ Ra Ja Ma Oa _ _ Qa t124 t127 t128 t129 t130 _ ?side1 ?side2 ?side3 ?side4 wR.out).mono ?_
    (case side1=>repeat (first|exact (Kd.Yb Ve.out HB.out)|(with_reducible refine Kd.yc ?_ _)|(with_reducible refine Kd.uc ?_ _)|(with_reducible refine Kd.Sc ?_)))
    (case side2=>exact gf.out)
    (case side3=>repeat (first|exact (Kd.Yb Tf.out HB.out)|(with_reducible refine Kd.yc ?_ _)|(with_reducible refine Kd.uc ?_ _)|(with_reducible refine Kd.Sc ?_)))
    (case side4=>exact Yg.out)
    rintro e sG ⟨rae,qae,rfl,Vo,QB,hb⟩
    refine ⟨_,rfl,?_⟩
    have Pb:=qa.mk (Kd.Dt (by (with_reducible repeat (first|apply Kd.Qc|apply Kd.Pc|apply Kd.xd));exact wh.out) (Kd.Bx Vo) hb)
    have Wb:=qa.mk (Kd.Bt (by (with_reducible repeat (first|apply Kd.ag|apply Kd.Zf|apply Kd.Jg));exact uh.out) (Kd.JC QB) hb)
    have nc:=qa.mk (Kd.Dt (by (with_reducible repeat (first|apply Kd.Qc|apply Kd.Pc|apply Kd.xd));exact ai.out) (Kd.Bx Vo) hb)
    have Nc:=qa.mk (Kd.Bt (by (with_reducible repeat (first|apply Kd.ag|apply Kd.Zf|apply Kd.Jg));exact Zh.out) (Kd.JC QB) hb)
    have qe:=qa.mk (Kd.Xg (Kd.Yz (Kd.Yz Vo (Kd.BN (by (with_reducible repeat (first|apply Kd.Qc|apply Kd.Pc|apply Kd.xd));exact wh.out))) (Kd.BN (by (with_reducible repeat (first|apply Kd.Qc|apply Kd.Pc|apply Kd.xd));exact ai.out))) (Na (by repeat (first|(with_reducible first|exact HB.out|apply ia|apply ja|apply za|refine Aa ?_ Va.out|refine Aa ?_ gy.out)|exact HB.out))))
    have lf:=qa.mk (Kd.yt (Kd.IC (Kd.IC QB (Kd.XQ (by (with_reducible repeat (first|apply Kd.ag|apply Kd.Zf|apply Kd.Jg));exact uh.out))) (Kd.XQ (by (with_reducible repeat (first|apply Kd.ag|apply Kd.Zf|apply Kd.Jg));exact Zh.out))) (Na (by repeat (first|(with_reducible first|exact HB.out|apply ia|apply ja|apply za|refine Aa ?_ Va.out|refine Aa ?_ gy.out)|exact HB.out))))
    have Hf:=qa.mk (Wa (g:=Fa) (o:=.cells #[.slice Ib Ra.length Gb,.int .i64 Ja,.int .i64 Ma,.int .i64 Oa,.slice qc Qa.length dc] 25 (0,0)) (by (with_reducible repeat (first|refine Ea ?_ _|refine Ga ?_|refine Da ?_ _));exact ua.out) hb)
    have lp:=qa.mk (Wa (g:=tf) (o:=.cells #[.slice Pq t113.length Ip,.int .i64 t116,.int .i64 t117,.int .i64 t118,.slice Eu t119.length Ut] 30 (0,0)) (by (with_reducible repeat (first|refine Ea ?_ _|refine Ga ?_|refine Da ?_ _));exact Ef.out) hb)
    have gp:=qa.mk (Pa (by repeat (first|(with_reducible first|exact HB.out|apply ia|apply ja|apply za|refine Aa ?_ Va.out|refine Aa ?_ gy.out)|exact HB.out)) hb)
    clear wh
    clear uh
    clear ai
    clear Zh
    clear ua
    clear Ef
    clear HB
    have wh:=Pb
    have uh:=Wb
    have ai:=nc
    have Zh:=Nc
    have cy:=qe
    have ay:=lf
    have ua:=Hf
    have Ef:=lp
    have HB:=gp
    clear Pb Wb nc Nc qe lf Hf lp gp
    (try clear hb)
    (try clear hb2)
    (try clear hk)
    (try clear hi)
    (try clear Vo)
    (try clear QB)
    obtain ⟨lab,Naa,IW⟩:=Kd.mh cy.out
    (first|subst IW|(injection IW with f1_ f2_ f3_;have wQ:=f1_.symm;have vQ:=f3_.symm;clear f1_ f2_ f3_;subst wQ;subst vQ))
    obtain ⟨kab,Maa,GW⟩:=Kd.zw ay.out
    (first|subst GW|(injection GW with f1_ f2_ f3_;have wQ:=f1_.symm;have vQ:=f3_.symm;clear f1_ f2_ f3_;subst wQ;subst vQ))
    refine hK.out _ _ ⟨(ga Ef.out 0).trans rfl,(ga Ef.out 1).trans rfl,(ga Ef.out 2).trans rfl,(ga Ef.out 3).trans rfl,(ga Ef.out 4).trans rfl,(ga ua.out 0).trans rfl,(ga ua.out 1).trans rfl,(ga ua.out 2).trans rfl,(ga ua.out 3).trans rfl,(ga ua.out 4).trans rfl⟩ (fun hHeld=>?_)
    clear hK K
    refine Xd (a':=?_) ?_ ?_
    rotate_left
    ·show Act.put _ (some 28) _=_
     simp only [Act.put,List.setIfInBounds_toArray,List.set_cons_zero,List.set_cons_succ,Za,gb]
     rfl
    refine gh (i:=3) (N:=some 29) #[true,true,true,true,false] rfl rfl (by kernel_rfl) (by decide) (fun K hK=>?_)
    refine Gn Try.func17 (by kernel_rfl) rfl #[.agg #[.slice Pq t113.length Ip,.int .i64 t116,.int .i64 t117,.int .i64 t118,.slice Eu t119.length Ut],.agg #[.slice lab t124.length Naa,.int .i64 t127,.int .i64 t128,.int .i64 t129,.slice kab t130.length Maa]] (by rfl) rfl rfl (by (try simp only [List.map_toArray,List.map_cons,List.map_nil]);first|done|rfl|(simp only [List.length_drop,List.length_take];rfl)) ?_
    with_reducible refine (xe.calls k _ _ t113 t116 t117 t118 _ _ t119 _ _ t124 t127 t128 t129 _ _ t130 true _ ?side1 ?side2 ?side3 ?side4 ?side5 ?side6 ?side7 ?side8 A14.out).mono ?_
    (case side1=>repeat (first|exact (Kd.ee ai.out).2.2|(with_reducible refine Kd.yc ?_ _)|(with_reducible refine Kd.uc ?_ _)|(with_reducible refine Kd.Sc ?_)))
    (case side2=>exact (Kd.ee ai.out).2.1)
    (case side3=>repeat (first|exact (Kd.Ai Zh.out).2.2|(with_reducible refine Kd.yc ?_ _)|(with_reducible refine Kd.uc ?_ _)|(with_reducible refine Kd.Sc ?_)))
    (case side4=>exact (Kd.Ai Zh.out).2.1)
    (case side5=>repeat (first|exact (Kd.ee cy.out).2.2|(with_reducible refine Kd.yc ?_ _)|(with_reducible refine Kd.uc ?_ _)|(with_reducible refine Kd.Sc ?_)))
    (case side6=>exact (Kd.ee cy.out).2.1)
    (case side7=>repeat (first|exact (Kd.Ai ay.out).2.2|(with_reducible refine Kd.yc ?_ _)|(with_reducible refine Kd.uc ?_ _)|(with_reducible refine Kd.Sc ?_)))
    (case side8=>exact (Kd.Ai ay.out).2.1)
    rintro e fB ⟨rfl,hb⟩
    refine ⟨_,rfl,?_⟩
    have Pb:=qa.mk (Kd.Ge (by (with_reducible repeat (first|apply Kd.Qc|apply Kd.Pc|apply Kd.xd));exact wh.out) hb)
    have Wb:=qa.mk (Kd.Qj (by (with_reducible repeat (first|apply Kd.ag|apply Kd.Zf|apply Kd.Jg));exact uh.out) hb)
    have nc:=qa.mk (Kd.Ge (by (with_reducible repeat (first|apply Kd.Qc|apply Kd.Pc|apply Kd.xd));exact ai.out) hb)
    have Nc:=qa.mk (Kd.Qj (by (with_reducible repeat (first|apply Kd.ag|apply Kd.Zf|apply Kd.Jg));exact Zh.out) hb)
    have qe:=qa.mk (Kd.Ge (by (with_reducible repeat (first|apply Kd.Qc|apply Kd.Pc|apply Kd.xd));exact cy.out) hb)
    have lf:=qa.mk (Kd.Qj (by (with_reducible repeat (first|apply Kd.ag|apply Kd.Zf|apply Kd.Jg));exact ay.out) hb)
    have Hf:=qa.mk (Wa (g:=Fa) (o:=.cells #[.slice Ib Ra.length Gb,.int .i64 Ja,.int .i64 Ma,.int .i64 Oa,.slice qc Qa.length dc] 25 (0,0)) (by (with_reducible repeat (first|refine Ea ?_ _|refine Ga ?_|refine Da ?_ _));exact ua.out) hb)
    have lp:=qa.mk (Wa (g:=tf) (o:=.cells #[.slice Pq t113.length Ip,.int .i64 t116,.int .i64 t117,.int .i64 t118,.slice Eu t119.length Ut] 30 (0,0)) (by (with_reducible repeat (first|refine Ea ?_ _|refine Ga ?_|refine Da ?_ _));exact Ef.out) hb)
    have gp:=qa.mk (Pa (by repeat (first|(with_reducible first|exact HB.out|apply ia|apply ja|apply za|refine Aa ?_ Va.out|refine Aa ?_ gy.out)|exact HB.out)) hb)
    clear wh
    clear uh
    clear ai
    clear Zh
    clear cy
    clear ay
    clear ua
    clear Ef
    clear HB
    have wh:=Pb
    have uh:=Wb
    have ai:=nc
    have Zh:=Nc
    have cy:=qe
    have ay:=lf
    have ua:=Hf
    have Ef:=lp
    have HB:=gp
    clear Pb Wb nc Nc qe lf Hf lp gp
    (try clear hb)
    (try clear hb2)
    (try clear hk)
    (try clear hi)
    refine hK.out _ _ ⟨(ga Ef.out 0).trans rfl,(ga Ef.out 1).trans rfl,(ga Ef.out 2).trans rfl,(ga Ef.out 3).trans rfl,(ga Ef.out 4).trans rfl,(ga ua.out 0).trans rfl,(ga ua.out 1).trans rfl,(ga ua.out 2).trans rfl,(ga ua.out 3).trans rfl,(ga ua.out 4).trans rfl⟩ (fun hHeld=>?_)
    clear hK K
    refine Xd (a':=?_) ?_ ?_
    rotate_left
    ·show Act.put _ (some 29) _=_
     simp only [Act.put,List.setIfInBounds_toArray,List.set_cons_zero,List.set_cons_succ,Za,gb]
     rfl
    refine Nb (i:=4) (N:=some 30) (v:=?_) (a':=?_) #[true,true,true,true,true] rfl rfl (by kernel_rfl) (fun _ _ _ h=>h) (Or.inl ⟨by rfl,?_⟩) ?_ ?_
    rotate_left
    ·intro w'
     go_simp
     with_reducible rfl
    rotate_left
    ·simp only [Act.put,List.setIfInBounds_toArray,List.set_cons_zero,List.set_cons_succ,Za,gb]
     rfl
    refine Yh (by kernel_rfl) ?_
    try go_wp2
    go_ret
    exact ⟨by first|rfl|(simp [La,Ka] <;> rfl)|(simp [*,La,Ka] <;> rfl),by repeat (first|(with_reducible first|exact HB.out|apply ia|apply ja|apply za|refine Aa ?_ Va.out|refine Aa ?_ gy.out)|exact HB.out)⟩
   ·replace c15:=Bool.eq_false_iff.mpr c15
    subst c15
    have H1:(none)=some r:=by rw [if_neg (show ¬ (false=true) by decide)] at H;exact H
    clear H
    have H:=H1
    clear H1
    exact absurd H (by simp)
  ·rw [if_neg c12] at H
   exact absurd H (by simp)
end Go.Proofs.Ytmifdccaajngcaa.P
end
section
namespace Go.Proofs.Ytmifdccaajngcaa.P
open Go.RowKit Go.Proofs.Ca.xb Go.Proofs.Ca.Xb Go.Proofs.Ca.ic
set_option linter.unusedVariables false
set_option linter.unusedSimpArgs false
theorem Ev.pos {α:Type} {c:Prop} [Decidable c] {f g:Nat→Option α} {r:α} (h:c) (k:Ev f r):Ev (fun n=>if c then f n else g n) r:=Ev.congr (fun n=>if_pos h) k
theorem Ev.neg {α:Type} {c:Prop} [Decidable c] {f g:Nat→Option α} {r:α} (h:¬ c) (k:Ev g r):Ev (fun n=>if c then f n else g n) r:=Ev.congr (fun n=>if_neg h) k
theorem Ev.val {α β:Type} {a:α} {f:Nat→α→Option β} {r:β} (k:Ev (fun n=>f n a) r):Ev (fun n=>(some a).bind (f n)) r:=Ev.congr (fun n=>rfl) k
theorem Ev.here {α:Type} {o:Option α} {r:α} (h:o=some r):Ev (fun _=>o) r:=Ev.congr (fun n=>h) (Ev.now r)
theorem Rg {x:Int} (h:-9223372036854775808 ≤ x) (h':x ≤ 9223372036854775807):wrap64 x=x:=by
 unfold wrap64
 omega
theorem dg {i n:Nat} (h:i < n) (hn:n ≤ 9223372036854775807):wrap64 ((i:Int) + 1)=((i + 1:Nat):Int):=by
 rw [Rg (by omega) (by omega)]
 omega
theorem Mj {ρ:Type} {n:Nat} {r:ρ} (P:Nat→Prop) (hend:P n) (hstep:∀ i,i < n→P (i + 1)→P i):∀ i,i ≤ n→P i:=by
 have key:∀ d i,i + d=n→P i:=by
  intro d
  induction d with
  | zero =>
   intro i hi
   have:i=n:=by omega
   exact this ▸ hend
  | succ d ih =>
   intro i hi
   exact hstep i (by omega) (ih (i + 1) (by omega))
 intro i hi
 exact key (n - i) i (by omega)
theorem ax {α:Type} {m:List α} {z:α} {i:Nat} (h:i < m.length):(m.take i ++ List.replicate (m.length - i) z).set i (m.getD i z)=m.take (i + 1) ++ List.replicate (m.length - (i + 1)) z:=by
 rw [List.set_append_right _ _ (by rw [List.length_take];omega),List.length_take,Nat.min_eq_left (by omega),Nat.sub_self]
 rw [show m.length - i=(m.length - (i + 1)) + 1 from by omega,List.replicate_succ,List.set_cons_zero,List.take_succ_eq_append_getElem h,List.append_assoc]
 simp [List.getD_eq_getElem?_getD,List.getElem?_eq_getElem h]
theorem Xx {α:Type} {m:List α} {z:α}:m.take 0 ++ List.replicate (m.length - 0) z=List.replicate m.length z:=by simp
theorem cx {α:Type} {m:List α} {z:α}:m.take m.length ++ List.replicate (m.length - m.length) z=m:=by simp
theorem lP (l:List Int) (i:Nat):rd l (i:Int)=l.getD i 0:=rfl
theorem yA (a b c:Int):sg.f a b c=some (qi a b c):=by
 unfold sg.f qi
 by_cases h:a ≥ b
 ·rw [if_pos h]
  have h':b ≤ a:=h
  simp [h']
 ·rw [if_neg h]
  have h':¬ b ≤ a:=h
  simp [h']
end Go.Proofs.Ytmifdccaajngcaa.P
end
section
namespace Go.Proofs.Ytmifdccaajngcaa.P
open Go.RowKit Go.Proofs.Ca.xb Go.Proofs.Ca.Xb Go.Proofs.Ca.ic
set_option linter.unusedVariables false
set_option linter.unusedSimpArgs false
theorem QG (l:List Int) (hl:l.length ≤ 35184372088832):Ev (fun k=>ud.f k l) l:=by
 refine Ev.congr (f:=fun k=>ud.l0 k l (List.replicate l.length 0) 0) (fun k=>?_) ?_
 ·unfold ud.f
  rw [if_pos (by omega),if_pos (by omega)]
  rfl
 ·have key:=Mj (r:=l) (n:=l.length) (fun i=>Ev (fun k=>ud.l0 k l (l.take i ++ List.replicate (l.length - i) 0) (i:Int)) l) ?_ ?_ 0 (by omega)
  ·simpa using key
  ·refine Ev.step (fun k=>by rw [ud.l0]) ?_
   refine Ev.neg (by omega) ?_
   rw [cx]
   exact Ev.now l
  ·intro i hi h
   refine Ev.step (fun k=>by rw [ud.l0]) ?_
   refine Ev.pos (by omega) (Ev.pos (by omega) (Ev.pos (by simp;omega) ?_))
   rw [dg hi (by omega),lP,Int.toNat_natCast,ax hi]
   exact h
theorem SG (l:List Int) (hl:l.length ≤ 9223372036854775807):Ev (fun k=>Uc.f k l l) true:=by
 refine Ev.congr (f:=fun k=>Uc.l0 k l l 0) (fun k=>?_) ?_
 ·unfold Uc.f
  rw [if_pos rfl]
 ·refine Mj (r:=true) (n:=l.length) (fun i=>Ev (fun k=>Uc.l0 k l l (i:Int)) true) ?_ ?_ 0 (by omega)
  ·refine Ev.step (fun k=>by rw [Uc.l0]) ?_
   exact Ev.neg (by omega) (Ev.now _)
  ·intro i hi h
   refine Ev.step (fun k=>by rw [Uc.l0]) ?_
   refine Ev.pos (by omega) (Ev.pos (by omega) (Ev.pos (by omega) (Ev.pos rfl ?_)))
   rw [dg hi hl]
   exact h
end Go.Proofs.Ytmifdccaajngcaa.P
end
section
namespace Go.Proofs.Ytmifdccaajngcaa.P
open Go.RowKit Go.Proofs.Ca.xb Go.Proofs.Ca.Xb Go.Proofs.Ca.ic
set_option linter.unusedVariables false
set_option linter.unusedSimpArgs false
theorem ZJ (l:List Int) (a:Int) (ha:0 ≤ a) (ha':a ≤ 1048576) (hl:l.length ≤ 9223372036854775807):∃ t,Tg.f l a=some t∧t ≤ a∧(0 ≤ t→t + l.length=a):=by
 unfold Tg.f
 rw [Rg (by omega) (by omega)]
 split
 ·exact ⟨-1,rfl,by omega,by omega⟩
 ·exact ⟨_,rfl,by omega,by omega⟩
end Go.Proofs.Ytmifdccaajngcaa.P
end
section
namespace Go.Proofs.Ytmifdccaajngcaa.P
open Go.RowKit Go.Proofs.Ca.xb Go.Proofs.Ca.Xb Go.Proofs.Ca.ic
set_option linter.unusedVariables false
set_option linter.unusedSimpArgs false
def Yj (x:Dk):Jh:=⟨x.f0,x.f1,x.f2,x.f3,x.f4,x.f5,x.f6⟩
theorem MA (l:List Dk) (hl:l.length ≤ 4398046511104):Ev (fun k=>Gc.f k l) (l.map Yj):=by
 refine Ev.congr (f:=fun k=>Gc.l0 k l (List.replicate l.length eA) 0) (fun k=>?_) ?_
 ·unfold Gc.f
  rw [if_pos (by omega),if_pos (by omega)]
  rfl
 ·have key:=Mj (r:=l.map Yj) (n:=l.length) (fun i=>Ev (fun k=>Gc.l0 k l ((l.map Yj).take i ++ List.replicate ((l.map Yj).length - i) eA) (i:Int)) (l.map Yj)) ?_ ?_ 0 (by omega)
  ·rw [Xx,List.length_map] at key
   exact key
  ·refine Ev.step (fun k=>by rw [Gc.l0]) ?_
   refine Ev.neg (by omega) ?_
   have e:=cx (m:=l.map Yj) (z:=eA)
   rw [List.length_map] at e
   rw [List.length_map,e]
   exact Ev.now _
  ·intro i hi h
   refine Ev.step (fun k=>by rw [Gc.l0]) ?_
   refine Ev.pos (by omega) (Ev.pos (by omega) ?_)
   unfold cj.f
   refine Ev.val (Ev.pos (by simp;omega) ?_)
   have hc:Yj (Rc l (i:Int))=(l.map Yj).getD i eA:=by
    simp [Rc,List.getD_eq_getElem?_getD,hi]
   have hf:=ax (m:=l.map Yj) (z:=eA) (i:=i) (by rw [List.length_map];exact hi)
   rw [← hc] at hf
   rw [dg hi (by omega),Int.toNat_natCast]
   have e:=hf ▸ h
   exact e
theorem SA (l:List Jh) (hl:l.length ≤ 9223372036854775807):Ev (fun k=>Ob.f k l l) true:=by
 refine Ev.congr (f:=fun k=>Ob.l0 k l l 0) (fun k=>?_) ?_
 ·unfold Ob.f
  rw [if_pos rfl]
 ·refine Mj (r:=true) (n:=l.length) (fun i=>Ev (fun k=>Ob.l0 k l l (i:Int)) true) ?_ ?_ 0 (by omega)
  ·refine Ev.step (fun k=>by rw [Ob.l0]) ?_
   exact Ev.neg (by omega) (Ev.now _)
  ·intro i hi h
   refine Ev.step (fun k=>by rw [Ob.l0]) ?_
   refine Ev.pos (by omega) (Ev.pos (by omega) (Ev.pos (by omega) ?_))
   unfold Rh.f
   simp only [if_true]
   refine Ev.val (Ev.pos rfl ?_)
   rw [dg hi hl]
   exact h
end Go.Proofs.Ytmifdccaajngcaa.P
end
section
namespace Go.Proofs.Ytmifdccaajngcaa.P
open Go.RowKit Go.Proofs.Ca.xb Go.Proofs.Ca.Xb Go.Proofs.Ca.ic
set_option linter.unusedVariables false
set_option linter.unusedSimpArgs false
def Mt (l:List Dk):Nat:=(l.map fun x=>x.f6.size).sum
def uG (l:List Dk):Nat:=l.length + Mt l
def gP (l:List Xi):Nat:=l.length + (l.map fun x=>uG x.f0).sum
theorem Uq {l:List Dk} {i:Nat} (h:i < l.length):Rc l (i:Int)=l[i]:=by simp [Rc,List.getD_eq_getElem?_getD,h]
theorem kn {l:List Xi} {i:Nat} (h:i < l.length):Qd l (i:Int)=l[i]:=by simp [Qd,List.getD_eq_getElem?_getD,h]
theorem OA (l:List Dk) (a:Int) (ha:0 ≤ a) (ha':a ≤ 1048576) (hl:l.length ≤ 9223372036854775807) (ht:∀ x ∈ l,x.f6.size ≤ 9223372036854775807) :
  ∃ t,Ev (fun k=>Lc.f k l a) t∧t ≤ a∧(0 ≤ t→t + uG l=a):=by
 have key:=Mj (ρ:=Unit) (r:=()) (n:=l.length) (fun i=>∀ a:Int,0 ≤ a→a ≤ 1048576→∃ t,Ev (fun k=>Lc.l0 k l a (i:Int)) t∧t ≤ a∧(0 ≤ t→t + Mt (l.drop i)=a)) ?_ ?_ 0 (by omega)
 ·unfold Lc.f
  rw [Rg (by omega) (by omega)]
  by_cases h:a - (l.length:Int) < 0
  ·exact ⟨-1,Ev.pos h (Ev.now _),by omega,by omega⟩
  ·obtain ⟨t,e1,e2,e3⟩:=key (a - l.length) (by omega) (by omega)
   refine ⟨t,Ev.neg h e1,by omega,fun h0=>?_⟩
   have:=e3 h0
   rw [List.drop_zero] at this
   unfold uG
   omega
 ·intro a h0 h1
  refine ⟨a,?_,by omega,?_⟩
  ·refine Ev.step (fun k=>by rw [Lc.l0]) ?_
   exact Ev.neg (by omega) (Ev.now _)
  ·intro _
   rw [List.drop_length]
   simp [Mt]
 ·intro i hi ih a h0 h1
  have hx:=ht l[i] (List.getElem_mem hi)
  have hd:Mt (l.drop i)=l[i].f6.size + Mt (l.drop (i + 1)):=by
   rw [List.drop_eq_getElem_cons hi]
   simp only [Mt,List.map_cons,List.sum_cons]
  by_cases h:a - (l[i].f6.size:Int) < 0
  ·refine ⟨-1,?_,by omega,by omega⟩
   refine Ev.step (fun k=>by rw [Lc.l0]) ?_
   refine Ev.pos (by omega) (Ev.pos (by omega) ?_)
   rw [Uq hi]
   unfold zh.f
   rw [Rg (by omega) (by omega),if_pos h]
   exact Ev.val (Ev.pos (by decide) (Ev.now _))
  ·obtain ⟨t,e1,e2,e3⟩:=ih (a - l[i].f6.size) (by omega) (by omega)
   refine ⟨t,?_,by omega,fun hh=>by have:=e3 hh;omega⟩
   refine Ev.step (fun k=>by rw [Lc.l0]) ?_
   refine Ev.pos (by omega) (Ev.pos (by omega) ?_)
   rw [Uq hi]
   unfold zh.f
   rw [Rg (by omega) (by omega),if_neg h]
   refine Ev.val (Ev.neg (by omega) ?_)
   rw [dg hi hl]
   exact e1
theorem PA (l:List Xi) (a:Int) (ha:0 ≤ a) (ha':a ≤ 1048576) (hl:l.length ≤ 9223372036854775807) (ht:∀ x ∈ l,x.f0.length ≤ 9223372036854775807∧∀ y ∈ x.f0,y.f6.size ≤ 9223372036854775807) :
  ∃ t,Ev (fun k=>Ic.f k l a) t∧t ≤ a∧(0 ≤ t→t + gP l=a):=by
 have key:=Mj (ρ:=Unit) (r:=()) (n:=l.length) (fun i=>∀ a:Int,0 ≤ a→a ≤ 1048576→∃ t,Ev (fun k=>Ic.l0 k l a (i:Int)) t∧t ≤ a∧(0 ≤ t→t + ((l.drop i).map fun x=>uG x.f0).sum=a)) ?_ ?_ 0 (by omega)
 ·unfold Ic.f
  rw [Rg (by omega) (by omega)]
  by_cases h:a - (l.length:Int) < 0
  ·exact ⟨-1,Ev.pos h (Ev.now _),by omega,by omega⟩
  ·obtain ⟨t,e1,e2,e3⟩:=key (a - l.length) (by omega) (by omega)
   refine ⟨t,Ev.neg h e1,by omega,fun h0=>?_⟩
   have:=e3 h0
   rw [List.drop_zero] at this
   unfold gP
   omega
 ·intro a h0 h1
  refine ⟨a,?_,by omega,?_⟩
  ·refine Ev.step (fun k=>by rw [Ic.l0]) ?_
   exact Ev.neg (by omega) (Ev.now _)
  ·intro _
   rw [List.drop_length]
   simp
 ·intro i hi ih a h0 h1
  have hx:=ht l[i] (List.getElem_mem hi)
  have hd:((l.drop i).map fun x=>uG x.f0).sum=uG l[i].f0 + ((l.drop (i + 1)).map fun x=>uG x.f0).sum:=by
   rw [List.drop_eq_getElem_cons hi]
   simp only [List.map_cons,List.sum_cons]
  obtain ⟨u,f1,f2,f3⟩:=OA l[i].f0 a h0 h1 hx.1 hx.2
  by_cases h:u < 0
  ·refine ⟨-1,?_,by omega,by omega⟩
   refine Ev.step (fun k=>by rw [Ic.l0]) ?_
   refine Ev.pos (by omega) (Ev.pos (by omega) ?_)
   rw [kn hi]
   unfold Qe.f
   refine Ev.bind (Ev.bind f1 (Ev.pos h (Ev.now _))) ?_
   exact Ev.pos (by decide) (Ev.now _)
  ·obtain ⟨t,e1,e2,e3⟩:=ih u (by omega) (by omega)
   have:=f3 (by omega)
   refine ⟨t,?_,by omega,fun hh=>by have:=e3 hh;omega⟩
   refine Ev.step (fun k=>by rw [Ic.l0]) ?_
   refine Ev.pos (by omega) (Ev.pos (by omega) ?_)
   rw [kn hi]
   unfold Qe.f
   refine Ev.bind (Ev.bind f1 (Ev.neg h (Ev.now _))) ?_
   refine Ev.neg (by omega) ?_
   rw [dg hi hl]
   exact e1
theorem Nw {l:List Nat} {n:Nat} (h:n ∈ l):n ≤ l.sum:=by
 induction l with
 | nil=>cases h
 | cons a l ih =>
  rw [List.sum_cons]
  cases h with
  | head=>omega
  | tail _ h=>have:=ih h;omega
theorem mA {l:List Xi} {n:Nat} (h:gP l ≤ n):l.length ≤ n∧∀ x ∈ l,x.f0.length ≤ n:=by
 unfold gP at h
 refine ⟨by omega,fun x hx=>?_⟩
 have:uG x.f0 ≤ (l.map fun x=>uG x.f0).sum:=Nw (List.mem_map.mpr ⟨x,hx,rfl⟩)
 unfold uG at this h
 omega
theorem mC (x0:List Int) (x1 x2 x3:Int) (x4:List Xi) (a:Int) (ha:0 ≤ a) (ha':a ≤ 1048576) (h0:x0.length ≤ 9223372036854775807) (hl:x4.length ≤ 9223372036854775807) (ht:∀ x ∈ x4,x.f0.length ≤ 9223372036854775807∧∀ y ∈ x.f0,y.f6.size ≤ 9223372036854775807) :
  ∃ t,Ev (fun k=>af.f k x0 x1 x2 x3 x4 a) t∧t ≤ a∧(0 ≤ t→t + x0.length + gP x4=a):=by
 obtain ⟨t,e1,e2,e3⟩:=ZJ x0 a ha ha' h0
 unfold af.f
 rw [e1]
 simp only [Option.bind_some]
 by_cases ht':t < 0
 ·exact ⟨-1,Ev.pos ht' (Ev.now _),by omega,by omega⟩
 ·obtain ⟨u,f1,f2,f3⟩:=PA x4 t (by omega) (by omega) hl ht
  by_cases hu:u < 0
  ·exact ⟨-1,Ev.neg ht' (Ev.bind f1 (Ev.pos hu (Ev.now _))),by omega,by omega⟩
  ·exact ⟨u,Ev.neg ht' (Ev.bind f1 (Ev.neg hu (Ev.now _))),by omega,fun _=>by have:=e3 (by omega);have:=f3 (by omega);omega⟩
def Sg (x:Xi):Eh:=⟨x.f0.map Yj,x.f1,x.f2,x.f3,x.f4⟩
theorem NA (l:List Xi) (hl:l.length ≤ 1048576) (hb:∀ x ∈ l,x.f0.length ≤ 1048576):Ev (fun k=>Dc.f k l) (l.map Sg):=by
 refine Ev.congr (f:=fun k=>Dc.l0 k l (List.replicate l.length eB) 0) (fun k=>?_) ?_
 ·unfold Dc.f
  rw [if_pos (by omega),if_pos (by omega)]
  rfl
 ·have key:=Mj (r:=l.map Sg) (n:=l.length) (fun i=>Ev (fun k=>Dc.l0 k l ((l.map Sg).take i ++ List.replicate ((l.map Sg).length - i) eB) (i:Int)) (l.map Sg)) ?_ ?_ 0 (by omega)
  ·rw [Xx,List.length_map] at key
   exact key
  ·refine Ev.step (fun k=>by rw [Dc.l0]) ?_
   refine Ev.neg (by omega) ?_
   have e:=cx (m:=l.map Sg) (z:=eB)
   rw [List.length_map] at e
   rw [List.length_map,e]
   exact Ev.now _
  ·intro i hi h
   refine Ev.step (fun k=>by rw [Dc.l0]) ?_
   refine Ev.pos (by omega) (Ev.pos (by omega) ?_)
   unfold yf.f
   have hx:=hb l[i] (List.getElem_mem hi)
   rw [kn hi]
   refine Ev.bind (Ev.bind (MA l[i].f0 (by omega)) (Ev.now _)) ?_
   refine Ev.pos (by simp;omega) ?_
   have hc:Sg l[i]=(l.map Sg).getD i eB:=by
    simp [List.getD_eq_getElem?_getD,hi]
   have hf:=ax (m:=l.map Sg) (z:=eB) (i:=i) (by rw [List.length_map];exact hi)
   rw [← hc] at hf
   rw [dg hi (by omega),Int.toNat_natCast]
   have e:=hf ▸ h
   exact e
theorem Zj {l:List Eh} {i:Nat} (h:i < l.length):mb l (i:Int)=l[i]:=by simp [mb,List.getD_eq_getElem?_getD,h]
theorem Jx {l:List Jh} {i:Nat} (h:i < l.length):zb l (i:Int)=l[i]:=by simp [zb,List.getD_eq_getElem?_getD,h]
theorem TA (l:List Eh) (hl:l.length ≤ 9223372036854775807) (hb:∀ x ∈ l,x.f0.length ≤ 9223372036854775807):Ev (fun k=>Tb.f k l l) true:=by
 refine Ev.congr (f:=fun k=>Tb.l0 k l l 0) (fun k=>?_) ?_
 ·unfold Tb.f
  rw [if_pos rfl]
 ·refine Mj (r:=true) (n:=l.length) (fun i=>Ev (fun k=>Tb.l0 k l l (i:Int)) true) ?_ ?_ 0 (by omega)
  ·refine Ev.step (fun k=>by rw [Tb.l0]) ?_
   exact Ev.neg (by omega) (Ev.now _)
  ·intro i hi h
   refine Ev.step (fun k=>by rw [Tb.l0]) ?_
   refine Ev.pos (by omega) (Ev.pos (by omega) (Ev.pos (by omega) ?_))
   unfold bf.f
   rw [Zj hi]
   refine Ev.bind (Ev.bind (SA l[i].f0 (hb _ (List.getElem_mem hi))) (Ev.pos rfl (Ev.pos rfl (Ev.pos rfl (Ev.pos rfl (Ev.pos rfl (Ev.now _))))))) (Ev.pos rfl ?_)
   rw [dg hi hl]
   exact h
theorem lC (x0:List Int) (x1 x2 x3:Int) (x4:List Xi) (h0:x0.length ≤ 1048576) (hl:x4.length ≤ 1048576) (hb:∀ x ∈ x4,x.f0.length ≤ 1048576):Ev (fun k=>yd.f k x0 x1 x2 x3 x4) (x0,x1,x2,x3,x4.map Sg):=by
 unfold yd.f
 exact Ev.bind (QG x0 (by omega)) (Ev.bind (NA x4 hl hb) (Ev.now _))
theorem qC (x0:List Int) (x1 x2 x3:Int) (x4:List Eh) (h0:x0.length ≤ 9223372036854775807) (hl:x4.length ≤ 9223372036854775807) (hb:∀ x ∈ x4,x.f0.length ≤ 9223372036854775807):Ev (fun k=>xe.f k x0 x1 x2 x3 x4 x0 x1 x2 x3 x4) true:=by
 unfold xe.f
 refine Ev.bind (SG x0 h0) ?_
 refine Ev.pos rfl (Ev.pos rfl (Ev.pos rfl (Ev.pos rfl ?_)))
 exact Ev.bind (TA x4 hl hb) (Ev.pos rfl (Ev.now _))
end Go.Proofs.Ytmifdccaajngcaa.P
end
section
namespace Go.Proofs.Ytmifdccaajngcaa.P
open Go.RowKit Go.Proofs.Ca.xb Go.Proofs.Ca.Xb Go.Proofs.Ca.ic
set_option linter.unusedVariables false
set_option linter.unusedSimpArgs false
open Classical in
noncomputable def Du (n:Nat) (p:Nat→Prop):Bool:=decide (∀ j,j < n→p j)
open Classical in
theorem XG {n:Nat} {p:Nat→Prop} (h:∀ j,j < n→p j):Du n p=true:=by
 unfold Du
 exact decide_eq_true h
open Classical in
theorem ZA {n:Nat} {p:Nat→Prop}:Du n p=true ↔ ∀ j,j < n→p j:=by
 unfold Du
 exact decide_eq_true_iff
theorem FC {n i:Nat} {p:Nat→Prop} (hi:i < n) (h:¬ p i):Du n p=false:=by
 cases e:Du n p with
 | false=>rfl
 | true=>exact absurd (ZA.mp e i hi) h
theorem sC {ρ:Type} {n:Nat} {R e:ρ} (p:Nat→Prop) (f:Nat→Nat→Option ρ) (hend:Ev (f n) R) (hyes:∀ i,i < n→p i→∀ r,Ev (f (i + 1)) r→Ev (f i) r) (hno:∀ i,i < n→¬ p i→Ev (f i) e):Ev (f 0) (bif Du n p then R else e):=by
 have key:∀ d i,i + d=n→(∀ j,j < i→p j)→Ev (f i) (bif Du n p then R else e):=by
  intro d
  induction d with
  | zero =>
   intro i hi h
   have:i=n:=by omega
   subst this
   rw [XG h]
   exact hend
  | succ d ih =>
   intro i hi h
   by_cases hp:p i
   ·refine hyes i (by omega) hp _ (ih (i + 1) (by omega) ?_)
    intro j hj
    by_cases hji:j=i
    ·rw [hji];exact hp
    ·exact h j (by omega)
   ·rw [FC (by omega) hp]
    exact hno i (by omega) hp
 exact key n 0 (by omega) (fun j hj=>absurd hj (by omega))
theorem Zt {α:Type} (l:List α) (z:α) (q:α→Bool):Du l.length (fun j=>q (l.getD j z)=true) = !(l.any fun x=>!q x):=by
 rw [Bool.eq_iff_iff,ZA]
 simp only [Bool.not_eq_true',List.any_eq_false,Bool.not_eq_true',Bool.not_eq_false]
 constructor
 ·intro h x hx
  obtain ⟨j,hj,rfl⟩:=List.mem_iff_getElem.mp hx
  have:=h j hj
  rw [List.getD_eq_getElem?_getD,List.getElem?_eq_getElem hj] at this
  simpa using this
 ·intro h j hj
  have:=h l[j] (List.getElem_mem hj)
  rw [List.getD_eq_getElem?_getD,List.getElem?_eq_getElem hj]
  simpa using this
end Go.Proofs.Ytmifdccaajngcaa.P
end
section
namespace Go.Proofs.Ytmifdccaajngcaa.P
open Go.RowKit Go.Proofs.Ca.xb Go.Proofs.Ca.Xb Go.Proofs.Ca.ic
set_option linter.unusedVariables false
set_option linter.unusedSimpArgs false
theorem OH (a b c:Int):jb.f a b c=some (qi a b c):=by
 unfold jb.f qi
 by_cases h:a ≥ b
 ·rw [if_pos h]
  have h':b ≤ a:=h
  simp [h']
 ·rw [if_neg h]
  have h':¬ b ≤ a:=h
  simp [h']
end Go.Proofs.Ytmifdccaajngcaa.P
end
section
namespace Go.Proofs.Ytmifdccaajngcaa.P
open Go.RowKit Go.Proofs.Ca.xb Go.Proofs.Ca.Xb Go.Proofs.Ca.ic
set_option linter.unusedVariables false
set_option linter.unusedSimpArgs false
theorem Ye (a b c:Int):Ev (fun _=>jb.f a b c) (qi a b c):=Ev.here (OH a b c)
theorem xQ (t:ByteArray):Ev (fun k=>Tc.f k ([(⟨#[61,61]⟩:ByteArray),(⟨#[60]⟩:ByteArray),(⟨#[38]⟩:ByteArray),(⟨#[43]⟩:ByteArray),(⟨#[45]⟩:ByteArray),(⟨#[42]⟩:ByteArray)]:List ByteArray) t) (Ar t):=by
 refine ⟨8,fun k hk=>?_⟩
 obtain ⟨m,rfl⟩:∃ m,k=m + 8:=⟨k - 8,by omega⟩
 unfold Tc.f Ar vB
 simp only [Tc.l0,List.any_cons,List.any_nil]
 by_cases h0:t.toList=[61,61]
 ·simp [Vi,h0]
 by_cases h1:t.toList=[60]
 ·simp [Vi,h1,wrap64]
 by_cases h2:t.toList=[38]
 ·simp [Vi,h2,wrap64]
 by_cases h3:t.toList=[43]
 ·simp [Vi,h3,wrap64]
 by_cases h4:t.toList=[45]
 ·simp [Vi,h4,wrap64]
 by_cases h5:t.toList=[42]
 ·simp [Vi,h5,wrap64]
 simp [Vi,Ne.symm h0,Ne.symm h1,Ne.symm h2,Ne.symm h3,Ne.symm h4,Ne.symm h5,h0,h1,h2,h3,h4,h5,wrap64]
theorem JB (s d:Int):qi d 0 (s - 1)=Sh s d:=by
 unfold qi Sh
 rw [Bool.eq_iff_iff]
 simp
 omega
def Cy (D A B C M:Bool) (o d a b n:Int) (t:ByteArray):Bool :=
 if o=0 then D && (a == 0 && b == 0)
 else if o=1 then D && (A && (b == 0 && n == 0))
 else if o=2 then D && (A && (B && (n == 0 && Ar t)))
 else if o=3 then D && M
 else if o=4 then d == 0 && (M && C)
 else if o=5 then D && (a == 0 && (b == 0 && n == 0))
 else if o=6 then d == 0 && (A && (b == 0 && n == 0))
 else false
theorem Ev.and {b:Bool} {f:Nat→Option Bool} {r:Bool} (hf:b=true→Ev f r):Ev (fun n=>if b=true then f n else some false) (b && r):=by
 cases b with
 | true=>exact Ev.pos rfl (hf rfl)
 | false=>exact Ev.neg (by simp) (Ev.now _)
theorem Ev.Px {c:Prop} [Decidable c] {f:Nat→Option Bool} {r:Bool} (hf:c→Ev f r):Ev (fun n=>if c then f n else some false) (decide c && r):=by
 by_cases h:c
 ·rw [decide_eq_true h]
  exact Ev.pos h (hf h)
 ·rw [decide_eq_false h]
  exact Ev.neg h (Ev.now _)
section
variable {l0:List Int} {p v s:Int} {l4:List Eh} {o d a b c n:Int} {t:ByteArray}
theorem RA (D A B M:Bool) (x:Bool) (hs:0 ≤ s) (hs':s ≤ 1000):Ev (fun k=>Xa.j1 k D A B M x l0 p v s l4 o d a b c n t) (!x && Cy D A B (Sh s c) M o d a b n t):=by
 refine Ev.step (fun k=>by rw [Xa.j1]) ?_
 cases x with
 | true=>exact Ev.pos rfl (Ev.now _)
 | false =>
  refine Ev.neg (by simp) ?_
  rw [Bool.not_false,Bool.true_and]
  unfold Cy
  by_cases h0:o=0
  ·rw [if_pos h0]
   exact Ev.pos h0 (Ev.and fun _=>Ev.Px fun _=>Ev.now _)
  rw [if_neg h0]
  refine Ev.neg h0 ?_
  by_cases h1:o=1
  ·rw [if_pos h1]
   exact Ev.pos h1 (Ev.and fun _=>Ev.and fun _=>Ev.Px fun _=>Ev.now _)
  rw [if_neg h1]
  refine Ev.neg h1 ?_
  by_cases h2:o=2
  ·rw [if_pos h2]
   exact Ev.pos h2 (Ev.and fun _=>Ev.and fun _=>Ev.and fun _=>Ev.Px fun _=>Ev.bind (xQ t) (Ev.now _))
  rw [if_neg h2]
  refine Ev.neg h2 ?_
  by_cases h3:o=3
  ·rw [if_pos h3,if_pos h3]
   exact (Ev.and fun _=>Ev.now _)
  rw [if_neg h3,if_neg h3]
  by_cases h4:o=4
  ·rw [if_pos h4,if_pos h4]
   refine (Ev.Px fun _=>Ev.and fun _=>?_)
   rw [Rg (x:=s - 1) (by omega) (by omega),← JB]
   exact Ev.bind (Ye _ _ _) (Ev.now _)
  rw [if_neg h4,if_neg h4]
  by_cases h5:o=5
  ·rw [if_pos h5,if_pos h5]
   exact (Ev.and fun _=>Ev.Px fun _=>Ev.Px fun _=>Ev.now _)
  rw [if_neg h5,if_neg h5]
  by_cases h6:o=6
  ·rw [if_pos h6,if_pos h6]
   exact (Ev.Px fun _=>Ev.and fun _=>Ev.Px fun _=>Ev.now _)
  rw [if_neg h6,if_neg h6]
  exact Ev.now _
theorem Bk (M:Bool) (hM:M=((Sh s a || a == -1) && (Sh s b && qi n 0 ((l0.length:Int) - 1)))) (hs:0 ≤ s) (hs':s ≤ 1000):Ev (fun k=>Xa.j0 k (Sh s d) (Sh s a) (Sh s b) M l0 p v s l4 o d a b c n t) (Di l0.length s o d a b c n t):=by
 refine Ev.step (fun k=>by rw [Xa.j0]) ?_
 have key:∀ x:Bool,(x=if o=2 then (c != 0) else if t.toList=[] then (if o=4 then false else (c != 0)) else true)→Ev (fun k=>Xa.j1 k (Sh s d) (Sh s a) (Sh s b) M x l0 p v s l4 o d a b c n t) (Di l0.length s o d a b c n t):=by
  intro x hx
  have e:Di l0.length s o d a b c n t=(!x && Cy (Sh s d) (Sh s a) (Sh s b) (Sh s c) M o d a b n t):=by
   subst hM
   subst hx
   unfold Di Cy
   by_cases h0:o=0
   ·subst h0
    rw [Bool.eq_iff_iff]
    by_cases ht:t.toList=[] <;> simp [ht]
    all_goals (constructor <;> intro h <;> simp_all)
   by_cases h1:o=1
   ·subst h1
    rw [Bool.eq_iff_iff]
    by_cases ht:t.toList=[] <;> simp [ht]
    all_goals (constructor <;> intro h <;> simp_all)
   by_cases h2:o=2
   ·subst h2
    rw [Bool.eq_iff_iff]
    simp
    constructor <;> intro h <;> simp_all
   by_cases h3:o=3
   ·subst h3
    rw [Bool.eq_iff_iff]
    by_cases ht:t.toList=[] <;> simp [ht]
    all_goals (constructor <;> intro h <;> simp_all)
   by_cases h4:o=4
   ·subst h4
    rw [Bool.eq_iff_iff]
    by_cases ht:t.toList=[] <;> simp [ht]
    all_goals (constructor <;> intro h <;> simp_all)
   by_cases h5:o=5
   ·subst h5
    rw [Bool.eq_iff_iff]
    by_cases ht:t.toList=[] <;> simp [ht]
    all_goals (constructor <;> intro h <;> simp_all)
   by_cases h6:o=6
   ·subst h6
    rw [Bool.eq_iff_iff]
    by_cases ht:t.toList=[] <;> simp [ht]
    all_goals (constructor <;> intro h <;> simp_all)
   simp [h0,h1,h2,h3,h4,h5,h6]
  rw [e]
  exact RA _ _ _ _ _ hs hs'
 by_cases h2:o=2
 ·exact Ev.pos h2 (Ev.neg (by omega) (key _ (by rw [if_pos h2])))
 ·refine Ev.neg h2 ?_
  by_cases ht:t.toList=([]:List UInt8)
  ·refine Ev.pos ht ?_
   by_cases h4:o=4
   ·exact Ev.pos h4 (key _ (by rw [if_neg h2,if_pos ht,if_pos h4]))
   ·exact Ev.neg h4 (key _ (by rw [if_neg h2,if_pos ht,if_neg h4]))
  ·exact Ev.neg ht (key _ (by rw [if_neg h2,if_neg ht]))
theorem dx (hs:0 ≤ s) (hs':s ≤ 1000) (hl:l0.length ≤ 1048576):Ev (fun k=>Xa.f k l0 p v s l4 o d a b c n t) (Di l0.length s o d a b c n t):=by
 unfold Xa.f
 rw [Rg (x:=s - 1) (by omega) (by omega),Rg (x:=(l0.length:Int) - 1) (by omega) (by omega)]
 refine Ev.bind (Ye _ _ _) (Ev.bind (Ye _ _ _) (Ev.bind (Ye _ _ _) ?_))
 simp only [JB]
 cases ha:Sh s a with
 | true =>
  refine Ev.pos rfl ?_
  cases hb:Sh s b with
  | true=>exact Ev.pos rfl (Ev.bind (Ye _ _ _) (by have:=Bk (l0:=l0) (p:=p) (v:=v) (s:=s) (l4:=l4) (o:=o) (d:=d) (a:=a) (b:=b) (c:=c) (n:=n) (t:=t) (qi n 0 ((l0.length:Int) - 1)) (by simp [ha,hb]) hs hs';rw [ha,hb] at this;exact this))
  | false=>exact Ev.neg (by simp) (by have:=Bk (l0:=l0) (p:=p) (v:=v) (s:=s) (l4:=l4) (o:=o) (d:=d) (a:=a) (b:=b) (c:=c) (n:=n) (t:=t) false (by simp [hb]) hs hs';rw [ha,hb] at this;exact this)
 | false =>
  refine Ev.neg (by simp) ?_
  by_cases h1:a = -1
  ·refine Ev.pos h1 ?_
   cases hb:Sh s b with
   | true=>exact Ev.pos rfl (Ev.bind (Ye _ _ _) (by have:=Bk (l0:=l0) (p:=p) (v:=v) (s:=s) (l4:=l4) (o:=o) (d:=d) (a:=a) (b:=b) (c:=c) (n:=n) (t:=t) (qi n 0 ((l0.length:Int) - 1)) (by simp [h1,hb]) hs hs';rw [ha,hb] at this;exact this))
   | false=>exact Ev.neg (by simp) (by have:=Bk (l0:=l0) (p:=p) (v:=v) (s:=s) (l4:=l4) (o:=o) (d:=d) (a:=a) (b:=b) (c:=c) (n:=n) (t:=t) false (by simp [hb]) hs hs';rw [ha,hb] at this;exact this)
  ·exact Ev.neg h1 (by have:=Bk (l0:=l0) (p:=p) (v:=v) (s:=s) (l4:=l4) (o:=o) (d:=d) (a:=a) (b:=b) (c:=c) (n:=n) (t:=t) false (by simp [ha,h1]) hs hs';rw [ha] at this;exact this)
theorem rC (code:List Jh) (j ba tg els:Int) (hs:0 ≤ s) (hs':s ≤ 1000) (hl:l0.length ≤ 1048576) (AR:l4.length ≤ 1048576) (hc:code.length ≤ 1048576):Ev (fun k=>Fb.f k l0 p v s l4 code j ba tg els) (Si l0.length s l4.length code j ba tg els):=by
 unfold Fb.f
 have key:=sC (n:=code.length) (R:=(if j=0 then qi tg 0 ((l4.length:Int) - 1) && ba == 0 && els == 0 else if j=1 then qi tg 0 ((l4.length:Int) - 1) && qi els 0 ((l4.length:Int) - 1) && Sh s ba else if j=2 then Sh s ba && tg == 0 && els == 0 else false)) (e:=false) (fun i=>Gh l0.length s (code.getD i eA)=true) (fun i k=>Fb.l0 k (i:Int) l0 p v s l4 code j ba tg els) ?_ ?_ ?_
 ·have e:(bif Du code.length (fun i=>Gh l0.length s (code.getD i eA)=true) then (if j=0 then qi tg 0 ((l4.length:Int) - 1) && ba == 0 && els == 0 else if j=1 then qi tg 0 ((l4.length:Int) - 1) && qi els 0 ((l4.length:Int) - 1) && Sh s ba else if j=2 then Sh s ba && tg == 0 && els == 0 else false) else false)=Si l0.length s l4.length code j ba tg els:=by
   rw [Zt]
   unfold Si
   rw [decide_eq_true hs,Bool.and_true]
   cases (!(code.any fun x=>!Gh l0.length s x)) <;> rfl
  rw [e] at key
  exact key
 ·refine Ev.step (fun k=>by rw [Fb.l0]) (Ev.neg (by omega) ?_)
  rw [Rg (x:=s - 1) (by omega) (by omega),Rg (x:=(l4.length:Int) - 1) (by omega) (by omega)]
  refine Ev.bind (Ye _ _ _) (Ev.bind (Ye _ _ _) ?_)
  rw [JB s ba]
  by_cases h0:j=0
  ·rw [if_pos h0,if_pos h0,Bool.and_assoc]
   exact Ev.and fun _=>Ev.Px fun _=>Ev.now _
  rw [if_neg h0,if_neg h0]
  by_cases h1:j=1
  ·rw [if_pos h1,if_pos h1,Bool.and_assoc,Bool.and_comm (qi els 0 ((l4.length:Int) - 1))]
   exact Ev.and fun _=>Ev.and fun _=>Ev.bind (Ye _ _ _) (Ev.now _)
  rw [if_neg h1,if_neg h1]
  by_cases h2:j=2
  ·rw [if_pos h2,if_pos h2,Bool.and_assoc]
   exact Ev.and fun _=>Ev.Px fun _=>Ev.now _
  rw [if_neg h2,if_neg h2]
  exact Ev.now _
 ·intro i hi hp r hr
  refine Ev.step (fun k=>by rw [Fb.l0]) (Ev.pos (by omega) (Ev.pos (by omega) ?_))
  refine Ev.bind (dx hs hs' hl) ?_
  have hq:Di l0.length s (zb code (i:Int)).f0 (zb code (i:Int)).f1 (zb code (i:Int)).f2 (zb code (i:Int)).f3 (zb code (i:Int)).f4 (zb code (i:Int)).f5 (zb code (i:Int)).f6=true:=hp
  refine Ev.pos hq ?_
  rw [dg hi (by omega)]
  exact hr
 ·intro i hi hp
  refine Ev.step (fun k=>by rw [Fb.l0]) (Ev.pos (by omega) (Ev.pos (by omega) ?_))
  refine Ev.bind (dx hs hs' hl) ?_
  exact Ev.neg hp (Ev.now _)
end
def De (l:List Eh):Nat:=(l.map fun x=>x.f0.length).sum
def St (l0:List Int) (p v s:Int) (n4:Nat):Bool:=er l0 p v && qi s v 1000 && qi (n4:Int) 1 300
def gm (l0:List Int) (s:Int) (l4:List Eh) (x:Eh):Bool:=Si l0.length s l4.length x.f0 x.f1 x.f2 x.f3 x.f4
def dn (l0:List Int) (p v s:Int) (l4:List Eh):Bool:=St l0 p v s l4.length && (!(l4.any fun x=>!gm l0 s l4 x) && decide (De l4 ≤ 1000))
theorem vr (l:List Eh) (i:Nat) (h:i < l.length):De (l.take (i + 1))=De (l.take i) + l[i].f0.length:=by
 unfold De
 rw [List.take_succ_eq_append_getElem h,List.map_append,List.sum_append]
 simp
theorem Ew (l:List Nat) (i:Nat):(l.take i).sum ≤ l.sum:=by
 conv=>rhs;rw [← List.take_append_drop i l]
 rw [List.sum_append]
 omega
theorem Fw (l:List Eh) (i:Nat):De (l.take i) ≤ De l:=by
 unfold De
 rw [List.map_take]
 exact Ew _ _
theorem PG {l0:List Int} {p v s:Int} {n4:Nat} (h:St l0 p v s n4=true):1 ≤ l0.length∧l0.length ≤ 4∧0 ≤ p∧p ≤ v∧p ≤ 6∧v ≤ 20∧v ≤ s∧s ≤ 1000∧1 ≤ n4∧n4 ≤ 300:=by
 unfold St er qi at h
 simp only [Bool.and_eq_true,decide_eq_true_eq] at h
 obtain ⟨⟨⟨⟨⟨⟨h1,h2⟩,_⟩,h3,h4⟩,h5⟩,h6,h7⟩,h8,h9⟩:=h
 split at h4 <;> omega
section
variable {l0:List Int} {p v s:Int} {l4:List Eh}
theorem oC (h0:l0.length ≤ 1048576) (AR:l4.length ≤ 1048576) (ht:De l4 ≤ 1048576):Ev (fun k=>Kb.f k l0 p v s l4) (dn l0 p v s l4):=by
 unfold Kb.f Mf.f
 simp only [List.length_nil,if_true]
 refine Ev.val ?_
 have no:∀ {r:Bool},r=false→Ev (fun k=>Kb.j0 k true l0 p v s l4) r:=by
  intro r hr
  subst hr
  exact Ev.step (fun k=>by rw [Kb.j0]) (Ev.pos rfl (Ev.now _))
 unfold dn St
 cases hp:er l0 p v with
 | false=>exact Ev.neg (by simp) (no (by simp))
 | true =>
  refine Ev.pos rfl (Ev.bind (Ev.here (yA _ _ _)) ?_)
  cases hv:qi s v 1000 with
  | false=>exact Ev.neg (by simp) (no (by simp))
  | true =>
   refine Ev.pos rfl (Ev.bind (Ev.here (yA _ _ _)) ?_)
   cases hn:qi (l4.length:Int) 1 300 with
   | false=>exact no (by simp)
   | true =>
    refine Ev.step (fun k=>by rw [Kb.j0]) (Ev.neg (by simp) ?_)
    simp only [Bool.true_and]
    have key:=sC (n:=l4.length) (R:=decide (De l4 ≤ 1000)) (e:=false) (fun i=>gm l0 s l4 (l4.getD i eB)=true) (fun i k=>Kb.l0 k (De (l4.take i):Int) l4 (l4.length:Int) (i:Int) l0 p v s l4) ?_ ?_ ?_
    ·have e:(bif Du l4.length (fun i=>gm l0 s l4 (l4.getD i eB)=true) then decide (De l4 ≤ 1000) else false)=(!(l4.any fun x=>!gm l0 s l4 x) && decide (De l4 ≤ 1000)):=by
      rw [Zt]
      cases (!(l4.any fun x=>!gm l0 s l4 x)) <;> rfl
     rw [e] at key
     simpa [De] using key
    ·refine Ev.step (fun k=>by rw [Kb.l0]) (Ev.neg (by omega) ?_)
     rw [List.take_length]
     have e:decide ((De l4:Int) ≤ 1000)=decide (De l4 ≤ 1000):=by
      rw [Bool.eq_iff_iff,decide_eq_true_iff,decide_eq_true_iff]
      omega
     rw [e]
     exact Ev.now _
    ·intro i hi hq r hr
     refine Ev.step (fun k=>by rw [Kb.l0]) (Ev.pos (by omega) (Ev.pos (by omega) (Ev.pos (by omega) ?_)))
     unfold Ah.f
     have hq':Si l0.length s l4.length (mb l4 (i:Int)).f0 (mb l4 (i:Int)).f1 (mb l4 (i:Int)).f2 (mb l4 (i:Int)).f3 (mb l4 (i:Int)).f4=true:=hq
     refine Ev.val (Ev.pos hq' ?_)
     have h1:=vr l4 i hi
     have h2:=Fw l4 (i + 1)
     rw [Zj hi,dg hi (by omega),Rg (x:=(De (l4.take i):Int) + (l4[i].f0.length:Int)) (by omega) (by omega),show (De (l4.take i):Int) + (l4[i].f0.length:Int)=(De (l4.take (i + 1)):Int) from by omega]
     exact hr
    ·intro i hi hq
     refine Ev.step (fun k=>by rw [Kb.l0]) (Ev.pos (by omega) (Ev.pos (by omega) (Ev.pos (by omega) ?_)))
     unfold Ah.f
     exact Ev.val (Ev.neg hq (Ev.now _))
theorem tC (h0:l0.length ≤ 1048576) (AR:l4.length ≤ 1048576) (ht:De l4 ≤ 1048576):Ev (fun k=>Ua.f k l0 p v s l4) (dn l0 p v s l4):=by
 unfold Ua.f
 have no:∀ {r:Bool},r=false→Ev (fun k=>Ua.j1 k true l0 p v s l4) r:=by
  intro r hr
  subst hr
  exact Ev.step (fun k=>by rw [Ua.j1]) (Ev.pos rfl (Ev.now _))
 have key:=sC (n:=l0.length) (R:=qi (l0.length:Int) 1 4 && (qi v 0 20 && (qi p 0 6 && (decide (p ≤ v) && (qi s v 1000 && (qi (l4.length:Int) 1 300 && (!(l4.any fun x=>!gm l0 s l4 x) && decide (De l4 ≤ 1000)))))))) (e:=false) (fun i=>qi (l0.getD i 0) 1 16=true) (fun i k=>Ua.l0 k (i:Int) l0 p v s l4) ?_ ?_ ?_
 ·have e:(bif Du l0.length (fun i=>qi (l0.getD i 0) 1 16=true) then (qi (l0.length:Int) 1 4 && (qi v 0 20 && (qi p 0 6 && (decide (p ≤ v) && (qi s v 1000 && (qi (l4.length:Int) 1 300 && (!(l4.any fun x=>!gm l0 s l4 x) && decide (De l4 ≤ 1000)))))))) else false)=dn l0 p v s l4:=by
   rw [Zt l0 0 (fun x=>qi x 1 16)]
   unfold dn St er
   rw [Bool.eq_iff_iff]
   cases (!(l0.any fun x=>!qi x 1 16))
   ·simp
   ·simp only [cond_true,Bool.and_eq_true,qi,decide_eq_true_eq,and_assoc,true_and]
    constructor
    ·rintro ⟨h1,h2,h3,h4,h5,h6,h7,h8⟩
     refine ⟨h1,h2,h5,?_,h4,h8⟩
     split <;> omega
    ·rintro ⟨h1,h2,h5,h6,h4,h7,h8,h9⟩
     refine ⟨h1,h2,?_⟩
     split at h6 <;> exact ⟨by omega,by omega,by omega,by omega,by omega,h7,h8,h9⟩
  rw [e] at key
  exact key
 ·refine Ev.step (fun k=>by rw [Ua.l0]) (Ev.neg (by omega) ?_)
  refine Ev.bind (Ye _ _ _) ?_
  cases hb0:qi (l0.length:Int) 1 4 with
  | false=>exact Ev.neg (by simp) (no (by simp))
  | true =>
   refine Ev.pos rfl (Ev.bind (Ye _ _ _) ?_)
   cases hb1:qi v 0 20 with
   | false=>exact Ev.neg (by simp) (no (by simp))
   | true =>
    refine Ev.pos rfl (Ev.bind (Ye _ _ _) ?_)
    cases hb2:qi p 0 6 with
    | false=>exact Ev.neg (by simp) (no (by simp))
    | true =>
     refine Ev.pos rfl ?_
     by_cases hpv:p > v
     ·refine Ev.pos hpv (no ?_)
      rw [decide_eq_false (show ¬ p ≤ v from by omega)]
      simp
     ·refine Ev.neg hpv (Ev.bind (Ye _ _ _) ?_)
      rw [decide_eq_true (show p ≤ v from by omega)]
      cases hb3:qi s v 1000 with
      | false=>exact Ev.neg (by simp) (no (by simp))
      | true =>
       refine Ev.pos rfl (Ev.bind (Ye _ _ _) ?_)
       cases Z8:qi (l4.length:Int) 1 300 with
       | false=>exact no (by simp)
       | true =>
        refine Ev.step (fun k=>by rw [Ua.j1]) (Ev.neg (by simp) ?_)
        simp only [Bool.true_and]
        have hs0:0 ≤ s∧s ≤ 1000:=by simp [qi] at hb1 hb3;omega
        have key:=Mj (r:=true) (n:=l4.length) (fun i=>De (l4.take i) ≤ 1000→Ev (fun k=>Ua.l1 k (De (l4.take i):Int) (i:Int) l0 p v s l4) (!((l4.drop i).any fun x=>!gm l0 s l4 x) && decide (De l4 ≤ 1000))) ?_ ?_ 0 (by omega) (by simp [De])
        ·rw [List.drop_zero] at key
         simpa [De] using key
        ·intro h
         rw [List.take_length] at h
         refine Ev.step (fun k=>by rw [Ua.l1]) (Ev.neg (by omega) ?_)
         rw [List.drop_length,decide_eq_true h]
         exact Ev.now _
        ·intro i hi ih h
         have h1:=vr l4 i hi
         have h2:=Fw l4 (i + 1)
         refine Ev.step (fun k=>by rw [Ua.l1]) (Ev.pos (by omega) (Ev.pos (by omega) ?_))
         rw [Zj hi,Rg (x:=(De (l4.take i):Int) + (l4[i].f0.length:Int)) (by omega) (by omega),show (De (l4.take i):Int) + (l4[i].f0.length:Int)=(De (l4.take (i + 1)):Int) from by omega]
         have hd:((l4.drop i).any fun x=>!gm l0 s l4 x)=(!gm l0 s l4 l4[i] || (l4.drop (i + 1)).any fun x=>!gm l0 s l4 x):=by
          rw [List.drop_eq_getElem_cons hi,List.any_cons]
         rw [hd]
         by_cases hgt:(De (l4.take (i + 1)):Int) > 1000
         ·rw [decide_eq_false (show ¬ De l4 ≤ 1000 from by omega),Bool.and_false]
          exact Ev.pos hgt (Ev.now _)
         ·refine Ev.neg hgt (Ev.bind (rC _ _ _ _ _ hs0.1 hs0.2 h0 AR (by omega)) ?_)
          cases hq:gm l0 s l4 l4[i] with
          | false =>
           have hq':¬ Si l0.length s l4.length l4[i].f0 l4[i].f1 l4[i].f2 l4[i].f3 l4[i].f4=true:=by
            have e:Si l0.length s l4.length l4[i].f0 l4[i].f1 l4[i].f2 l4[i].f3 l4[i].f4=false:=hq
            rw [e]
            simp
           exact Ev.neg hq' (Ev.now _)
          | true =>
           have hq':Si l0.length s l4.length l4[i].f0 l4[i].f1 l4[i].f2 l4[i].f3 l4[i].f4=true:=hq
           refine Ev.pos hq' ?_
           rw [dg hi (by omega),Bool.not_true,Bool.false_or]
           exact ih (by omega)
 ·intro i hi hq r hr
  refine Ev.step (fun k=>by rw [Ua.l0]) (Ev.pos (by omega) (Ev.pos (by omega) ?_))
  refine Ev.bind (Ye _ _ _) (Ev.pos hq ?_)
  rw [dg hi (by omega)]
  exact hr
 ·intro i hi hq
  refine Ev.step (fun k=>by rw [Ua.l0]) (Ev.pos (by omega) (Ev.pos (by omega) ?_))
  exact Ev.bind (Ye _ _ _) (Ev.neg hq (Ev.now _))
end
end Go.Proofs.Ytmifdccaajngcaa.P
end
section
namespace Go.Proofs.Ytmifdccaajngcaa.P
open Go.RowKit Go.Proofs.Ca.xb Go.Proofs.Ca.Xb Go.Proofs.Ca.ic
set_option linter.unusedVariables false
set_option linter.unusedSimpArgs false
def Wh (x:Ko):Ph:=⟨x.f0,x.f1⟩
theorem uB (t:ByteArray) (a b:Int):vn.f t a b=some (YA t a b):=by
 rw [← XA]
 rfl
theorem QA (n:Nat) (hn:n ≤ 1000):Ev (fun k=>Bc.f k (n:Int)) ((idents n).map Wh):=by
 unfold Bc.f
 have key:=Mj (r:=(idents n).map Wh) (n:=n) (fun i=>Ev (fun k=>Bc.l0 k (n:Int) (((idents n).take i).map Wh) (i:Int)) ((idents n).map Wh)) ?_ ?_ 0 (by omega)
 ·exact key
 ·refine Ev.step (fun k=>by rw [Bc.l0]) (Ev.neg (by omega) ?_)
  rw [List.take_of_length_le (by rw [ah];omega)]
  exact Ev.now _
 ·intro i hi ih
  refine Ev.step (fun k=>by rw [Bc.l0]) (Ev.pos (by omega) (Ev.pos (by rw [List.length_map,List.length_take,ah];omega) ?_))
  rw [dg hi (by omega)]
  rw [iu n i hi,List.map_append] at ih
  exact ih
def Qn (o:Option Ko):Int × Int × Bool:=match o with
 | some s=>(s.f0,s.f1,true)
 | none=>(0,0,false)
theorem RG (t:ByteArray) (a b:Ko):Ev (fun k=>Cb.f k t a.f0 a.f1 b.f0 b.f1) (Qn (AG t a b)):=by
 have h3:∀ x:Bool,x=decide (t.toList=[45]∧b.f0 = -1)→Ev (fun k=>Cb.j3 k t x a.f0 a.f1 b.f0 b.f1) (Qn (if t.toList=[45]∧b.f0 = -1 then some ⟨a.f0,wrap64 (a.f1 - b.f1)⟩ else if t.toList=[45]∧a.f0=b.f0 then some ⟨-1,wrap64 (a.f1 - b.f1)⟩ else none)):=by
  intro x hx
  refine Ev.step (fun k=>by rw [Cb.j3]) ?_
  by_cases h:t.toList=[45]∧b.f0 = -1
  ·rw [if_pos h]
   exact Ev.pos (by rw [hx];simpa using h) (Ev.now _)
  ·rw [if_neg h]
   refine Ev.neg (by rw [hx];simpa using h) ?_
   by_cases h1:t.toList=[45]
   ·by_cases h2:a.f0=b.f0
    ·simp only [h1,h2,and_self,if_true,Qn]
     exact Ev.now _
    ·simp only [h1,h2,and_false,if_true,if_false,Qn]
     exact Ev.now _
   ·simp only [h1,false_and,if_false,Qn]
    exact Ev.now _
 have h2:∀ x:Bool,x=decide (t.toList=[43]∧b.f0 = -1)→Ev (fun k=>Cb.j2 k t x a.f0 a.f1 b.f0 b.f1) (Qn (if t.toList=[43]∧b.f0 = -1 then some ⟨a.f0,wrap64 (a.f1 + b.f1)⟩ else if t.toList=[45]∧b.f0 = -1 then some ⟨a.f0,wrap64 (a.f1 - b.f1)⟩ else if t.toList=[45]∧a.f0=b.f0 then some ⟨-1,wrap64 (a.f1 - b.f1)⟩ else none)):=by
  intro x hx
  refine Ev.step (fun k=>by rw [Cb.j2]) ?_
  by_cases h:t.toList=[43]∧b.f0 = -1
  ·rw [if_pos h]
   exact Ev.pos (by rw [hx];simpa using h) (Ev.now _)
  ·rw [if_neg h]
   refine Ev.neg (by rw [hx];simpa using h) ?_
   by_cases h1:t.toList=[45]
   ·exact Ev.pos h1 (h3 _ (by rw [Bool.eq_iff_iff];simp [h1]))
   ·exact Ev.neg h1 (h3 _ (by simp [h1]))
 have h1:∀ x:Bool,x=decide (t.toList=[43]∧a.f0 = -1)→Ev (fun k=>Cb.j1 k t x a.f0 a.f1 b.f0 b.f1) (Qn (if t.toList=[43]∧a.f0 = -1 then some ⟨b.f0,wrap64 (a.f1 + b.f1)⟩ else if t.toList=[43]∧b.f0 = -1 then some ⟨a.f0,wrap64 (a.f1 + b.f1)⟩ else if t.toList=[45]∧b.f0 = -1 then some ⟨a.f0,wrap64 (a.f1 - b.f1)⟩ else if t.toList=[45]∧a.f0=b.f0 then some ⟨-1,wrap64 (a.f1 - b.f1)⟩ else none)):=by
  intro x hx
  refine Ev.step (fun k=>by rw [Cb.j1]) ?_
  by_cases h:t.toList=[43]∧a.f0 = -1
  ·rw [if_pos h]
   exact Ev.pos (by rw [hx];simpa using h) (Ev.now _)
  ·rw [if_neg h]
   refine Ev.neg (by rw [hx];simpa using h) ?_
   by_cases h1:t.toList=[43]
   ·exact Ev.pos h1 (h2 _ (by rw [Bool.eq_iff_iff];simp [h1]))
   ·exact Ev.neg h1 (h2 _ (by simp [h1]))
 have h0:∀ x:Bool,x=decide (a.f0 = -1∧b.f0 = -1)→Ev (fun k=>Cb.j0 k t x a.f0 a.f1 b.f0 b.f1) (Qn (AG t a b)):=by
  intro x hx
  unfold AG
  refine Ev.step (fun k=>by rw [Cb.j0]) ?_
  by_cases h:a.f0 = -1∧b.f0 = -1
  ·rw [if_pos h,uB]
   exact Ev.pos (by rw [hx];simpa using h) (Ev.now _)
  ·rw [if_neg h]
   refine Ev.neg (by rw [hx];simpa using h) ?_
   by_cases h2:t.toList=[43]
   ·exact Ev.pos h2 (h1 _ (by rw [Bool.eq_iff_iff];simp [h2]))
   ·exact Ev.neg h2 (h1 _ (by simp [h2]))
 unfold Cb.f
 by_cases h:a.f0 = -1
 ·exact Ev.pos h (h0 _ (by rw [Bool.eq_iff_iff];simp [h]))
 ·exact Ev.neg h (h0 _ (by simp [h]))
theorem Jw (xs:List Ko) (i:Int) (h0:0 ≤ i) (h1:i < xs.length):Ad (xs.map Wh) i=Wh (Ta xs i):=by
 have hi:i.toNat < xs.length:=by omega
 simp [Ad,Ta,List.getD_eq_getElem?_getD,hi]
end Go.Proofs.Ytmifdccaajngcaa.P
end
section
namespace Go.Proofs.Ytmifdccaajngcaa.P
open Go.RowKit Go.Proofs.Ca.xb Go.Proofs.Ca.Xb Go.Proofs.Ca.ic
set_option linter.unusedVariables false
set_option linter.unusedSimpArgs false
theorem wk {xs:List Ko} {nx:Int} {x:Jh} (h4:¬ x.f0=4) (h6:¬ x.f0=6) (h0:0 ≤ x.f1):Xh xs nx x=(xs.set x.f1.toNat (Sk xs nx x).1,(Sk xs nx x).2):=by
 unfold Xh Df
 rw [if_neg h4,if_neg h6,if_pos h0]
theorem wm {s d:Int} (h:Sh s d=true):0 ≤ d∧d < s:=by simpa [Sh] using h
theorem nC (n0:Nat) (x:Jh) (xs:List Ko) (nx:Int) (hn0:0 ≤ nx) (qn:nx ≤ 1000000000) (s:Int) (hs:(xs.length:Int)=s) (hok:Gh n0 s x=true) :
  Ev (fun k=>Zb.f k x.f0 x.f1 x.f2 x.f3 x.f4 x.f5 x.f6 (xs.map Wh) nx) ((Xh xs nx x).2,(Xh xs nx x).1.map Wh):=by
 have hset:∀ (r:Ko) (i:Int),(xs.set i.toNat r).map Wh=(xs.map Wh).set i.toNat (Wh r):=fun r i=>by rw [List.map_set]
 have hlen:((xs.map Wh).length:Int)=s:=by rw [List.length_map];exact hs
 unfold Gh Di at hok
 unfold Zb.f
 by_cases o0:x.f0=0
 ·rw [if_pos o0,Bool.and_eq_true] at hok
  obtain ⟨d0,d1⟩:=wm hok.1
  rw [wk (by omega) (by omega) d0,show Sk xs nx x=(⟨-1,x.f5⟩,nx) from by unfold Sk;rw [if_pos o0]]
  refine Ev.pos o0 (Ev.pos d0 (Ev.pos (by omega) ?_))
  simp only [hset]
  exact Ev.now _
 rw [if_neg o0] at hok
 refine Ev.neg o0 ?_
 by_cases o1:x.f0=1
 ·rw [if_pos o1,Bool.and_eq_true,Bool.and_eq_true] at hok
  obtain ⟨d0,d1⟩:=wm hok.1.1
  obtain ⟨a0,a1⟩:=wm hok.1.2
  rw [wk (by omega) (by omega) d0,show Sk xs nx x=(Ta xs x.f2,nx) from by unfold Sk;rw [if_neg o0,if_pos o1]]
  refine Ev.pos o1 (Ev.pos a0 (Ev.pos (by omega) (Ev.pos d0 (Ev.pos (by omega) ?_))))
  rw [Jw xs x.f2 a0 (by omega)]
  simp only [hset]
  exact Ev.now _
 rw [if_neg o1] at hok
 refine Ev.neg o1 ?_
 by_cases o2:x.f0=2
 ·rw [if_pos o2,Bool.and_eq_true,Bool.and_eq_true,Bool.and_eq_true,Bool.and_eq_true] at hok
  obtain ⟨d0,d1⟩:=wm hok.1.1.1.1
  obtain ⟨a0,a1⟩:=wm hok.1.1.1.2
  obtain ⟨b0,b1⟩:=wm hok.1.1.2
  refine Ev.pos o2 (Ev.pos a0 (Ev.pos (by omega) (Ev.pos b0 (Ev.pos (by omega) ?_))))
  rw [Jw xs x.f2 a0 (by omega),Jw xs x.f3 b0 (by omega)]
  refine Ev.bind (RG x.f6 (Ta xs x.f2) (Ta xs x.f3)) ?_
  cases hk:AG x.f6 (Ta xs x.f2) (Ta xs x.f3) with
  | some r =>
   rw [wk (by omega) (by omega) d0,show Sk xs nx x=(r,nx) from by unfold Sk;rw [if_neg o0,if_neg o1,if_pos o2,hk]]
   refine Ev.pos rfl (Ev.pos d0 (Ev.pos (by omega) ?_))
   simp only [hset]
   exact Ev.now _
  | none =>
   rw [wk (by omega) (by omega) d0,show Sk xs nx x=(⟨nx,0⟩,nx + 1) from by unfold Sk;rw [if_neg o0,if_neg o1,if_pos o2,hk]]
   refine Ev.neg (by simp [Qn]) (Ev.pos d0 (Ev.pos (by omega) ?_))
   rw [Rg (by omega) (by omega)]
   simp only [hset]
   exact Ev.now _
 rw [if_neg o2] at hok
 refine Ev.neg o2 ?_
 have Nk:0 ≤ x.f1→x.f1 < s→¬ x.f0=4→¬ x.f0=6→Ev (fun k=>Zb.j0 k (xs.map Wh) nx true x.f0 x.f1 x.f2 x.f3 x.f4 x.f5 x.f6) ((Xh xs nx x).2,(Xh xs nx x).1.map Wh):=by
  intro d0 d1 h4 h6
  rw [wk h4 h6 d0,show Sk xs nx x=(⟨nx,0⟩,nx + 1) from by unfold Sk;rw [if_neg o0,if_neg o1,if_neg o2]]
  refine Ev.step (fun k=>by rw [Zb.j0]) (Ev.pos rfl ?_)
  rw [if_pos d0,if_pos (by omega),Rg (by omega) (by omega)]
  simp only [hset]
  exact Ev.now _
 have hkeep:Df x = -1→Ev (fun k=>Zb.j0 k (xs.map Wh) nx false x.f0 x.f1 x.f2 x.f3 x.f4 x.f5 x.f6) ((Xh xs nx x).2,(Xh xs nx x).1.map Wh):=by
  intro hm
  unfold Xh
  rw [hm,if_neg (by omega)]
  refine Ev.step (fun k=>by rw [Zb.j0]) (Ev.neg (by simp) (Ev.now _))
 by_cases o3:x.f0=3
 ·rw [if_pos o3] at hok
  simp only [Bool.and_eq_true] at hok
  obtain ⟨d0,d1⟩:=wm hok.1.1.1.1
  refine Ev.pos o3 ?_
  rw [show (x.f0 == 3)=true from by simp [o3]]
  exact Nk d0 d1 (by omega) (by omega)
 rw [if_neg o3] at hok
 refine Ev.neg o3 ?_
 by_cases o5:x.f0=5
 ·rw [if_neg (by omega),if_pos o5,Bool.and_eq_true] at hok
  obtain ⟨d0,d1⟩:=wm hok.1
  rw [show (x.f0 == 5)=true from by simp [o5]]
  exact Nk d0 d1 (by omega) (by omega)
 ·rw [show (x.f0 == 5)=false from by simp [o5]]
  refine hkeep ?_
  by_cases o4:x.f0=4
  ·unfold Df;rw [if_pos o4]
  ·rw [if_neg o4,if_neg o5] at hok
   by_cases o6:x.f0=6
   ·unfold Df;rw [if_neg o4,if_pos o6]
   ·rw [if_neg o6] at hok
    cases hok
end Go.Proofs.Ytmifdccaajngcaa.P
end
section
namespace Go.Proofs.Ytmifdccaajngcaa.P
open Go.RowKit Go.Proofs.Ca.xb Go.Proofs.Ca.Xb Go.Proofs.Ca.ic
set_option linter.unusedVariables false
set_option linter.unusedSimpArgs false
theorem xA {n0:Nat} {s:Int} {x:Jh} (h:Gh n0 s x=true) (hs:0 ≤ s):qp s x=true:=by
 unfold Gh Di at h
 unfold qp Df
 by_cases o0:x.f0=0
 ·simp [o0,Sh] at h ⊢;omega
 by_cases o1:x.f0=1
 ·simp [o1,Sh] at h ⊢;omega
 by_cases o2:x.f0=2
 ·simp [o2,Sh] at h ⊢;omega
 by_cases o3:x.f0=3
 ·simp [o3,Sh] at h ⊢;omega
 by_cases o4:x.f0=4
 ·simp [o4];omega
 by_cases o5:x.f0=5
 ·simp [o5,Sh] at h ⊢;omega
 by_cases o6:x.f0=6
 ·simp [o6];omega
 simp [o0,o1,o2,o3,o4,o5,o6] at h
section
variable {l0:List Int} {p v s:Int} {l4:List Eh}
theorem Pz (h:dn l0 p v s l4=true):St l0 p v s l4.length=true∧(∀ b ∈ l4,gm l0 s l4 b=true)∧De l4 ≤ 1000:=by
 unfold dn at h
 simp only [Bool.and_eq_true,Bool.not_eq_true',List.any_eq_false,decide_eq_true_eq] at h
 exact ⟨h.1,fun b hb=>by have:=h.2.1 b hb;simpa using this,h.2.2⟩
theorem CC {b:Eh} (h:gm l0 s l4 b=true):∀ x ∈ b.f0,Gh l0.length s x=true:=by
 unfold gm Si at h
 simp only [Bool.and_eq_true,Bool.not_eq_true',List.any_eq_false] at h
 intro x hx
 have:=h.1.1 x hx
 simpa using this
theorem cG (l:List Eh) (b:Eh) (hb:b ∈ l):b.f0.length ≤ De l:=by
 unfold De
 exact Nw (List.mem_map.mpr ⟨b,hb,rfl⟩)
theorem Ox {code:List Jh} {n n0:Nat} (hn:n ≤ 1000) (hc:code.length ≤ 1048576) (hok:∀ x ∈ code,Gh n0 (n:Int) x=true) :
  Ev (fun k=>Mc.l0 k ((idents n).map Wh) (n:Int) code 0 l0 p v (n:Int) l4) ((bh (idents n) n code).1.map Wh,(bh (idents n) n code).2 - n):=by
 have key:=Mj (r:=((bh (idents n) (n:Int) code).1.map Wh,(bh (idents n) (n:Int) code).2 - (n:Int))) (n:=code.length) (fun i=>Ev (fun k=>Mc.l0 k ((bh (idents n) (n:Int) (code.take i)).1.map Wh) (bh (idents n) (n:Int) (code.take i)).2 code (i:Int) l0 p v (n:Int) l4) ((bh (idents n) (n:Int) code).1.map Wh,(bh (idents n) (n:Int) code).2 - (n:Int))) ?_ ?_ 0 (by omega)
 ·exact key
 ·have h:=kr code (idents n) (n:Int)
  refine Ev.step (fun k=>by rw [Mc.l0]) (Ev.neg (by omega) ?_)
  rw [List.take_length,Rg (by omega) (by omega)]
  exact Ev.now _
 ·intro i hi ih
  have h:=kr (code.take i) (idents n) (n:Int)
  rw [ah] at h
  have hl:(code.take i).length ≤ code.length:=by rw [List.length_take];omega
  have hr:zb code (i:Int)=code[i]:=Jx hi
  refine Ev.step (fun k=>by rw [Mc.l0]) (Ev.pos (by omega) (Ev.pos (by omega) ?_))
  rw [hr]
  refine Ev.bind (nC n0 code[i] (bh (idents n) (n:Int) (code.take i)).1 (bh (idents n) (n:Int) (code.take i)).2 (by omega) (by omega) (n:Int) (by omega) (hok _ (List.getElem_mem hi))) ?_
  rw [← Pw code (idents n) (n:Int) i hi,dg hi (by omega)]
  exact ih
end
end Go.Proofs.Ytmifdccaajngcaa.P
end
section
namespace Go.Proofs.Ytmifdccaajngcaa.P
open Go.RowKit Go.Proofs.Ca.xb Go.Proofs.Ca.Xb Go.Proofs.Ca.ic
set_option linter.unusedVariables false
set_option linter.unusedSimpArgs false
theorem XI (l0:List Int) (p v s:Int) (l4:List Eh) (b:Int) (h0:l0.length ≤ 1048576) (AR:l4.length ≤ 1048576) (ht:De l4 ≤ 1048576):∃ r:Int,Ev (fun k=>Gf.f k l0 p v s l4 b) r∧Ev (fun k=>Xe.f k l0 p v s l4 b) r:=by
 unfold Gf.f Xe.f
 have hi:=oC (l0:=l0) (p:=p) (v:=v) (s:=s) (l4:=l4) h0 AR ht
 have hs:=tC (l0:=l0) (p:=p) (v:=v) (s:=s) (l4:=l4) h0 AR ht
 cases hg:dn l0 p v s l4 with
 | false =>
  rw [hg] at hi hs
  exact ⟨-1,Ev.bind hs (Ev.neg (by simp) (Ev.now _)),Ev.bind hi (Ev.neg (by simp) (Ev.now _))⟩
 | true =>
  rw [hg] at hi hs
  have hw:wrap64 ((l4.length:Int) - 1)=(l4.length:Int) - 1:=Rg (by omega) (by omega)
  rw [hw]
  clear hw
  cases hb:qi b 0 ((l4.length:Int) - 1) with
  | false=>exact ⟨-1,Ev.bind hs (Ev.pos rfl (Ev.bind (Ye _ _ _) (Ev.neg (by rw [hb];simp) (Ev.now _)))),Ev.bind hi (Ev.pos rfl (by simp only [Bool.false_eq_true,if_false];exact Ev.now _))⟩
  | true =>
   obtain ⟨g1,g2,g3⟩:=Pz hg
   have g4:=PG g1
   obtain ⟨n,rfl⟩:∃ n:Nat,s=(n:Int):=⟨s.toNat,by omega⟩
   have hb':0 ≤ b∧b < (l4.length:Int):=by simp [qi] at hb;omega
   obtain ⟨i,rfl⟩:∃ i:Nat,b=(i:Int):=⟨b.toNat,by omega⟩
   have hil:i < l4.length:=by omega
   have hr:mb l4 (i:Int)=l4[i]:=Zj hil
   have hin:=CC (g2 _ (List.getElem_mem hil))
   have NI:=cG l4 _ (List.getElem_mem hil)
   have hk:Ow (n:Int) l4[i].f0=true:=by
    unfold Ow
    simp only [Bool.and_eq_true,decide_eq_true_eq,List.all_eq_true]
    exact ⟨⟨⟨by omega,by omega⟩,by omega⟩,fun x hx=>xA (hin x hx) (by omega)⟩
   refine ⟨(bh (idents n) (n:Int) l4[i].f0).2 - n,Ev.bind hs (Ev.pos rfl (Ev.bind (Ye _ _ _) (Ev.pos hb ?_))),Ev.bind hi (Ev.pos rfl ?_)⟩
   ·unfold Mc.f
    refine Ev.bind (a:=((bh (idents n) (n:Int) l4[i].f0).1.map Wh,(bh (idents n) (n:Int) l4[i].f0).2 - (n:Int))) (Ev.bind (QA n (by omega)) (Ev.pos (by omega) (Ev.pos (by omega) ?_))) (Ev.now _)
    rw [hr]
    exact Ox (by omega) (by omega) hin
   ·rw [hr,if_pos rfl,if_pos hk,Int.toNat_natCast]
    exact Ev.now _
theorem tB (l:List Xi):De (l.map Sg) ≤ gP l:=by
 unfold De gP
 rw [List.map_map]
 have:∀ l:List Xi,(l.map ((fun (x:Eh)=>x.f0.length) ∘ Sg)).sum ≤ (l.map fun x=>uG x.f0).sum:=by
  intro l
  induction l with
  | nil=>simp
  | cons a l ih =>
   rw [List.map_cons,List.map_cons,List.sum_cons,List.sum_cons]
   have:((fun (x:Eh)=>x.f0.length) ∘ Sg) a ≤ uG a.f0:=by
    simp [Sg,uG]
   omega
 have:=this l
 omega
theorem Gt (x:mX) (b:Int) (hf:mO x) (hb:Fo b):∃ k,Ke.f k x.f0 x.f1 x.f2 x.f3 x.f4 b=some true:=by
 obtain ⟨h0,_,_,_,h4⟩:=hf
 obtain ⟨t,e1,e2,e3⟩:=mC x.f0 x.f1 x.f2 x.f3 x.f4 1048576 (by omega) (by omega) h0.1 h4.1 (fun y hy=>⟨(h4.2 y hy).1.1,fun z hz=>((h4.2 y hy).1.2 z hz).2.2.2.2.2.2⟩)
 refine Ev.rounds (g:=fun k=>Ke.f k x.f0 x.f1 x.f2 x.f3 x.f4 b) ?_
 unfold Ke.f
 refine Ev.bind e1 ?_
 by_cases ht:t < 0
 ·exact Ev.pos ht (Ev.now _)
 refine Ev.neg ht ?_
 have e:=e3 (by omega)
 obtain ⟨Z8,hbc⟩:=mA (l:=x.f4) (n:=1048576) (by omega)
 have hT:=lC x.f0 x.f1 x.f2 x.f3 x.f4 (by omega) Z8 hbc
 have hl:(x.f4.map Sg).length ≤ 1048576:=by rw [List.length_map];exact Z8
 have hst:=tB x.f4
 obtain ⟨r,r1,r2⟩:=XI x.f0 x.f1 x.f2 x.f3 (x.f4.map Sg) b (by omega) hl (by omega)
 have hq:=qC x.f0 x.f1 x.f2 x.f3 (x.f4.map Sg) (by omega) (by omega) (fun y hy=>by
  have:=cG _ _ hy
  omega)
 exact Ev.bind hT (Ev.bind r1 (Ev.bind hT (Ev.bind r2 (Ev.pos rfl (Ev.bind hT (Ev.bind hq (Ev.pos rfl (Ev.now _))))))))
end Go.Proofs.Ytmifdccaajngcaa.P
end
