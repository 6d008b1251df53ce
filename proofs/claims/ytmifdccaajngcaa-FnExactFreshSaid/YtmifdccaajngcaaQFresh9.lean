import Derived.Shelf.Abstract
import Derived.Outline
import Derived.RegionTactic
import Derived.Test.YtmifdccaajngcaaQFresh1
import Derived.Test.YtmifdccaajngcaaQFresh8
namespace Go.Proofs.Ytmifdccaajngcaa.P
open Go.RowKit Go.Proofs.Ca.xb Go.Proofs.Ca.Xb Go.Proofs.Ca.ic
set_option linter.unusedVariables false
set_option linter.unusedSimpArgs false
def YA (t:ByteArray) (a b:Int):Int:=(Dn.f t a b).getD 0
theorem XA (t:ByteArray) (a b:Int):Dn.f t a b=some (YA t a b):=by
 unfold YA Dn.f
 repeat' split
 all_goals rfl
theorem Il (t:ByteArray) (a b:Int) (w:World):Calls Try.prog 119 #[.string t,.int .i64 a,.int .i64 b] w fun e w'=>e = .returned (.int .i64 (YA t a b))∧Cc w w':=Dn.calls t a b _ w (XA t a b)
def AG (t:ByteArray) (a b:Ko):Option Ko :=
 if a.f0 = -1∧b.f0 = -1 then some ⟨-1,YA t a.f1 b.f1⟩
 else if t.toList=[43]∧a.f0 = -1 then some ⟨b.f0,wrap64 (a.f1 + b.f1)⟩
 else if t.toList=[43]∧b.f0 = -1 then some ⟨a.f0,wrap64 (a.f1 + b.f1)⟩
 else if t.toList=[45]∧b.f0 = -1 then some ⟨a.f0,wrap64 (a.f1 - b.f1)⟩
 else if t.toList=[45]∧a.f0=b.f0 then some ⟨-1,wrap64 (a.f1 - b.f1)⟩
 else none
def Sk (xs:List Ko) (nx:Int) (x:Jh):Ko × Int :=
 if x.f0=0 then (⟨-1,x.f5⟩,nx)
 else if x.f0=1 then (Ta xs x.f2,nx)
 else if x.f0=2 then
  match AG x.f6 (Ta xs x.f2) (Ta xs x.f3) with
  | some s=>(s,nx)
  | none=>(⟨nx,0⟩,nx + 1)
 else (⟨nx,0⟩,nx + 1)
section
variable {W:World} {B kb:Nat} {v:Value} {xs:List Ko} {nx:Int}
set_option maxHeartbeats 2000000 in
set_option maxRecDepth 100000 in
theorem XJ (hk:KV W B kb v xs nx) (d a b c n:Int) (t:ByteArray) :
  Calls Try.prog 92 #[.pointer (some ⟨kb,0,none⟩),.agg #[.int .i64 0,.int .i64 d,.int .i64 a,.int .i64 b,.int .i64 c,.int .i64 n,.string t]] W fun e w'=>e = .returned (.agg #[.int .i64 (-1),.int .i64 n])∧Below W.heap.size W w':=by
 obtain ⟨hB,h2,h3⟩:=hk
 have kB:=qa.mk h2
 have hlt:=Ac h2
 obtain ⟨W1,hW1⟩:∃ W1,W1=(W.alloc (.cells #[.int .i64 0,.int .i64 d,.int .i64 a,.int .i64 b,.int .i64 c,.int .i64 n,.string t] 70 (0,0))).alloc (.cells #[.int .i64 0,.int .i64 0] 79 (0,0)):=⟨_,rfl⟩
 have HW:=qa.mk hW1
 have Ri:Below W.heap.size W W1:=by rw [hW1];exact ia (ia (Below.refl _ _) _) _
 have hz:W1.heap.size=W.heap.size + 2:=by rw [hW1];simp
 have We:=qa.mk (Wa h2 Ri)
 have nr:=(ga We.out 0).trans rfl
 have hk1:=(ga We.out 1).trans rfl
 have Jr:=aa We.out 1
 have oh:W1.heap[W.heap.size + 1]? = some (.cells #[.int .i64 0,.int .i64 0] 79 (0,0)):=by rw [hW1];have:=Yc (W.alloc (.cells #[.int .i64 0,.int .i64 d,.int .i64 a,.int .i64 b,.int .i64 c,.int .i64 n,.string t] 70 (0,0))) (.cells #[.int .i64 0,.int .i64 0] 79 (0,0));simpa using this
 have Af:W1.heap[W.heap.size]? = some (.cells #[.int .i64 0,.int .i64 d,.int .i64 a,.int .i64 b,.int .i64 c,.int .i64 n,.string t] 70 (0,0)):=by rw [hW1];exact Da (Yc _ _) _
 have HR:=qa.mk oh
 have HX:=qa.mk Af
 have hr0:=(ga oh 0).trans rfl
 have En:=(ga oh 1).trans rfl
 have Fj:=aa oh 0
 have Ej:=aa oh 1
 have hx0:=(ga Af 0).trans rfl
 have hx1:=(ga Af 1).trans rfl
 have Gk:=(ga Af 2).trans rfl
 have Fk:=(ga Af 3).trans rfl
 have qm:=(ga Af 4).trans rfl
 have vp:=(ga Af 5).trans rfl
 have om:=(ga Af 6).trans rfl
 have HB:=qa.mk Ri
 have Uw:kb ≠ W1.heap.size:=by omega
 have Tw:kb ≠ W1.heap.size + 1:=by omega
 have hw1:W.heap.size ≠ W1.heap.size:=by omega
 have XH:W.heap.size ≠ W1.heap.size + 1:=by omega
 have WH:W.heap.size + 1 ≠ W1.heap.size:=by omega
 have VH:W.heap.size + 1 ≠ W1.heap.size + 1:=by omega
 have HZ:=qa.mk hz
 clear hW1 oh Af h2 h3 Ri hz
 go_enter Try.func92,Try.ntmps92
 go_upto_region 1 with (fail)
 rw [← HW.out]
 clear HW
 go_wp2
 have hz:=HZ.out
 refine bodyPost_ret (results_cell_row rfl _ _ (W.heap.size + 1) 79 #[.int .i64 (-1),.int .i64 n] (0,0) _ rfl ?_ Try.underlying79 rfl (by kernel_rfl)) rfl ?_
 ·exact Db (cs:=#[.int .i64 (-1),.int .i64 0]) (Db (cs:=#[.int .i64 0,.int .i64 0]) HR.out 0 _ rfl) 1 _ rfl
 ·exact ⟨rfl,by repeat (first|exact HB.out|apply ja|apply za|apply ia|refine Aa ?_ (by first|omega|(simp;done)|(simp;omega)))⟩
set_option maxHeartbeats 2000000 in
set_option maxRecDepth 100000 in
theorem WJ (hk:KV W B kb v xs nx) (d a b c n:Int) (t:ByteArray) (ha0:0 ≤ a) (ha1:a < xs.length) :
  Calls Try.prog 92 #[.pointer (some ⟨kb,0,none⟩),.agg #[.int .i64 1,.int .i64 d,.int .i64 a,.int .i64 b,.int .i64 c,.int .i64 n,.string t]] W fun e w'=>e = .returned (.agg #[.int .i64 (Ta xs a).f0,.int .i64 (Ta xs a).f1])∧Below W.heap.size W w':=by
 obtain ⟨hB,h2,h3⟩:=hk
 have kB:=qa.mk h2
 have hlt:=Ac h2
 obtain ⟨W1,hW1⟩:∃ W1,W1=(W.alloc (.cells #[.int .i64 1,.int .i64 d,.int .i64 a,.int .i64 b,.int .i64 c,.int .i64 n,.string t] 70 (0,0))).alloc (.cells #[.int .i64 0,.int .i64 0] 79 (0,0)):=⟨_,rfl⟩
 have HW:=qa.mk hW1
 have Ri:Below W.heap.size W W1:=by rw [hW1];exact ia (ia (Below.refl _ _) _) _
 have hz:W1.heap.size=W.heap.size + 2:=by rw [hW1];simp
 have We:=qa.mk (Wa h2 Ri)
 have nr:=(ga We.out 0).trans rfl
 have hk1:=(ga We.out 1).trans rfl
 have Jr:=aa We.out 1
 have oh:W1.heap[W.heap.size + 1]? = some (.cells #[.int .i64 0,.int .i64 0] 79 (0,0)):=by rw [hW1];have:=Yc (W.alloc (.cells #[.int .i64 1,.int .i64 d,.int .i64 a,.int .i64 b,.int .i64 c,.int .i64 n,.string t] 70 (0,0))) (.cells #[.int .i64 0,.int .i64 0] 79 (0,0));simpa using this
 have Af:W1.heap[W.heap.size]? = some (.cells #[.int .i64 1,.int .i64 d,.int .i64 a,.int .i64 b,.int .i64 c,.int .i64 n,.string t] 70 (0,0)):=by rw [hW1];exact Da (Yc _ _) _
 have HR:=qa.mk oh
 have HX:=qa.mk Af
 have hr0:=(ga oh 0).trans rfl
 have En:=(ga oh 1).trans rfl
 have Fj:=aa oh 0
 have Ej:=aa oh 1
 have hx0:=(ga Af 0).trans rfl
 have hx1:=(ga Af 1).trans rfl
 have Gk:=(ga Af 2).trans rfl
 have Fk:=(ga Af 3).trans rfl
 have qm:=(ga Af 4).trans rfl
 have vp:=(ga Af 5).trans rfl
 have om:=(ga Af 6).trans rfl
 have HB:=qa.mk Ri
 obtain ⟨A,cc,rfl,_,hC⟩:=Kd.Kh (Kd.Ge h3 Ri)
 have dD:=hC.2.1
 obtain ⟨ad,e1,Lg,Kg⟩:=Bh hC a ha0 ha1
 cases e1
 obtain ⟨g,rfl⟩:=Kd.jm h3
 have Ly:g < W.heap.size:=by
  obtain ⟨inner,hi⟩:=Kd.Pk h3
  exact Lk hi g (by simp [Value.ownBlock])
 have FA:g ≠ W1.heap.size:=by omega
 have dH:g ≠ W1.heap.size + 1:=by omega
 simp only [add_plain] at Lg Kg
 clear hC
 have Uw:kb ≠ W1.heap.size:=by omega
 have Tw:kb ≠ W1.heap.size + 1:=by omega
 have hw1:W.heap.size ≠ W1.heap.size:=by omega
 have XH:W.heap.size ≠ W1.heap.size + 1:=by omega
 have WH:W.heap.size + 1 ≠ W1.heap.size:=by omega
 have VH:W.heap.size + 1 ≠ W1.heap.size + 1:=by omega
 have HZ:=qa.mk hz
 clear hW1 oh Af h2 h3 Ri hz
 go_enter Try.func92,Try.ntmps92
 go_upto_region 1 with (fail)
 rw [← HW.out]
 clear HW
 go_wp2
 go_region
 all_goals go_wp2
 have hz:=HZ.out
 refine bodyPost_ret (results_cell_row rfl _ _ (W.heap.size + 1) 79 #[.int .i64 (Ta xs a).f0,.int .i64 (Ta xs a).f1] (0,0) _ rfl ?_ Try.underlying79 rfl (by kernel_rfl)) rfl ?_
 ·exact Db (cs:=#[.int .i64 (Ta xs a).f0,.int .i64 0]) (Db (cs:=#[.int .i64 0,.int .i64 0]) HR.out 0 _ rfl) 1 _ rfl
 ·exact ⟨rfl,by repeat (first|exact HB.out|apply ja|apply za|apply ia|refine Aa ?_ (by first|omega|(simp;done)|(simp;omega)))⟩
theorem KV.upd {W':World} {RN:Int} (hB:B ≤ kb) (h2:W.heap[kb]? = some (.cells #[v,.int .i64 nx] 74 (0,0))) (h3:Kd.R TN 79 W B (fun _=>True) v xs) (hk:Kept W W' (fun k=>k=kb)) (h4:W'.heap[kb]? = some (.cells #[v,.int .i64 RN] 74 (0,0))):KV W' B kb v xs RN :=
 ⟨hB,h4,Kd.ke (Kd.uJ (Kd.Rj h3 h2 (by decide)) hk (fun k hk' e=>hk'.2 e)) (fun _ _=>trivial)⟩
theorem Jn {W2:World} {r:Nat} {u0 u1:Value} {RN:Int} (hB:B ≤ kb) (h2:W.heap[kb]? = some (.cells #[v,.int .i64 nx] 74 (0,0))) (h3:Kd.R TN 79 W B (fun _=>True) v xs) (hK:Kept W W2 (fun k=>k=kb)) (h4:W2.heap[kb]? = some (.cells #[v,.int .i64 nx] 74 (0,0))) (hl:Below kb W W2) (hr:W.heap.size ≤ r) (hlt:kb < W.heap.size) :
  KV (((W2.setCell ⟨kb,1,none⟩ (.int .i64 RN)).setCell ⟨r,0,none⟩ u0).setCell ⟨r,1,none⟩ u1) B kb v xs RN∧Kept W (((W2.setCell ⟨kb,1,none⟩ (.int .i64 RN)).setCell ⟨r,0,none⟩ u0).setCell ⟨r,1,none⟩ u1) (fun k=>k=kb)∧Below kb W (((W2.setCell ⟨kb,1,none⟩ (.int .i64 RN)).setCell ⟨r,0,none⟩ u0).setCell ⟨r,1,none⟩ u1):=by
 have hkk:Kept W (((W2.setCell ⟨kb,1,none⟩ (.int .i64 RN)).setCell ⟨r,0,none⟩ u0).setCell ⟨r,1,none⟩ u1) (fun k=>k=kb) :=
  Kept.setCell (p:=⟨r,1,none⟩) (Kept.setCell (p:=⟨r,0,none⟩) (Kept.setCell (p:=⟨kb,1,none⟩) hK (Or.inl rfl) _) (Or.inr hr) _) (Or.inr hr) _
 refine ⟨KV.upd hB h2 h3 hkk (Rb (Rb (Db (cs:=#[v,.int .i64 nx]) h4 1 _ rfl) (by simp;omega) _) (by simp;omega) _),hkk,?_⟩
 exact Below.setCell (p:=⟨r,1,none⟩) (Below.setCell (p:=⟨r,0,none⟩) (Below.setCell (p:=⟨kb,1,none⟩) hl (Nat.le_refl _) _) (by simp;omega) _) (by simp;omega) _
set_option maxHeartbeats 2000000 in
set_option maxRecDepth 100000 in
theorem VJ (hk:KV W B kb v xs nx) (hn0:0 ≤ nx) (qn:nx ≤ 1000000000) (d a b c n:Int) (t:ByteArray) (o:Int) (Vo:(o == 0)=false) (QB:(o == 1)=false) (dY:(o == 2)=false) :
  Calls Try.prog 92 #[.pointer (some ⟨kb,0,none⟩),.agg #[.int .i64 o,.int .i64 d,.int .i64 a,.int .i64 b,.int .i64 c,.int .i64 n,.string t]] W fun e w'=>e = .returned (.agg #[.int .i64 nx,.int .i64 0])∧KV w' B kb v xs (nx + 1)∧Kept W w' (fun k=>k=kb)∧Below kb W w':=by
 obtain ⟨hB,h2,h3⟩:=hk
 have HN:=qa.mk h3
 have kB:=qa.mk h2
 have hlt:=Ac h2
 obtain ⟨W1,hW1⟩:∃ W1,W1=(W.alloc (.cells #[.int .i64 o,.int .i64 d,.int .i64 a,.int .i64 b,.int .i64 c,.int .i64 n,.string t] 70 (0,0))).alloc (.cells #[.int .i64 0,.int .i64 0] 79 (0,0)):=⟨_,rfl⟩
 have HW:=qa.mk hW1
 have Ri:Below W.heap.size W W1:=by rw [hW1];exact ia (ia (Below.refl _ _) _) _
 have hz:W1.heap.size=W.heap.size + 2:=by rw [hW1];simp
 have We:=qa.mk (Wa h2 Ri)
 have nr:=(ga We.out 0).trans rfl
 have hk1:=(ga We.out 1).trans rfl
 have Jr:=aa We.out 1
 have oh:W1.heap[W.heap.size + 1]? = some (.cells #[.int .i64 0,.int .i64 0] 79 (0,0)):=by rw [hW1];have:=Yc (W.alloc (.cells #[.int .i64 o,.int .i64 d,.int .i64 a,.int .i64 b,.int .i64 c,.int .i64 n,.string t] 70 (0,0))) (.cells #[.int .i64 0,.int .i64 0] 79 (0,0));simpa using this
 have Af:W1.heap[W.heap.size]? = some (.cells #[.int .i64 o,.int .i64 d,.int .i64 a,.int .i64 b,.int .i64 c,.int .i64 n,.string t] 70 (0,0)):=by rw [hW1];exact Da (Yc _ _) _
 have HR:=qa.mk oh
 have HX:=qa.mk Af
 have hr0:=(ga oh 0).trans rfl
 have En:=(ga oh 1).trans rfl
 have Fj:=aa oh 0
 have Ej:=aa oh 1
 have hx0:=(ga Af 0).trans rfl
 have hx1:=(ga Af 1).trans rfl
 have Gk:=(ga Af 2).trans rfl
 have Fk:=(ga Af 3).trans rfl
 have qm:=(ga Af 4).trans rfl
 have vp:=(ga Af 5).trans rfl
 have om:=(ga Af 6).trans rfl
 have HB:=qa.mk Ri
 have Uw:kb ≠ W1.heap.size:=by omega
 have Tw:kb ≠ W1.heap.size + 1:=by omega
 have hw1:W.heap.size ≠ W1.heap.size:=by omega
 have XH:W.heap.size ≠ W1.heap.size + 1:=by omega
 have WH:W.heap.size + 1 ≠ W1.heap.size:=by omega
 have VH:W.heap.size + 1 ≠ W1.heap.size + 1:=by omega
 have HZ:=qa.mk hz
 clear hW1 oh Af h2 h3 Ri hz
 go_enter Try.func92,Try.ntmps92
 go_upto_region 1 with (fail)
 rw [← HW.out]
 clear HW
 go_wp2
 all_goals
  have hz:=HZ.out
  refine bodyPost_ret (results_cell_row rfl _ _ (W.heap.size + 1) 79 #[.int .i64 nx,.int .i64 0] (0,0) _ rfl ?_ Try.underlying79 rfl (by kernel_rfl)) rfl ?_
  ·exact Db (cs:=#[.int .i64 nx,.int .i64 0]) (Db (cs:=#[.int .i64 0,.int .i64 0]) (Rb (by (with_reducible repeat (first|refine Ea ?_ _|refine Ga ?_|refine Da ?_ _));exact HR.out) (by simp;omega) _) 0 _ rfl) 1 _ rfl
  ·exact ⟨rfl,Jn hB kB.out HN.out (by (with_reducible repeat (first|refine Kept.drewN ?_ _|refine Kept.drew ?_|refine Kept.alloc ?_ _));exact Kept.vk HB.out _) (by (with_reducible repeat (first|refine Ea ?_ _|refine Ga ?_|refine Da ?_ _));exact We.out) (by repeat (first|exact HB.out.mono (Nat.le_of_lt hlt)|apply ja|apply za|refine Below.alloc ?_ (by simp;omega) _)) (Nat.le_succ _) hlt⟩
set_option maxHeartbeats 2000000 in
set_option maxRecDepth 100000 in
theorem pH (hk:KV W B kb v xs nx) (d a b c n:Int) (t:ByteArray) (ha0:0 ≤ a) (ha1:a < xs.length) (hb0:0 ≤ b) (hb1:b < xs.length) (hA:((Ta xs a).f0 == -1)=true) (sQ:((Ta xs b).f0 == -1)=true) :
  Calls Try.prog 92 #[.pointer (some ⟨kb,0,none⟩),.agg #[.int .i64 2,.int .i64 d,.int .i64 a,.int .i64 b,.int .i64 c,.int .i64 n,.string t]] W fun e w'=>e = .returned (.agg #[.int .i64 (-1),.int .i64 (YA t (Ta xs a).f1 (Ta xs b).f1)])∧Below W.heap.size W w':=by
 obtain ⟨hB,h2,h3⟩:=hk
 have kB:=qa.mk h2
 have hlt:=Ac h2
 obtain ⟨W1,hW1⟩:∃ W1,W1=(W.alloc (.cells #[.int .i64 2,.int .i64 d,.int .i64 a,.int .i64 b,.int .i64 c,.int .i64 n,.string t] 70 (0,0))).alloc (.cells #[.int .i64 0,.int .i64 0] 79 (0,0)):=⟨_,rfl⟩
 have HW:=qa.mk hW1
 have Ri:Below W.heap.size W W1:=by rw [hW1];exact ia (ia (Below.refl _ _) _) _
 have hz:W1.heap.size=W.heap.size + 2:=by rw [hW1];simp
 have We:=qa.mk (Wa h2 Ri)
 have nr:=(ga We.out 0).trans rfl
 have hk1:=(ga We.out 1).trans rfl
 have Jr:=aa We.out 1
 have oh:W1.heap[W.heap.size + 1]? = some (.cells #[.int .i64 0,.int .i64 0] 79 (0,0)):=by rw [hW1];have:=Yc (W.alloc (.cells #[.int .i64 2,.int .i64 d,.int .i64 a,.int .i64 b,.int .i64 c,.int .i64 n,.string t] 70 (0,0))) (.cells #[.int .i64 0,.int .i64 0] 79 (0,0));simpa using this
 have Af:W1.heap[W.heap.size]? = some (.cells #[.int .i64 2,.int .i64 d,.int .i64 a,.int .i64 b,.int .i64 c,.int .i64 n,.string t] 70 (0,0)):=by rw [hW1];exact Da (Yc _ _) _
 have HR:=qa.mk oh
 have HX:=qa.mk Af
 have hr0:=(ga oh 0).trans rfl
 have En:=(ga oh 1).trans rfl
 have Fj:=aa oh 0
 have Ej:=aa oh 1
 have hx0:=(ga Af 0).trans rfl
 have hx1:=(ga Af 1).trans rfl
 have Gk:=(ga Af 2).trans rfl
 have Fk:=(ga Af 3).trans rfl
 have qm:=(ga Af 4).trans rfl
 have vp:=(ga Af 5).trans rfl
 have om:=(ga Af 6).trans rfl
 have HB:=qa.mk Ri
 obtain ⟨A,cc,rfl,_,hC⟩:=Kd.Kh (Kd.Ge h3 Ri)
 have dD:=hC.2.1
 obtain ⟨ad,e1,Lg,Kg⟩:=Bh hC a ha0 ha1
 cases e1
 obtain ⟨BO,e1,Wg,Vg⟩:=Bh hC b hb0 hb1
 cases e1
 obtain ⟨g,rfl⟩:=Kd.jm h3
 have Ly:g < W.heap.size:=by
  obtain ⟨inner,hi⟩:=Kd.Pk h3
  exact Lk hi g (by simp [Value.ownBlock])
 have FA:g ≠ W1.heap.size:=by omega
 have dH:g ≠ W1.heap.size + 1:=by omega
 simp only [add_plain] at Lg Kg Wg Vg
 clear hC
 have Uw:kb ≠ W1.heap.size:=by omega
 have Tw:kb ≠ W1.heap.size + 1:=by omega
 have hw1:W.heap.size ≠ W1.heap.size:=by omega
 have XH:W.heap.size ≠ W1.heap.size + 1:=by omega
 have WH:W.heap.size + 1 ≠ W1.heap.size:=by omega
 have VH:W.heap.size + 1 ≠ W1.heap.size + 1:=by omega
 have HZ:=qa.mk hz
 clear hW1 oh Af h2 h3 Ri hz
 go_enter Try.func92,Try.ntmps92
 go_upto_region 1 with (fail)
 rw [← HW.out]
 clear HW
 go_upto_region 7 with (fail)
 have Gd:=qa.mk (za (Below.refl W1.heap.size W1))
 have hd1:W1.cell? ⟨kb,0,none⟩=some (.slice (some ⟨g,0,none⟩) xs.length cc):=nr
 have Cp:W1.cell? ⟨W.heap.size,2,none⟩=some (.int .i64 a):=Gk
 have hd3:W1.cell? ⟨W.heap.size,3,none⟩=some (.int .i64 b):=Fk
 have HG:=qa.mk (fun (W3:World) (h:Below W1.heap.size W1 W3)=>(⟨Ab h hd1,Ab h Cp,Ab h hd3,Ab h Lg,Ab h Kg,Ab h Wg,Ab h Vg⟩:W3.cell? ⟨kb,0,none⟩=some (.slice (some ⟨g,0,none⟩) xs.length cc)∧W3.cell? ⟨W.heap.size,2,none⟩=some (.int .i64 a)∧W3.cell? ⟨W.heap.size,3,none⟩=some (.int .i64 b)∧W3.cell? ⟨g,a.toNat * 2,none⟩=some (.int .i64 (Ta xs a).f0)∧W3.cell? ⟨g,a.toNat * 2 + 1,none⟩=some (.int .i64 (Ta xs a).f1)∧W3.cell? ⟨g,b.toNat * 2,none⟩=some (.int .i64 (Ta xs b).f0)∧W3.cell? ⟨g,b.toNat * 2 + 1,none⟩=some (.int .i64 (Ta xs b).f1)))
 refine Pg (n:=20) (S:=fun w'=>w'.cell? ⟨kb,0,none⟩=some (.slice (some ⟨g,0,none⟩) xs.length cc)∧w'.cell? ⟨W.heap.size,2,none⟩=some (.int .i64 a)∧w'.cell? ⟨W.heap.size,3,none⟩=some (.int .i64 b)∧w'.cell? ⟨g,a.toNat * 2,none⟩=some (.int .i64 (Ta xs a).f0)∧w'.cell? ⟨g,a.toNat * 2 + 1,none⟩=some (.int .i64 (Ta xs a).f1)∧w'.cell? ⟨g,b.toNat * 2,none⟩=some (.int .i64 (Ta xs b).f0)∧w'.cell? ⟨g,b.toNat * 2 + 1,none⟩=some (.int .i64 (Ta xs b).f1)) (ds:=[19]) #[false,false,false,false,false,false,false,false,false,false,false,false,false,false,false,false,false,false,false,false] (by kernel_rfl) rfl rfl ⟨hd1,Cp,hd3,Lg,Kg,Wg,Vg⟩ (fun hHeld=>?_)
 refine Nb (i:=0) (N:=some 26) (v:=?_) (a':=?_) #[true,false,false,false,false,false,false,false,false,false,false,false,false,false,false,false,false,false,false,false] rfl rfl (by kernel_rfl) (fun _ _ _ h=>h) (Or.inl ⟨by rfl,?_⟩) ?_ ?_
 rotate_left
 ·intro w'
  go_simp
  with_reducible rfl
 rotate_left
 ·simp only [Act.put,List.setIfInBounds_toArray,List.set_cons_zero,List.set_cons_succ,Za,gb]
  rfl
 refine Nb (i:=1) (N:=some 27) (v:=?_) (a':=?_) #[true,true,false,false,false,false,false,false,false,false,false,false,false,false,false,false,false,false,false,false] rfl rfl (by kernel_rfl) (fun _ _ _ h=>h) (Or.inl ⟨by rfl,?_⟩) ?_ ?_
 rotate_left
 ·intro w'
  go_simp
  with_reducible rfl
 rotate_left
 ·simp only [Act.put,List.setIfInBounds_toArray,List.set_cons_zero,List.set_cons_succ,Za,gb]
  rfl
 refine Nb (i:=2) (N:=some 28) (v:=?_) (a':=?_) #[true,true,true,false,false,false,false,false,false,false,false,false,false,false,false,false,false,false,false,false] rfl rfl (by kernel_rfl) (fun _ _ _ h=>h) (Or.inl ⟨by rfl,?_⟩) ?_ ?_
 rotate_left
 ·intro w'
  go_simp
  with_reducible rfl
 rotate_left
 ·simp only [Act.put,List.setIfInBounds_toArray,List.set_cons_zero,List.set_cons_succ,Za,gb]
  rfl
 refine Nb (i:=4) (N:=some 30) (v:=?_) (a':=?_) #[true,true,true,false,true,false,false,false,false,false,false,false,false,false,false,false,false,false,false,false] rfl rfl (by kernel_rfl) (fun _ _ _ h=>h) (Or.inl ⟨by rfl,?_⟩) ?_ ?_
 rotate_left
 ·intro w'
  go_simp
  with_reducible rfl
 rotate_left
 ·simp only [Act.put,List.setIfInBounds_toArray,List.set_cons_zero,List.set_cons_succ,Za,gb]
  rfl
 refine Nb (i:=8) (N:=some 34) (v:=?_) (a':=?_) #[true,true,true,false,true,false,false,false,true,false,false,false,false,false,false,false,false,false,false,false] rfl rfl (by kernel_rfl) (fun _ _ _ h=>h) (Or.inl ⟨by rfl,?_⟩) ?_ ?_
 rotate_left
 ·intro w'
  go_simp
  with_reducible rfl
 rotate_left
 ·simp only [Act.put,List.setIfInBounds_toArray,List.set_cons_zero,List.set_cons_succ,Za,gb]
  rfl
 refine Nb (i:=9) (N:=some 35) (v:=?_) (a':=?_) #[true,true,true,false,true,false,false,false,true,true,false,false,false,false,false,false,false,false,false,false] rfl rfl (by kernel_rfl) (fun _ _ _ h=>h) (Or.inl ⟨by rfl,?_⟩) ?_ ?_
 rotate_left
 ·intro w'
  go_simp
  with_reducible rfl
 rotate_left
 ·simp only [Act.put,List.setIfInBounds_toArray,List.set_cons_zero,List.set_cons_succ,Za,gb]
  rfl
 refine Nb (i:=10) (N:=some 36) (v:=?_) (a':=?_) #[true,true,true,false,true,false,false,false,true,true,true,false,false,false,false,false,false,false,false,false] rfl rfl (by kernel_rfl) (fun _ _ _ h=>h) (Or.inl ⟨by rfl,?_⟩) ?_ ?_
 rotate_left
 ·intro w'
  go_simp
  with_reducible rfl
 rotate_left
 ·simp only [Act.put,List.setIfInBounds_toArray,List.set_cons_zero,List.set_cons_succ,Za,gb]
  rfl
 refine Nb (i:=12) (N:=some 38) (v:=?_) (a':=?_) #[true,true,true,false,true,false,false,false,true,true,true,false,true,false,false,false,false,false,false,false] rfl rfl (by kernel_rfl) (fun _ _ _ h=>h) (Or.inl ⟨by rfl,?_⟩) ?_ ?_
 rotate_left
 ·intro w'
  go_simp
  with_reducible rfl
 rotate_left
 ·simp only [Act.put,List.setIfInBounds_toArray,List.set_cons_zero,List.set_cons_succ,Za,gb]
  rfl
 refine Jd (i:=3) (N:=some 29) (v:=?_) (a':=?_) #[true,true,true,true,true,false,false,false,true,true,true,false,true,false,false,false,false,false,false,false] rfl rfl (by kernel_rfl) (fun _ _ _ h=>h) (Or.inl ⟨by rfl,?_⟩) hHeld ?_ ?_
 rotate_left
 ·rintro w' ⟨s0,s1,s2,s3,s4,s5,s6⟩
  go_simp
  with_reducible rfl
 rotate_left
 ·simp only [Act.put,List.setIfInBounds_toArray,List.set_cons_zero,List.set_cons_succ,Za,gb]
  rfl
 refine Jd (i:=5) (N:=some 31) (v:=?_) (a':=?_) #[true,true,true,true,true,true,false,false,true,true,true,false,true,false,false,false,false,false,false,false] rfl rfl (by kernel_rfl) (fun _ _ _ h=>h) (Or.inl ⟨by rfl,?_⟩) hHeld ?_ ?_
 rotate_left
 ·rintro w' ⟨s0,s1,s2,s3,s4,s5,s6⟩
  go_simp
  with_reducible rfl
 rotate_left
 ·simp only [Act.put,List.setIfInBounds_toArray,List.set_cons_zero,List.set_cons_succ,Za,gb]
  rfl
 refine Nb (i:=6) (N:=some 32) (v:=?_) (a':=?_) #[true,true,true,true,true,true,true,false,true,true,true,false,true,false,false,false,false,false,false,false] rfl rfl (by kernel_rfl) (fun _ _ _ h=>h) (Or.inl ⟨by rfl,?_⟩) ?_ ?_
 rotate_left
 ·intro w'
  go_simp
  with_reducible rfl
 rotate_left
 ·simp only [Act.put,List.setIfInBounds_toArray,List.set_cons_zero,List.set_cons_succ,Za,gb]
  rfl
 refine Jd (i:=7) (N:=some 33) (v:=?_) (a':=?_) #[true,true,true,true,true,true,true,true,true,true,true,false,true,false,false,false,false,false,false,false] rfl rfl (by kernel_rfl) (fun _ _ _ h=>h) (Or.inl ⟨by rfl,?_⟩) hHeld ?_ ?_
 rotate_left
 ·rintro w' ⟨s0,s1,s2,s3,s4,s5,s6⟩
  go_simp
  with_reducible rfl
 rotate_left
 ·simp only [Act.put,List.setIfInBounds_toArray,List.set_cons_zero,List.set_cons_succ,Za,gb]
  rfl
 refine Jd (i:=11) (N:=some 37) (v:=?_) (a':=?_) #[true,true,true,true,true,true,true,true,true,true,true,true,true,false,false,false,false,false,false,false] rfl rfl (by kernel_rfl) (fun _ _ _ h=>h) (Or.inl ⟨by rfl,?_⟩) hHeld ?_ ?_
 rotate_left
 ·rintro w' ⟨s0,s1,s2,s3,s4,s5,s6⟩
  go_simp
  with_reducible rfl
 rotate_left
 ·simp only [Act.put,List.setIfInBounds_toArray,List.set_cons_zero,List.set_cons_succ,Za,gb]
  rfl
 refine Jd (i:=13) (N:=some 39) (v:=?_) (a':=?_) #[true,true,true,true,true,true,true,true,true,true,true,true,true,true,false,false,false,false,false,false] rfl rfl (by kernel_rfl) (fun _ _ _ h=>h) (Or.inl ⟨by rfl,?_⟩) hHeld ?_ ?_
 rotate_left
 ·rintro w' ⟨s0,s1,s2,s3,s4,s5,s6⟩
  go_simp
  with_reducible rfl
 rotate_left
 ·simp only [Act.put,List.setIfInBounds_toArray,List.set_cons_zero,List.set_cons_succ,Za,gb]
  rfl
 refine Nb (i:=14) (N:=some 40) (v:=?_) (a':=?_) #[true,true,true,true,true,true,true,true,true,true,true,true,true,true,true,false,false,false,false,false] rfl rfl (by kernel_rfl) (fun _ _ _ h=>h) (Or.inl ⟨by rfl,?_⟩) ?_ ?_
 rotate_left
 ·intro w'
  go_simp
  with_reducible rfl
 rotate_left
 ·simp only [Act.put,List.setIfInBounds_toArray,List.set_cons_zero,List.set_cons_succ,Za,gb]
  rfl
 refine Jd (i:=15) (N:=some 41) (v:=?_) (a':=?_) #[true,true,true,true,true,true,true,true,true,true,true,true,true,true,true,true,false,false,false,false] rfl rfl (by kernel_rfl) (fun _ _ _ h=>h) (Or.inl ⟨by rfl,?_⟩) hHeld ?_ ?_
 rotate_left
 ·rintro w' ⟨s0,s1,s2,s3,s4,s5,s6⟩
  go_simp
  with_reducible rfl
 rotate_left
 ·simp only [Act.put,List.setIfInBounds_toArray,List.set_cons_zero,List.set_cons_succ,Za,gb]
  rfl
 refine Gr (σ:=Nat × Nat) 2 #[true,true,true,true,true,true,true,true,true,true,true,true,true,true,true,true,true,true,false,false] (fun s=>[(5,.pointer (some ⟨s.1,0,none⟩)),(6,.pointer (some ⟨s.2,0,none⟩))]) (fun s w'=>w' = (W1.drew.alloc (.cells #[.int .i64 0,.int .i64 0] 79 (0,0))).alloc (.cells #[.int .i64 0,.int .i64 0] 79 (0,0))∧((s.1=W1.heap.size∧s.2=W1.heap.size + 1) ∨ (s.1=W1.heap.size + 1∧s.2=W1.heap.size))) ?_ ?_
 rotate_left
 ·intro yh
  refine uy (i:=16) (j:=17) (Ni:=some 5) (Nj:=some 6) #[true,true,true,true,true,true,true,true,true,true,true,true,true,true,true,true,true,false,false,false] #[true,true,true,true,true,true,true,true,true,true,true,true,true,true,true,true,false,true,false,false] rfl rfl rfl rfl (by kernel_rfl) (by decide) (by decide) (fun K hK=>?_) (fun K hK=>?_)
  ·skip
   refine jf (w1:=?_) (v:=?_) (by rfl) rfl ?_ ?_
   rotate_left 2
   ·go_simp
    constructor
    ·rfl
    ·rfl
   refine hK.out _ _ ⟨(HG.out _ (ia Gd.out _)).1,(HG.out _ (ia Gd.out _)).2.1,(HG.out _ (ia Gd.out _)).2.2.1,(HG.out _ (ia Gd.out _)).2.2.2.1,(HG.out _ (ia Gd.out _)).2.2.2.2.1,(HG.out _ (ia Gd.out _)).2.2.2.2.2.1,(HG.out _ (ia Gd.out _)).2.2.2.2.2.2⟩ (fun hHeld=>?_)
   clear hK K
   refine Xd (a':=?_) ?_ ?_
   rotate_left
   ·show Act.put _ (some 5) _=_
    simp only [Act.put,List.setIfInBounds_toArray,List.set_cons_zero,List.set_cons_succ,Za,gb]
    rfl
   refine gh (i:=17) (N:=some 6) #[true,true,true,true,true,true,true,true,true,true,true,true,true,true,true,true,true,true,false,false] rfl rfl (by kernel_rfl) (by decide) (fun K hK=>?_)
   refine jf (w1:=?_) (v:=?_) (by rfl) rfl ?_ ?_
   rotate_left 2
   ·go_simp
    constructor
    ·rfl
    ·rfl
   refine hK.out _ _ ⟨(HG.out _ (ia (ia Gd.out _) _)).1,(HG.out _ (ia (ia Gd.out _) _)).2.1,(HG.out _ (ia (ia Gd.out _) _)).2.2.1,(HG.out _ (ia (ia Gd.out _) _)).2.2.2.1,(HG.out _ (ia (ia Gd.out _) _)).2.2.2.2.1,(HG.out _ (ia (ia Gd.out _) _)).2.2.2.2.2.1,(HG.out _ (ia (ia Gd.out _) _)).2.2.2.2.2.2⟩ (fun hHeld=>?_)
   clear hK K
   refine Xd (a':=?_) ?_ ?_
   rotate_left
   ·show Act.put _ (some 6) _=_
    simp only [Act.put,List.setIfInBounds_toArray,List.set_cons_zero,List.set_cons_succ,Za,gb]
    rfl
   exact Xd (by simp only [Kf,Act.put,List.setIfInBounds_toArray,List.set_cons_zero,List.set_cons_succ]) (yh (W1.heap.size,W1.heap.size + 1) _ ⟨rfl,Or.inl ⟨rfl,rfl⟩⟩)
  ·skip
   refine jf (w1:=?_) (v:=?_) (by rfl) rfl ?_ ?_
   rotate_left 2
   ·go_simp
    constructor
    ·rfl
    ·rfl
   refine hK.out _ _ ⟨(HG.out _ (ia Gd.out _)).1,(HG.out _ (ia Gd.out _)).2.1,(HG.out _ (ia Gd.out _)).2.2.1,(HG.out _ (ia Gd.out _)).2.2.2.1,(HG.out _ (ia Gd.out _)).2.2.2.2.1,(HG.out _ (ia Gd.out _)).2.2.2.2.2.1,(HG.out _ (ia Gd.out _)).2.2.2.2.2.2⟩ (fun hHeld=>?_)
   clear hK K
   refine Xd (a':=?_) ?_ ?_
   rotate_left
   ·show Act.put _ (some 6) _=_
    simp only [Act.put,List.setIfInBounds_toArray,List.set_cons_zero,List.set_cons_succ,Za,gb]
    rfl
   refine gh (i:=16) (N:=some 5) #[true,true,true,true,true,true,true,true,true,true,true,true,true,true,true,true,true,true,false,false] rfl rfl (by kernel_rfl) (by decide) (fun K hK=>?_)
   refine jf (w1:=?_) (v:=?_) (by rfl) rfl ?_ ?_
   rotate_left 2
   ·go_simp
    constructor
    ·rfl
    ·rfl
   refine hK.out _ _ ⟨(HG.out _ (ia (ia Gd.out _) _)).1,(HG.out _ (ia (ia Gd.out _) _)).2.1,(HG.out _ (ia (ia Gd.out _) _)).2.2.1,(HG.out _ (ia (ia Gd.out _) _)).2.2.2.1,(HG.out _ (ia (ia Gd.out _) _)).2.2.2.2.1,(HG.out _ (ia (ia Gd.out _) _)).2.2.2.2.2.1,(HG.out _ (ia (ia Gd.out _) _)).2.2.2.2.2.2⟩ (fun hHeld=>?_)
   clear hK K
   refine Xd (a':=?_) ?_ ?_
   rotate_left
   ·show Act.put _ (some 5) _=_
    simp only [Act.put,List.setIfInBounds_toArray,List.set_cons_zero,List.set_cons_succ,Za,gb]
    rfl
   exact Xd (by simp only [Kf,Act.put,List.setIfInBounds_toArray,List.set_cons_zero,List.set_cons_succ]) (yh (W1.heap.size + 1,W1.heap.size) _ ⟨rfl,Or.inr ⟨rfl,rfl⟩⟩)
 rintro ⟨s1,s2⟩ W3 ⟨Ak,hs⟩
 simp only at hs
 have hne:s1 ≠ s2:=by omega
 have zk:W1.heap.size ≤ s1:=by omega
 have xk:W1.heap.size ≤ s2:=by omega
 have Hp:Below W1.heap.size W1 W3:=by rw [Ak];exact ia (ia Gd.out _) _
 have AA:W3.heap.size=W1.heap.size + 2:=by rw [Ak];simp
 have qn:W3.heap[s1]? = some (.cells #[.int .i64 0,.int .i64 0] 79 (0,0)):=by
  rw [Ak]
  rcases hs with ⟨e,_⟩|⟨e,_⟩
  ·rw [e];exact Da (Yc W1.drew _) _
  ·rw [e];have:=Yc (W1.drew.alloc (.cells #[.int .i64 0,.int .i64 0] 79 (0,0))) (.cells #[.int .i64 0,.int .i64 0] 79 (0,0));simpa using this
 have hn2:W3.heap[s2]? = some (.cells #[.int .i64 0,.int .i64 0] 79 (0,0)):=by
  rw [Ak]
  rcases hs with ⟨_,e⟩|⟨_,e⟩
  ·rw [e];have:=Yc (W1.drew.alloc (.cells #[.int .i64 0,.int .i64 0] 79 (0,0))) (.cells #[.int .i64 0,.int .i64 0] 79 (0,0));simpa using this
  ·rw [e];exact Da (Yc W1.drew _) _
 clear Ak hs
 have tu:=qa.mk Hp
 have hHeld:=HG.out W3 Hp
 have Yi:=qa.mk qn
 have ru:=qa.mk hn2
 clear Hp qn hn2
 refine Xd (a':=?_) ?_ ?_
 rotate_left
 ·simp only [Kf,Act.put,List.setIfInBounds_toArray,List.set_cons_zero,List.set_cons_succ]
  rfl
 refine gh (i:=18) (N:=none) #[true,true,true,true,true,true,true,true,true,true,true,true,true,true,true,true,true,true,true,false] rfl rfl (by kernel_rfl) (by decide) (fun K hK=>?_)
 have Gp:=(ga Yi.out 0).trans rfl
 have Fp:=(ga Yi.out 1).trans rfl
 have Bp:=aa Yi.out 0
 have Ap:=aa Yi.out 1
 refine si (w1:=?_) (by rfl) rfl ?_ ?_
 rotate_left
 ·go_simp
  rfl
 have Og:=qa.mk (show Below W1.heap.size W1 ((W3.setCell ⟨s1,0,none⟩ (.int .i64 (Ta xs a).f0)).setCell ⟨s1,1,none⟩ (.int .i64 (Ta xs a).f1)) from (tu.out.setCell zk _).setCell zk _)
 have su:=qa.mk (Db (cs:=#[.int .i64 (Ta xs a).f0,.int .i64 0]) (Db (cs:=#[.int .i64 0,.int .i64 0]) Yi.out 0 (.int .i64 (Ta xs a).f0) rfl) 1 (.int .i64 (Ta xs a).f1) rfl)
 have Zi:=qa.mk (Rb (p:=⟨s1,1,none⟩) (Rb (p:=⟨s1,0,none⟩) ru.out (Ne.symm hne) (.int .i64 (Ta xs a).f0)) (Ne.symm hne) (.int .i64 (Ta xs a).f1))
 clear Gp Fp Bp Ap
 refine hK.out _ _ ⟨(HG.out _ Og.out).1,(HG.out _ Og.out).2.1,(HG.out _ Og.out).2.2.1,(HG.out _ Og.out).2.2.2.1,(HG.out _ Og.out).2.2.2.2.1,(HG.out _ Og.out).2.2.2.2.2.1,(HG.out _ Og.out).2.2.2.2.2.2⟩ (fun hHeld=>?_)
 clear hK K
 refine Wq (i:=19) (N:=none) #[true,true,true,true,true,true,true,true,true,true,true,true,true,true,true,true,true,true,true,true] rfl rfl (by kernel_rfl) (by decide) (fun K hK=>?_)
 have Ep:=(ga Zi.out 0).trans rfl
 have Dp:=(ga Zi.out 1).trans rfl
 have zp:=aa Zi.out 0
 have yp:=aa Zi.out 1
 refine si (w1:=?_) (by rfl) rfl ?_ ?_
 rotate_left
 ·go_simp
  rfl
 refine hK.out _ _ ?_
 clear hK K
 refine Yh (by kernel_rfl) ?_
 obtain ⟨W5,hW5⟩:∃ W5,W5=(((W3.setCell ⟨s1,0,none⟩ (.int .i64 (Ta xs a).f0)).setCell ⟨s1,1,none⟩ (.int .i64 (Ta xs a).f1)).setCell ⟨s2,0,none⟩ (.int .i64 (Ta xs b).f0)).setCell ⟨s2,1,none⟩ (.int .i64 (Ta xs b).f1):=⟨_,rfl⟩
 rw [← hW5]
 have Ti:Below W1.heap.size W1 W5:=by rw [hW5];exact (Og.out.setCell xk _).setCell xk _
 have ju:W5.heap[s1]? = some (.cells #[.int .i64 (Ta xs a).f0,.int .i64 (Ta xs a).f1] 79 (0,0)):=by rw [hW5];exact Rb (p:=⟨s2,1,none⟩) (Rb (p:=⟨s2,0,none⟩) su.out hne _) hne _
 have hm2:W5.heap[s2]? = some (.cells #[.int .i64 (Ta xs b).f0,.int .i64 (Ta xs b).f1] 79 (0,0)):=by rw [hW5];exact Db (cs:=#[.int .i64 (Ta xs b).f0,.int .i64 0]) (Db (cs:=#[.int .i64 0,.int .i64 0]) Zi.out 0 _ rfl) 1 _ rfl
 clear hW5 su Zi Yi ru Ep Dp zp yp Og tu hd1 Cp hd3 Lg Kg Wg Vg hx0 hx1 Gk Fk qm vp om hr0 En Fj Ej nr hk1 Jr HG Gd AA
 have HR:=qa.mk (Wa HR.out Ti)
 have HX:=qa.mk (Wa HX.out Ti)
 have We:=qa.mk (Wa We.out Ti)
 have DA:=Ti.size
 have HB:=qa.mk (Pa HB.out Ti)
 clear Ti
 have hk1:=(ga We.out 1).trans rfl
 have Jr:=aa We.out 1
 have hr0:=(ga HR.out 0).trans rfl
 have En:=(ga HR.out 1).trans rfl
 have Fj:=aa HR.out 0
 have Ej:=aa HR.out 1
 have om:=(ga HX.out 6).trans rfl
 have KA:=(ga ju 0).trans rfl
 have JA:=(ga ju 1).trans rfl
 have IA:=(ga hm2 0).trans rfl
 have GA:=(ga hm2 1).trans rfl
 go_wp2_with (first|(go_at_call 119;(with_reducible refine (Il _ _ _ _).mono ?_);rintro e w1 ⟨rfl,⟨k1,rfl⟩⟩))
 all_goals
  have hz:=HZ.out
  refine bodyPost_ret (results_cell_row rfl _ _ (W.heap.size + 1) 79 #[.int .i64 (-1),.int .i64 (YA t (Ta xs a).f1 (Ta xs b).f1)] (0,0) _ rfl ?_ Try.underlying79 rfl (by kernel_rfl)) rfl ?_
  ·exact Db (cs:=#[.int .i64 (-1),.int .i64 0]) (Db (cs:=#[.int .i64 0,.int .i64 0]) (by (with_reducible repeat (first|refine Ea ?_ _|refine Ga ?_|refine Da ?_ _));exact HR.out) 0 _ rfl) 1 _ rfl
  ·exact ⟨rfl,by repeat (first|exact HB.out|apply ja|apply za|apply ia|refine Aa ?_ (by first|omega|(simp;done)|(simp;omega)))⟩
set_option maxHeartbeats 2000000 in
set_option maxRecDepth 100000 in
theorem oH (hk:KV W B kb v xs nx) (d a b c n:Int) (t:ByteArray) (ha0:0 ≤ a) (ha1:a < xs.length) (hb0:0 ≤ b) (hb1:b < xs.length) (hA:((Ta xs a).f0 == -1)=true) (sQ:((Ta xs b).f0 == -1)=false) (tQ:(t.toList == [43])=true) :
  Calls Try.prog 92 #[.pointer (some ⟨kb,0,none⟩),.agg #[.int .i64 2,.int .i64 d,.int .i64 a,.int .i64 b,.int .i64 c,.int .i64 n,.string t]] W fun e w'=>e = .returned (.agg #[.int .i64 (Ta xs b).f0,.int .i64 (wrap64 ((Ta xs a).f1 + (Ta xs b).f1))])∧Below W.heap.size W w':=by
 obtain ⟨hB,h2,h3⟩:=hk
 have kB:=qa.mk h2
 have hlt:=Ac h2
 obtain ⟨W1,hW1⟩:∃ W1,W1=(W.alloc (.cells #[.int .i64 2,.int .i64 d,.int .i64 a,.int .i64 b,.int .i64 c,.int .i64 n,.string t] 70 (0,0))).alloc (.cells #[.int .i64 0,.int .i64 0] 79 (0,0)):=⟨_,rfl⟩
 have HW:=qa.mk hW1
 have Ri:Below W.heap.size W W1:=by rw [hW1];exact ia (ia (Below.refl _ _) _) _
 have hz:W1.heap.size=W.heap.size + 2:=by rw [hW1];simp
 have We:=qa.mk (Wa h2 Ri)
 have nr:=(ga We.out 0).trans rfl
 have hk1:=(ga We.out 1).trans rfl
 have Jr:=aa We.out 1
 have oh:W1.heap[W.heap.size + 1]? = some (.cells #[.int .i64 0,.int .i64 0] 79 (0,0)):=by rw [hW1];have:=Yc (W.alloc (.cells #[.int .i64 2,.int .i64 d,.int .i64 a,.int .i64 b,.int .i64 c,.int .i64 n,.string t] 70 (0,0))) (.cells #[.int .i64 0,.int .i64 0] 79 (0,0));simpa using this
 have Af:W1.heap[W.heap.size]? = some (.cells #[.int .i64 2,.int .i64 d,.int .i64 a,.int .i64 b,.int .i64 c,.int .i64 n,.string t] 70 (0,0)):=by rw [hW1];exact Da (Yc _ _) _
 have HR:=qa.mk oh
 have HX:=qa.mk Af
 have hr0:=(ga oh 0).trans rfl
 have En:=(ga oh 1).trans rfl
 have Fj:=aa oh 0
 have Ej:=aa oh 1
 have hx0:=(ga Af 0).trans rfl
 have hx1:=(ga Af 1).trans rfl
 have Gk:=(ga Af 2).trans rfl
 have Fk:=(ga Af 3).trans rfl
 have qm:=(ga Af 4).trans rfl
 have vp:=(ga Af 5).trans rfl
 have om:=(ga Af 6).trans rfl
 have HB:=qa.mk Ri
 obtain ⟨A,cc,rfl,_,hC⟩:=Kd.Kh (Kd.Ge h3 Ri)
 have dD:=hC.2.1
 obtain ⟨ad,e1,Lg,Kg⟩:=Bh hC a ha0 ha1
 cases e1
 obtain ⟨BO,e1,Wg,Vg⟩:=Bh hC b hb0 hb1
 cases e1
 obtain ⟨g,rfl⟩:=Kd.jm h3
 have Ly:g < W.heap.size:=by
  obtain ⟨inner,hi⟩:=Kd.Pk h3
  exact Lk hi g (by simp [Value.ownBlock])
 have FA:g ≠ W1.heap.size:=by omega
 have dH:g ≠ W1.heap.size + 1:=by omega
 simp only [add_plain] at Lg Kg Wg Vg
 clear hC
 have Uw:kb ≠ W1.heap.size:=by omega
 have Tw:kb ≠ W1.heap.size + 1:=by omega
 have hw1:W.heap.size ≠ W1.heap.size:=by omega
 have XH:W.heap.size ≠ W1.heap.size + 1:=by omega
 have WH:W.heap.size + 1 ≠ W1.heap.size:=by omega
 have VH:W.heap.size + 1 ≠ W1.heap.size + 1:=by omega
 have HZ:=qa.mk hz
 clear hW1 oh Af h2 h3 Ri hz
 go_enter Try.func92,Try.ntmps92
 go_upto_region 1 with (fail)
 rw [← HW.out]
 clear HW
 go_upto_region 7 with (fail)
 have Gd:=qa.mk (za (Below.refl W1.heap.size W1))
 have hd1:W1.cell? ⟨kb,0,none⟩=some (.slice (some ⟨g,0,none⟩) xs.length cc):=nr
 have Cp:W1.cell? ⟨W.heap.size,2,none⟩=some (.int .i64 a):=Gk
 have hd3:W1.cell? ⟨W.heap.size,3,none⟩=some (.int .i64 b):=Fk
 have HG:=qa.mk (fun (W3:World) (h:Below W1.heap.size W1 W3)=>(⟨Ab h hd1,Ab h Cp,Ab h hd3,Ab h Lg,Ab h Kg,Ab h Wg,Ab h Vg⟩:W3.cell? ⟨kb,0,none⟩=some (.slice (some ⟨g,0,none⟩) xs.length cc)∧W3.cell? ⟨W.heap.size,2,none⟩=some (.int .i64 a)∧W3.cell? ⟨W.heap.size,3,none⟩=some (.int .i64 b)∧W3.cell? ⟨g,a.toNat * 2,none⟩=some (.int .i64 (Ta xs a).f0)∧W3.cell? ⟨g,a.toNat * 2 + 1,none⟩=some (.int .i64 (Ta xs a).f1)∧W3.cell? ⟨g,b.toNat * 2,none⟩=some (.int .i64 (Ta xs b).f0)∧W3.cell? ⟨g,b.toNat * 2 + 1,none⟩=some (.int .i64 (Ta xs b).f1)))
 refine Pg (n:=20) (S:=fun w'=>w'.cell? ⟨kb,0,none⟩=some (.slice (some ⟨g,0,none⟩) xs.length cc)∧w'.cell? ⟨W.heap.size,2,none⟩=some (.int .i64 a)∧w'.cell? ⟨W.heap.size,3,none⟩=some (.int .i64 b)∧w'.cell? ⟨g,a.toNat * 2,none⟩=some (.int .i64 (Ta xs a).f0)∧w'.cell? ⟨g,a.toNat * 2 + 1,none⟩=some (.int .i64 (Ta xs a).f1)∧w'.cell? ⟨g,b.toNat * 2,none⟩=some (.int .i64 (Ta xs b).f0)∧w'.cell? ⟨g,b.toNat * 2 + 1,none⟩=some (.int .i64 (Ta xs b).f1)) (ds:=[19]) #[false,false,false,false,false,false,false,false,false,false,false,false,false,false,false,false,false,false,false,false] (by kernel_rfl) rfl rfl ⟨hd1,Cp,hd3,Lg,Kg,Wg,Vg⟩ (fun hHeld=>?_)
 refine Nb (i:=0) (N:=some 26) (v:=?_) (a':=?_) #[true,false,false,false,false,false,false,false,false,false,false,false,false,false,false,false,false,false,false,false] rfl rfl (by kernel_rfl) (fun _ _ _ h=>h) (Or.inl ⟨by rfl,?_⟩) ?_ ?_
 rotate_left
 ·intro w'
  go_simp
  with_reducible rfl
 rotate_left
 ·simp only [Act.put,List.setIfInBounds_toArray,List.set_cons_zero,List.set_cons_succ,Za,gb]
  rfl
 refine Nb (i:=1) (N:=some 27) (v:=?_) (a':=?_) #[true,true,false,false,false,false,false,false,false,false,false,false,false,false,false,false,false,false,false,false] rfl rfl (by kernel_rfl) (fun _ _ _ h=>h) (Or.inl ⟨by rfl,?_⟩) ?_ ?_
 rotate_left
 ·intro w'
  go_simp
  with_reducible rfl
 rotate_left
 ·simp only [Act.put,List.setIfInBounds_toArray,List.set_cons_zero,List.set_cons_succ,Za,gb]
  rfl
 refine Nb (i:=2) (N:=some 28) (v:=?_) (a':=?_) #[true,true,true,false,false,false,false,false,false,false,false,false,false,false,false,false,false,false,false,false] rfl rfl (by kernel_rfl) (fun _ _ _ h=>h) (Or.inl ⟨by rfl,?_⟩) ?_ ?_
 rotate_left
 ·intro w'
  go_simp
  with_reducible rfl
 rotate_left
 ·simp only [Act.put,List.setIfInBounds_toArray,List.set_cons_zero,List.set_cons_succ,Za,gb]
  rfl
 refine Nb (i:=4) (N:=some 30) (v:=?_) (a':=?_) #[true,true,true,false,true,false,false,false,false,false,false,false,false,false,false,false,false,false,false,false] rfl rfl (by kernel_rfl) (fun _ _ _ h=>h) (Or.inl ⟨by rfl,?_⟩) ?_ ?_
 rotate_left
 ·intro w'
  go_simp
  with_reducible rfl
 rotate_left
 ·simp only [Act.put,List.setIfInBounds_toArray,List.set_cons_zero,List.set_cons_succ,Za,gb]
  rfl
 refine Nb (i:=8) (N:=some 34) (v:=?_) (a':=?_) #[true,true,true,false,true,false,false,false,true,false,false,false,false,false,false,false,false,false,false,false] rfl rfl (by kernel_rfl) (fun _ _ _ h=>h) (Or.inl ⟨by rfl,?_⟩) ?_ ?_
 rotate_left
 ·intro w'
  go_simp
  with_reducible rfl
 rotate_left
 ·simp only [Act.put,List.setIfInBounds_toArray,List.set_cons_zero,List.set_cons_succ,Za,gb]
  rfl
 refine Nb (i:=9) (N:=some 35) (v:=?_) (a':=?_) #[true,true,true,false,true,false,false,false,true,true,false,false,false,false,false,false,false,false,false,false] rfl rfl (by kernel_rfl) (fun _ _ _ h=>h) (Or.inl ⟨by rfl,?_⟩) ?_ ?_
 rotate_left
 ·intro w'
  go_simp
  with_reducible rfl
 rotate_left
 ·simp only [Act.put,List.setIfInBounds_toArray,List.set_cons_zero,List.set_cons_succ,Za,gb]
  rfl
 refine Nb (i:=10) (N:=some 36) (v:=?_) (a':=?_) #[true,true,true,false,true,false,false,false,true,true,true,false,false,false,false,false,false,false,false,false] rfl rfl (by kernel_rfl) (fun _ _ _ h=>h) (Or.inl ⟨by rfl,?_⟩) ?_ ?_
 rotate_left
 ·intro w'
  go_simp
  with_reducible rfl
 rotate_left
 ·simp only [Act.put,List.setIfInBounds_toArray,List.set_cons_zero,List.set_cons_succ,Za,gb]
  rfl
 refine Nb (i:=12) (N:=some 38) (v:=?_) (a':=?_) #[true,true,true,false,true,false,false,false,true,true,true,false,true,false,false,false,false,false,false,false] rfl rfl (by kernel_rfl) (fun _ _ _ h=>h) (Or.inl ⟨by rfl,?_⟩) ?_ ?_
 rotate_left
 ·intro w'
  go_simp
  with_reducible rfl
 rotate_left
 ·simp only [Act.put,List.setIfInBounds_toArray,List.set_cons_zero,List.set_cons_succ,Za,gb]
  rfl
 refine Jd (i:=3) (N:=some 29) (v:=?_) (a':=?_) #[true,true,true,true,true,false,false,false,true,true,true,false,true,false,false,false,false,false,false,false] rfl rfl (by kernel_rfl) (fun _ _ _ h=>h) (Or.inl ⟨by rfl,?_⟩) hHeld ?_ ?_
 rotate_left
 ·rintro w' ⟨s0,s1,s2,s3,s4,s5,s6⟩
  go_simp
  with_reducible rfl
 rotate_left
 ·simp only [Act.put,List.setIfInBounds_toArray,List.set_cons_zero,List.set_cons_succ,Za,gb]
  rfl
 refine Jd (i:=5) (N:=some 31) (v:=?_) (a':=?_) #[true,true,true,true,true,true,false,false,true,true,true,false,true,false,false,false,false,false,false,false] rfl rfl (by kernel_rfl) (fun _ _ _ h=>h) (Or.inl ⟨by rfl,?_⟩) hHeld ?_ ?_
 rotate_left
 ·rintro w' ⟨s0,s1,s2,s3,s4,s5,s6⟩
  go_simp
  with_reducible rfl
 rotate_left
 ·simp only [Act.put,List.setIfInBounds_toArray,List.set_cons_zero,List.set_cons_succ,Za,gb]
  rfl
 refine Nb (i:=6) (N:=some 32) (v:=?_) (a':=?_) #[true,true,true,true,true,true,true,false,true,true,true,false,true,false,false,false,false,false,false,false] rfl rfl (by kernel_rfl) (fun _ _ _ h=>h) (Or.inl ⟨by rfl,?_⟩) ?_ ?_
 rotate_left
 ·intro w'
  go_simp
  with_reducible rfl
 rotate_left
 ·simp only [Act.put,List.setIfInBounds_toArray,List.set_cons_zero,List.set_cons_succ,Za,gb]
  rfl
 refine Jd (i:=7) (N:=some 33) (v:=?_) (a':=?_) #[true,true,true,true,true,true,true,true,true,true,true,false,true,false,false,false,false,false,false,false] rfl rfl (by kernel_rfl) (fun _ _ _ h=>h) (Or.inl ⟨by rfl,?_⟩) hHeld ?_ ?_
 rotate_left
 ·rintro w' ⟨s0,s1,s2,s3,s4,s5,s6⟩
  go_simp
  with_reducible rfl
 rotate_left
 ·simp only [Act.put,List.setIfInBounds_toArray,List.set_cons_zero,List.set_cons_succ,Za,gb]
  rfl
 refine Jd (i:=11) (N:=some 37) (v:=?_) (a':=?_) #[true,true,true,true,true,true,true,true,true,true,true,true,true,false,false,false,false,false,false,false] rfl rfl (by kernel_rfl) (fun _ _ _ h=>h) (Or.inl ⟨by rfl,?_⟩) hHeld ?_ ?_
 rotate_left
 ·rintro w' ⟨s0,s1,s2,s3,s4,s5,s6⟩
  go_simp
  with_reducible rfl
 rotate_left
 ·simp only [Act.put,List.setIfInBounds_toArray,List.set_cons_zero,List.set_cons_succ,Za,gb]
  rfl
 refine Jd (i:=13) (N:=some 39) (v:=?_) (a':=?_) #[true,true,true,true,true,true,true,true,true,true,true,true,true,true,false,false,false,false,false,false] rfl rfl (by kernel_rfl) (fun _ _ _ h=>h) (Or.inl ⟨by rfl,?_⟩) hHeld ?_ ?_
 rotate_left
 ·rintro w' ⟨s0,s1,s2,s3,s4,s5,s6⟩
  go_simp
  with_reducible rfl
 rotate_left
 ·simp only [Act.put,List.setIfInBounds_toArray,List.set_cons_zero,List.set_cons_succ,Za,gb]
  rfl
 refine Nb (i:=14) (N:=some 40) (v:=?_) (a':=?_) #[true,true,true,true,true,true,true,true,true,true,true,true,true,true,true,false,false,false,false,false] rfl rfl (by kernel_rfl) (fun _ _ _ h=>h) (Or.inl ⟨by rfl,?_⟩) ?_ ?_
 rotate_left
 ·intro w'
  go_simp
  with_reducible rfl
 rotate_left
 ·simp only [Act.put,List.setIfInBounds_toArray,List.set_cons_zero,List.set_cons_succ,Za,gb]
  rfl
 refine Jd (i:=15) (N:=some 41) (v:=?_) (a':=?_) #[true,true,true,true,true,true,true,true,true,true,true,true,true,true,true,true,false,false,false,false] rfl rfl (by kernel_rfl) (fun _ _ _ h=>h) (Or.inl ⟨by rfl,?_⟩) hHeld ?_ ?_
 rotate_left
 ·rintro w' ⟨s0,s1,s2,s3,s4,s5,s6⟩
  go_simp
  with_reducible rfl
 rotate_left
 ·simp only [Act.put,List.setIfInBounds_toArray,List.set_cons_zero,List.set_cons_succ,Za,gb]
  rfl
 refine Gr (σ:=Nat × Nat) 2 #[true,true,true,true,true,true,true,true,true,true,true,true,true,true,true,true,true,true,false,false] (fun s=>[(5,.pointer (some ⟨s.1,0,none⟩)),(6,.pointer (some ⟨s.2,0,none⟩))]) (fun s w'=>w' = (W1.drew.alloc (.cells #[.int .i64 0,.int .i64 0] 79 (0,0))).alloc (.cells #[.int .i64 0,.int .i64 0] 79 (0,0))∧((s.1=W1.heap.size∧s.2=W1.heap.size + 1) ∨ (s.1=W1.heap.size + 1∧s.2=W1.heap.size))) ?_ ?_
 rotate_left
 ·intro yh
  refine uy (i:=16) (j:=17) (Ni:=some 5) (Nj:=some 6) #[true,true,true,true,true,true,true,true,true,true,true,true,true,true,true,true,true,false,false,false] #[true,true,true,true,true,true,true,true,true,true,true,true,true,true,true,true,false,true,false,false] rfl rfl rfl rfl (by kernel_rfl) (by decide) (by decide) (fun K hK=>?_) (fun K hK=>?_)
  ·skip
   refine jf (w1:=?_) (v:=?_) (by rfl) rfl ?_ ?_
   rotate_left 2
   ·go_simp
    constructor
    ·rfl
    ·rfl
   refine hK.out _ _ ⟨(HG.out _ (ia Gd.out _)).1,(HG.out _ (ia Gd.out _)).2.1,(HG.out _ (ia Gd.out _)).2.2.1,(HG.out _ (ia Gd.out _)).2.2.2.1,(HG.out _ (ia Gd.out _)).2.2.2.2.1,(HG.out _ (ia Gd.out _)).2.2.2.2.2.1,(HG.out _ (ia Gd.out _)).2.2.2.2.2.2⟩ (fun hHeld=>?_)
   clear hK K
   refine Xd (a':=?_) ?_ ?_
   rotate_left
   ·show Act.put _ (some 5) _=_
    simp only [Act.put,List.setIfInBounds_toArray,List.set_cons_zero,List.set_cons_succ,Za,gb]
    rfl
   refine gh (i:=17) (N:=some 6) #[true,true,true,true,true,true,true,true,true,true,true,true,true,true,true,true,true,true,false,false] rfl rfl (by kernel_rfl) (by decide) (fun K hK=>?_)
   refine jf (w1:=?_) (v:=?_) (by rfl) rfl ?_ ?_
   rotate_left 2
   ·go_simp
    constructor
    ·rfl
    ·rfl
   refine hK.out _ _ ⟨(HG.out _ (ia (ia Gd.out _) _)).1,(HG.out _ (ia (ia Gd.out _) _)).2.1,(HG.out _ (ia (ia Gd.out _) _)).2.2.1,(HG.out _ (ia (ia Gd.out _) _)).2.2.2.1,(HG.out _ (ia (ia Gd.out _) _)).2.2.2.2.1,(HG.out _ (ia (ia Gd.out _) _)).2.2.2.2.2.1,(HG.out _ (ia (ia Gd.out _) _)).2.2.2.2.2.2⟩ (fun hHeld=>?_)
   clear hK K
   refine Xd (a':=?_) ?_ ?_
   rotate_left
   ·show Act.put _ (some 6) _=_
    simp only [Act.put,List.setIfInBounds_toArray,List.set_cons_zero,List.set_cons_succ,Za,gb]
    rfl
   exact Xd (by simp only [Kf,Act.put,List.setIfInBounds_toArray,List.set_cons_zero,List.set_cons_succ]) (yh (W1.heap.size,W1.heap.size + 1) _ ⟨rfl,Or.inl ⟨rfl,rfl⟩⟩)
  ·skip
   refine jf (w1:=?_) (v:=?_) (by rfl) rfl ?_ ?_
   rotate_left 2
   ·go_simp
    constructor
    ·rfl
    ·rfl
   refine hK.out _ _ ⟨(HG.out _ (ia Gd.out _)).1,(HG.out _ (ia Gd.out _)).2.1,(HG.out _ (ia Gd.out _)).2.2.1,(HG.out _ (ia Gd.out _)).2.2.2.1,(HG.out _ (ia Gd.out _)).2.2.2.2.1,(HG.out _ (ia Gd.out _)).2.2.2.2.2.1,(HG.out _ (ia Gd.out _)).2.2.2.2.2.2⟩ (fun hHeld=>?_)
   clear hK K
   refine Xd (a':=?_) ?_ ?_
   rotate_left
   ·show Act.put _ (some 6) _=_
    simp only [Act.put,List.setIfInBounds_toArray,List.set_cons_zero,List.set_cons_succ,Za,gb]
    rfl
   refine gh (i:=16) (N:=some 5) #[true,true,true,true,true,true,true,true,true,true,true,true,true,true,true,true,true,true,false,false] rfl rfl (by kernel_rfl) (by decide) (fun K hK=>?_)
   refine jf (w1:=?_) (v:=?_) (by rfl) rfl ?_ ?_
   rotate_left 2
   ·go_simp
    constructor
    ·rfl
    ·rfl
   refine hK.out _ _ ⟨(HG.out _ (ia (ia Gd.out _) _)).1,(HG.out _ (ia (ia Gd.out _) _)).2.1,(HG.out _ (ia (ia Gd.out _) _)).2.2.1,(HG.out _ (ia (ia Gd.out _) _)).2.2.2.1,(HG.out _ (ia (ia Gd.out _) _)).2.2.2.2.1,(HG.out _ (ia (ia Gd.out _) _)).2.2.2.2.2.1,(HG.out _ (ia (ia Gd.out _) _)).2.2.2.2.2.2⟩ (fun hHeld=>?_)
   clear hK K
   refine Xd (a':=?_) ?_ ?_
   rotate_left
   ·show Act.put _ (some 5) _=_
    simp only [Act.put,List.setIfInBounds_toArray,List.set_cons_zero,List.set_cons_succ,Za,gb]
    rfl
   exact Xd (by simp only [Kf,Act.put,List.setIfInBounds_toArray,List.set_cons_zero,List.set_cons_succ]) (yh (W1.heap.size + 1,W1.heap.size) _ ⟨rfl,Or.inr ⟨rfl,rfl⟩⟩)
 rintro ⟨s1,s2⟩ W3 ⟨Ak,hs⟩
 simp only at hs
 have hne:s1 ≠ s2:=by omega
 have zk:W1.heap.size ≤ s1:=by omega
 have xk:W1.heap.size ≤ s2:=by omega
 have Hp:Below W1.heap.size W1 W3:=by rw [Ak];exact ia (ia Gd.out _) _
 have AA:W3.heap.size=W1.heap.size + 2:=by rw [Ak];simp
 have qn:W3.heap[s1]? = some (.cells #[.int .i64 0,.int .i64 0] 79 (0,0)):=by
  rw [Ak]
  rcases hs with ⟨e,_⟩|⟨e,_⟩
  ·rw [e];exact Da (Yc W1.drew _) _
  ·rw [e];have:=Yc (W1.drew.alloc (.cells #[.int .i64 0,.int .i64 0] 79 (0,0))) (.cells #[.int .i64 0,.int .i64 0] 79 (0,0));simpa using this
 have hn2:W3.heap[s2]? = some (.cells #[.int .i64 0,.int .i64 0] 79 (0,0)):=by
  rw [Ak]
  rcases hs with ⟨_,e⟩|⟨_,e⟩
  ·rw [e];have:=Yc (W1.drew.alloc (.cells #[.int .i64 0,.int .i64 0] 79 (0,0))) (.cells #[.int .i64 0,.int .i64 0] 79 (0,0));simpa using this
  ·rw [e];exact Da (Yc W1.drew _) _
 clear Ak hs
 have tu:=qa.mk Hp
 have hHeld:=HG.out W3 Hp
 have Yi:=qa.mk qn
 have ru:=qa.mk hn2
 clear Hp qn hn2
 refine Xd (a':=?_) ?_ ?_
 rotate_left
 ·simp only [Kf,Act.put,List.setIfInBounds_toArray,List.set_cons_zero,List.set_cons_succ]
  rfl
 refine gh (i:=18) (N:=none) #[true,true,true,true,true,true,true,true,true,true,true,true,true,true,true,true,true,true,true,false] rfl rfl (by kernel_rfl) (by decide) (fun K hK=>?_)
 have Gp:=(ga Yi.out 0).trans rfl
 have Fp:=(ga Yi.out 1).trans rfl
 have Bp:=aa Yi.out 0
 have Ap:=aa Yi.out 1
 refine si (w1:=?_) (by rfl) rfl ?_ ?_
 rotate_left
 ·go_simp
  rfl
 have Og:=qa.mk (show Below W1.heap.size W1 ((W3.setCell ⟨s1,0,none⟩ (.int .i64 (Ta xs a).f0)).setCell ⟨s1,1,none⟩ (.int .i64 (Ta xs a).f1)) from (tu.out.setCell zk _).setCell zk _)
 have su:=qa.mk (Db (cs:=#[.int .i64 (Ta xs a).f0,.int .i64 0]) (Db (cs:=#[.int .i64 0,.int .i64 0]) Yi.out 0 (.int .i64 (Ta xs a).f0) rfl) 1 (.int .i64 (Ta xs a).f1) rfl)
 have Zi:=qa.mk (Rb (p:=⟨s1,1,none⟩) (Rb (p:=⟨s1,0,none⟩) ru.out (Ne.symm hne) (.int .i64 (Ta xs a).f0)) (Ne.symm hne) (.int .i64 (Ta xs a).f1))
 clear Gp Fp Bp Ap
 refine hK.out _ _ ⟨(HG.out _ Og.out).1,(HG.out _ Og.out).2.1,(HG.out _ Og.out).2.2.1,(HG.out _ Og.out).2.2.2.1,(HG.out _ Og.out).2.2.2.2.1,(HG.out _ Og.out).2.2.2.2.2.1,(HG.out _ Og.out).2.2.2.2.2.2⟩ (fun hHeld=>?_)
 clear hK K
 refine Wq (i:=19) (N:=none) #[true,true,true,true,true,true,true,true,true,true,true,true,true,true,true,true,true,true,true,true] rfl rfl (by kernel_rfl) (by decide) (fun K hK=>?_)
 have Ep:=(ga Zi.out 0).trans rfl
 have Dp:=(ga Zi.out 1).trans rfl
 have zp:=aa Zi.out 0
 have yp:=aa Zi.out 1
 refine si (w1:=?_) (by rfl) rfl ?_ ?_
 rotate_left
 ·go_simp
  rfl
 refine hK.out _ _ ?_
 clear hK K
 refine Yh (by kernel_rfl) ?_
 obtain ⟨W5,hW5⟩:∃ W5,W5=(((W3.setCell ⟨s1,0,none⟩ (.int .i64 (Ta xs a).f0)).setCell ⟨s1,1,none⟩ (.int .i64 (Ta xs a).f1)).setCell ⟨s2,0,none⟩ (.int .i64 (Ta xs b).f0)).setCell ⟨s2,1,none⟩ (.int .i64 (Ta xs b).f1):=⟨_,rfl⟩
 rw [← hW5]
 have Ti:Below W1.heap.size W1 W5:=by rw [hW5];exact (Og.out.setCell xk _).setCell xk _
 have ju:W5.heap[s1]? = some (.cells #[.int .i64 (Ta xs a).f0,.int .i64 (Ta xs a).f1] 79 (0,0)):=by rw [hW5];exact Rb (p:=⟨s2,1,none⟩) (Rb (p:=⟨s2,0,none⟩) su.out hne _) hne _
 have hm2:W5.heap[s2]? = some (.cells #[.int .i64 (Ta xs b).f0,.int .i64 (Ta xs b).f1] 79 (0,0)):=by rw [hW5];exact Db (cs:=#[.int .i64 (Ta xs b).f0,.int .i64 0]) (Db (cs:=#[.int .i64 0,.int .i64 0]) Zi.out 0 _ rfl) 1 _ rfl
 clear hW5 su Zi Yi ru Ep Dp zp yp Og tu hd1 Cp hd3 Lg Kg Wg Vg hx0 hx1 Gk Fk qm vp om hr0 En Fj Ej nr hk1 Jr HG Gd AA
 have HR:=qa.mk (Wa HR.out Ti)
 have HX:=qa.mk (Wa HX.out Ti)
 have We:=qa.mk (Wa We.out Ti)
 have DA:=Ti.size
 have HB:=qa.mk (Pa HB.out Ti)
 clear Ti
 have hk1:=(ga We.out 1).trans rfl
 have Jr:=aa We.out 1
 have hr0:=(ga HR.out 0).trans rfl
 have En:=(ga HR.out 1).trans rfl
 have Fj:=aa HR.out 0
 have Ej:=aa HR.out 1
 have om:=(ga HX.out 6).trans rfl
 have KA:=(ga ju 0).trans rfl
 have JA:=(ga ju 1).trans rfl
 have IA:=(ga hm2 0).trans rfl
 have GA:=(ga hm2 1).trans rfl
 go_wp2_with (first|(go_at_call 119;(with_reducible refine (Il _ _ _ _).mono ?_);rintro e w1 ⟨rfl,⟨k1,rfl⟩⟩))
 all_goals
  have hz:=HZ.out
  refine bodyPost_ret (results_cell_row rfl _ _ (W.heap.size + 1) 79 #[.int .i64 (Ta xs b).f0,.int .i64 (wrap64 ((Ta xs a).f1 + (Ta xs b).f1))] (0,0) _ rfl ?_ Try.underlying79 rfl (by kernel_rfl)) rfl ?_
  ·exact Db (cs:=#[.int .i64 (Ta xs b).f0,.int .i64 0]) (Db (cs:=#[.int .i64 0,.int .i64 0]) (by (with_reducible repeat (first|refine Ea ?_ _|refine Ga ?_|refine Da ?_ _));exact HR.out) 0 _ rfl) 1 _ rfl
  ·exact ⟨rfl,by repeat (first|exact HB.out|apply ja|apply za|apply ia|refine Aa ?_ (by first|omega|(simp;done)|(simp;omega)))⟩
set_option maxHeartbeats 2000000 in
set_option maxRecDepth 100000 in
theorem nH (hk:KV W B kb v xs nx) (d a b c n:Int) (t:ByteArray) (ha0:0 ≤ a) (ha1:a < xs.length) (hb0:0 ≤ b) (hb1:b < xs.length) (hA:((Ta xs a).f0 == -1)=false) (sQ:((Ta xs b).f0 == -1)=true) (tQ:(t.toList == [43])=true) :
  Calls Try.prog 92 #[.pointer (some ⟨kb,0,none⟩),.agg #[.int .i64 2,.int .i64 d,.int .i64 a,.int .i64 b,.int .i64 c,.int .i64 n,.string t]] W fun e w'=>e = .returned (.agg #[.int .i64 (Ta xs a).f0,.int .i64 (wrap64 ((Ta xs a).f1 + (Ta xs b).f1))])∧Below W.heap.size W w':=by
 obtain ⟨hB,h2,h3⟩:=hk
 have kB:=qa.mk h2
 have hlt:=Ac h2
 obtain ⟨W1,hW1⟩:∃ W1,W1=(W.alloc (.cells #[.int .i64 2,.int .i64 d,.int .i64 a,.int .i64 b,.int .i64 c,.int .i64 n,.string t] 70 (0,0))).alloc (.cells #[.int .i64 0,.int .i64 0] 79 (0,0)):=⟨_,rfl⟩
 have HW:=qa.mk hW1
 have Ri:Below W.heap.size W W1:=by rw [hW1];exact ia (ia (Below.refl _ _) _) _
 have hz:W1.heap.size=W.heap.size + 2:=by rw [hW1];simp
 have We:=qa.mk (Wa h2 Ri)
 have nr:=(ga We.out 0).trans rfl
 have hk1:=(ga We.out 1).trans rfl
 have Jr:=aa We.out 1
 have oh:W1.heap[W.heap.size + 1]? = some (.cells #[.int .i64 0,.int .i64 0] 79 (0,0)):=by rw [hW1];have:=Yc (W.alloc (.cells #[.int .i64 2,.int .i64 d,.int .i64 a,.int .i64 b,.int .i64 c,.int .i64 n,.string t] 70 (0,0))) (.cells #[.int .i64 0,.int .i64 0] 79 (0,0));simpa using this
 have Af:W1.heap[W.heap.size]? = some (.cells #[.int .i64 2,.int .i64 d,.int .i64 a,.int .i64 b,.int .i64 c,.int .i64 n,.string t] 70 (0,0)):=by rw [hW1];exact Da (Yc _ _) _
 have HR:=qa.mk oh
 have HX:=qa.mk Af
 have hr0:=(ga oh 0).trans rfl
 have En:=(ga oh 1).trans rfl
 have Fj:=aa oh 0
 have Ej:=aa oh 1
 have hx0:=(ga Af 0).trans rfl
 have hx1:=(ga Af 1).trans rfl
 have Gk:=(ga Af 2).trans rfl
 have Fk:=(ga Af 3).trans rfl
 have qm:=(ga Af 4).trans rfl
 have vp:=(ga Af 5).trans rfl
 have om:=(ga Af 6).trans rfl
 have HB:=qa.mk Ri
 obtain ⟨A,cc,rfl,_,hC⟩:=Kd.Kh (Kd.Ge h3 Ri)
 have dD:=hC.2.1
 obtain ⟨ad,e1,Lg,Kg⟩:=Bh hC a ha0 ha1
 cases e1
 obtain ⟨BO,e1,Wg,Vg⟩:=Bh hC b hb0 hb1
 cases e1
 obtain ⟨g,rfl⟩:=Kd.jm h3
 have Ly:g < W.heap.size:=by
  obtain ⟨inner,hi⟩:=Kd.Pk h3
  exact Lk hi g (by simp [Value.ownBlock])
 have FA:g ≠ W1.heap.size:=by omega
 have dH:g ≠ W1.heap.size + 1:=by omega
 simp only [add_plain] at Lg Kg Wg Vg
 clear hC
 have Uw:kb ≠ W1.heap.size:=by omega
 have Tw:kb ≠ W1.heap.size + 1:=by omega
 have hw1:W.heap.size ≠ W1.heap.size:=by omega
 have XH:W.heap.size ≠ W1.heap.size + 1:=by omega
 have WH:W.heap.size + 1 ≠ W1.heap.size:=by omega
 have VH:W.heap.size + 1 ≠ W1.heap.size + 1:=by omega
 have HZ:=qa.mk hz
 clear hW1 oh Af h2 h3 Ri hz
 go_enter Try.func92,Try.ntmps92
 go_upto_region 1 with (fail)
 rw [← HW.out]
 clear HW
 go_upto_region 7 with (fail)
 have Gd:=qa.mk (za (Below.refl W1.heap.size W1))
 have hd1:W1.cell? ⟨kb,0,none⟩=some (.slice (some ⟨g,0,none⟩) xs.length cc):=nr
 have Cp:W1.cell? ⟨W.heap.size,2,none⟩=some (.int .i64 a):=Gk
 have hd3:W1.cell? ⟨W.heap.size,3,none⟩=some (.int .i64 b):=Fk
 have HG:=qa.mk (fun (W3:World) (h:Below W1.heap.size W1 W3)=>(⟨Ab h hd1,Ab h Cp,Ab h hd3,Ab h Lg,Ab h Kg,Ab h Wg,Ab h Vg⟩:W3.cell? ⟨kb,0,none⟩=some (.slice (some ⟨g,0,none⟩) xs.length cc)∧W3.cell? ⟨W.heap.size,2,none⟩=some (.int .i64 a)∧W3.cell? ⟨W.heap.size,3,none⟩=some (.int .i64 b)∧W3.cell? ⟨g,a.toNat * 2,none⟩=some (.int .i64 (Ta xs a).f0)∧W3.cell? ⟨g,a.toNat * 2 + 1,none⟩=some (.int .i64 (Ta xs a).f1)∧W3.cell? ⟨g,b.toNat * 2,none⟩=some (.int .i64 (Ta xs b).f0)∧W3.cell? ⟨g,b.toNat * 2 + 1,none⟩=some (.int .i64 (Ta xs b).f1)))
 refine Pg (n:=20) (S:=fun w'=>w'.cell? ⟨kb,0,none⟩=some (.slice (some ⟨g,0,none⟩) xs.length cc)∧w'.cell? ⟨W.heap.size,2,none⟩=some (.int .i64 a)∧w'.cell? ⟨W.heap.size,3,none⟩=some (.int .i64 b)∧w'.cell? ⟨g,a.toNat * 2,none⟩=some (.int .i64 (Ta xs a).f0)∧w'.cell? ⟨g,a.toNat * 2 + 1,none⟩=some (.int .i64 (Ta xs a).f1)∧w'.cell? ⟨g,b.toNat * 2,none⟩=some (.int .i64 (Ta xs b).f0)∧w'.cell? ⟨g,b.toNat * 2 + 1,none⟩=some (.int .i64 (Ta xs b).f1)) (ds:=[19]) #[false,false,false,false,false,false,false,false,false,false,false,false,false,false,false,false,false,false,false,false] (by kernel_rfl) rfl rfl ⟨hd1,Cp,hd3,Lg,Kg,Wg,Vg⟩ (fun hHeld=>?_)
 refine Nb (i:=0) (N:=some 26) (v:=?_) (a':=?_) #[true,false,false,false,false,false,false,false,false,false,false,false,false,false,false,false,false,false,false,false] rfl rfl (by kernel_rfl) (fun _ _ _ h=>h) (Or.inl ⟨by rfl,?_⟩) ?_ ?_
 rotate_left
 ·intro w'
  go_simp
  with_reducible rfl
 rotate_left
 ·simp only [Act.put,List.setIfInBounds_toArray,List.set_cons_zero,List.set_cons_succ,Za,gb]
  rfl
 refine Nb (i:=1) (N:=some 27) (v:=?_) (a':=?_) #[true,true,false,false,false,false,false,false,false,false,false,false,false,false,false,false,false,false,false,false] rfl rfl (by kernel_rfl) (fun _ _ _ h=>h) (Or.inl ⟨by rfl,?_⟩) ?_ ?_
 rotate_left
 ·intro w'
  go_simp
  with_reducible rfl
 rotate_left
 ·simp only [Act.put,List.setIfInBounds_toArray,List.set_cons_zero,List.set_cons_succ,Za,gb]
  rfl
 refine Nb (i:=2) (N:=some 28) (v:=?_) (a':=?_) #[true,true,true,false,false,false,false,false,false,false,false,false,false,false,false,false,false,false,false,false] rfl rfl (by kernel_rfl) (fun _ _ _ h=>h) (Or.inl ⟨by rfl,?_⟩) ?_ ?_
 rotate_left
 ·intro w'
  go_simp
  with_reducible rfl
 rotate_left
 ·simp only [Act.put,List.setIfInBounds_toArray,List.set_cons_zero,List.set_cons_succ,Za,gb]
  rfl
 refine Nb (i:=4) (N:=some 30) (v:=?_) (a':=?_) #[true,true,true,false,true,false,false,false,false,false,false,false,false,false,false,false,false,false,false,false] rfl rfl (by kernel_rfl) (fun _ _ _ h=>h) (Or.inl ⟨by rfl,?_⟩) ?_ ?_
 rotate_left
 ·intro w'
  go_simp
  with_reducible rfl
 rotate_left
 ·simp only [Act.put,List.setIfInBounds_toArray,List.set_cons_zero,List.set_cons_succ,Za,gb]
  rfl
 refine Nb (i:=8) (N:=some 34) (v:=?_) (a':=?_) #[true,true,true,false,true,false,false,false,true,false,false,false,false,false,false,false,false,false,false,false] rfl rfl (by kernel_rfl) (fun _ _ _ h=>h) (Or.inl ⟨by rfl,?_⟩) ?_ ?_
 rotate_left
 ·intro w'
  go_simp
  with_reducible rfl
 rotate_left
 ·simp only [Act.put,List.setIfInBounds_toArray,List.set_cons_zero,List.set_cons_succ,Za,gb]
  rfl
 refine Nb (i:=9) (N:=some 35) (v:=?_) (a':=?_) #[true,true,true,false,true,false,false,false,true,true,false,false,false,false,false,false,false,false,false,false] rfl rfl (by kernel_rfl) (fun _ _ _ h=>h) (Or.inl ⟨by rfl,?_⟩) ?_ ?_
 rotate_left
 ·intro w'
  go_simp
  with_reducible rfl
 rotate_left
 ·simp only [Act.put,List.setIfInBounds_toArray,List.set_cons_zero,List.set_cons_succ,Za,gb]
  rfl
 refine Nb (i:=10) (N:=some 36) (v:=?_) (a':=?_) #[true,true,true,false,true,false,false,false,true,true,true,false,false,false,false,false,false,false,false,false] rfl rfl (by kernel_rfl) (fun _ _ _ h=>h) (Or.inl ⟨by rfl,?_⟩) ?_ ?_
 rotate_left
 ·intro w'
  go_simp
  with_reducible rfl
 rotate_left
 ·simp only [Act.put,List.setIfInBounds_toArray,List.set_cons_zero,List.set_cons_succ,Za,gb]
  rfl
 refine Nb (i:=12) (N:=some 38) (v:=?_) (a':=?_) #[true,true,true,false,true,false,false,false,true,true,true,false,true,false,false,false,false,false,false,false] rfl rfl (by kernel_rfl) (fun _ _ _ h=>h) (Or.inl ⟨by rfl,?_⟩) ?_ ?_
 rotate_left
 ·intro w'
  go_simp
  with_reducible rfl
 rotate_left
 ·simp only [Act.put,List.setIfInBounds_toArray,List.set_cons_zero,List.set_cons_succ,Za,gb]
  rfl
 refine Jd (i:=3) (N:=some 29) (v:=?_) (a':=?_) #[true,true,true,true,true,false,false,false,true,true,true,false,true,false,false,false,false,false,false,false] rfl rfl (by kernel_rfl) (fun _ _ _ h=>h) (Or.inl ⟨by rfl,?_⟩) hHeld ?_ ?_
 rotate_left
 ·rintro w' ⟨s0,s1,s2,s3,s4,s5,s6⟩
  go_simp
  with_reducible rfl
 rotate_left
 ·simp only [Act.put,List.setIfInBounds_toArray,List.set_cons_zero,List.set_cons_succ,Za,gb]
  rfl
 refine Jd (i:=5) (N:=some 31) (v:=?_) (a':=?_) #[true,true,true,true,true,true,false,false,true,true,true,false,true,false,false,false,false,false,false,false] rfl rfl (by kernel_rfl) (fun _ _ _ h=>h) (Or.inl ⟨by rfl,?_⟩) hHeld ?_ ?_
 rotate_left
 ·rintro w' ⟨s0,s1,s2,s3,s4,s5,s6⟩
  go_simp
  with_reducible rfl
 rotate_left
 ·simp only [Act.put,List.setIfInBounds_toArray,List.set_cons_zero,List.set_cons_succ,Za,gb]
  rfl
 refine Nb (i:=6) (N:=some 32) (v:=?_) (a':=?_) #[true,true,true,true,true,true,true,false,true,true,true,false,true,false,false,false,false,false,false,false] rfl rfl (by kernel_rfl) (fun _ _ _ h=>h) (Or.inl ⟨by rfl,?_⟩) ?_ ?_
 rotate_left
 ·intro w'
  go_simp
  with_reducible rfl
 rotate_left
 ·simp only [Act.put,List.setIfInBounds_toArray,List.set_cons_zero,List.set_cons_succ,Za,gb]
  rfl
 refine Jd (i:=7) (N:=some 33) (v:=?_) (a':=?_) #[true,true,true,true,true,true,true,true,true,true,true,false,true,false,false,false,false,false,false,false] rfl rfl (by kernel_rfl) (fun _ _ _ h=>h) (Or.inl ⟨by rfl,?_⟩) hHeld ?_ ?_
 rotate_left
 ·rintro w' ⟨s0,s1,s2,s3,s4,s5,s6⟩
  go_simp
  with_reducible rfl
 rotate_left
 ·simp only [Act.put,List.setIfInBounds_toArray,List.set_cons_zero,List.set_cons_succ,Za,gb]
  rfl
 refine Jd (i:=11) (N:=some 37) (v:=?_) (a':=?_) #[true,true,true,true,true,true,true,true,true,true,true,true,true,false,false,false,false,false,false,false] rfl rfl (by kernel_rfl) (fun _ _ _ h=>h) (Or.inl ⟨by rfl,?_⟩) hHeld ?_ ?_
 rotate_left
 ·rintro w' ⟨s0,s1,s2,s3,s4,s5,s6⟩
  go_simp
  with_reducible rfl
 rotate_left
 ·simp only [Act.put,List.setIfInBounds_toArray,List.set_cons_zero,List.set_cons_succ,Za,gb]
  rfl
 refine Jd (i:=13) (N:=some 39) (v:=?_) (a':=?_) #[true,true,true,true,true,true,true,true,true,true,true,true,true,true,false,false,false,false,false,false] rfl rfl (by kernel_rfl) (fun _ _ _ h=>h) (Or.inl ⟨by rfl,?_⟩) hHeld ?_ ?_
 rotate_left
 ·rintro w' ⟨s0,s1,s2,s3,s4,s5,s6⟩
  go_simp
  with_reducible rfl
 rotate_left
 ·simp only [Act.put,List.setIfInBounds_toArray,List.set_cons_zero,List.set_cons_succ,Za,gb]
  rfl
 refine Nb (i:=14) (N:=some 40) (v:=?_) (a':=?_) #[true,true,true,true,true,true,true,true,true,true,true,true,true,true,true,false,false,false,false,false] rfl rfl (by kernel_rfl) (fun _ _ _ h=>h) (Or.inl ⟨by rfl,?_⟩) ?_ ?_
 rotate_left
 ·intro w'
  go_simp
  with_reducible rfl
 rotate_left
 ·simp only [Act.put,List.setIfInBounds_toArray,List.set_cons_zero,List.set_cons_succ,Za,gb]
  rfl
 refine Jd (i:=15) (N:=some 41) (v:=?_) (a':=?_) #[true,true,true,true,true,true,true,true,true,true,true,true,true,true,true,true,false,false,false,false] rfl rfl (by kernel_rfl) (fun _ _ _ h=>h) (Or.inl ⟨by rfl,?_⟩) hHeld ?_ ?_
 rotate_left
 ·rintro w' ⟨s0,s1,s2,s3,s4,s5,s6⟩
  go_simp
  with_reducible rfl
 rotate_left
 ·simp only [Act.put,List.setIfInBounds_toArray,List.set_cons_zero,List.set_cons_succ,Za,gb]
  rfl
 refine Gr (σ:=Nat × Nat) 2 #[true,true,true,true,true,true,true,true,true,true,true,true,true,true,true,true,true,true,false,false] (fun s=>[(5,.pointer (some ⟨s.1,0,none⟩)),(6,.pointer (some ⟨s.2,0,none⟩))]) (fun s w'=>w' = (W1.drew.alloc (.cells #[.int .i64 0,.int .i64 0] 79 (0,0))).alloc (.cells #[.int .i64 0,.int .i64 0] 79 (0,0))∧((s.1=W1.heap.size∧s.2=W1.heap.size + 1) ∨ (s.1=W1.heap.size + 1∧s.2=W1.heap.size))) ?_ ?_
 rotate_left
 ·intro yh
  refine uy (i:=16) (j:=17) (Ni:=some 5) (Nj:=some 6) #[true,true,true,true,true,true,true,true,true,true,true,true,true,true,true,true,true,false,false,false] #[true,true,true,true,true,true,true,true,true,true,true,true,true,true,true,true,false,true,false,false] rfl rfl rfl rfl (by kernel_rfl) (by decide) (by decide) (fun K hK=>?_) (fun K hK=>?_)
  ·skip
   refine jf (w1:=?_) (v:=?_) (by rfl) rfl ?_ ?_
   rotate_left 2
   ·go_simp
    constructor
    ·rfl
    ·rfl
   refine hK.out _ _ ⟨(HG.out _ (ia Gd.out _)).1,(HG.out _ (ia Gd.out _)).2.1,(HG.out _ (ia Gd.out _)).2.2.1,(HG.out _ (ia Gd.out _)).2.2.2.1,(HG.out _ (ia Gd.out _)).2.2.2.2.1,(HG.out _ (ia Gd.out _)).2.2.2.2.2.1,(HG.out _ (ia Gd.out _)).2.2.2.2.2.2⟩ (fun hHeld=>?_)
   clear hK K
   refine Xd (a':=?_) ?_ ?_
   rotate_left
   ·show Act.put _ (some 5) _=_
    simp only [Act.put,List.setIfInBounds_toArray,List.set_cons_zero,List.set_cons_succ,Za,gb]
    rfl
   refine gh (i:=17) (N:=some 6) #[true,true,true,true,true,true,true,true,true,true,true,true,true,true,true,true,true,true,false,false] rfl rfl (by kernel_rfl) (by decide) (fun K hK=>?_)
   refine jf (w1:=?_) (v:=?_) (by rfl) rfl ?_ ?_
   rotate_left 2
   ·go_simp
    constructor
    ·rfl
    ·rfl
   refine hK.out _ _ ⟨(HG.out _ (ia (ia Gd.out _) _)).1,(HG.out _ (ia (ia Gd.out _) _)).2.1,(HG.out _ (ia (ia Gd.out _) _)).2.2.1,(HG.out _ (ia (ia Gd.out _) _)).2.2.2.1,(HG.out _ (ia (ia Gd.out _) _)).2.2.2.2.1,(HG.out _ (ia (ia Gd.out _) _)).2.2.2.2.2.1,(HG.out _ (ia (ia Gd.out _) _)).2.2.2.2.2.2⟩ (fun hHeld=>?_)
   clear hK K
   refine Xd (a':=?_) ?_ ?_
   rotate_left
   ·show Act.put _ (some 6) _=_
    simp only [Act.put,List.setIfInBounds_toArray,List.set_cons_zero,List.set_cons_succ,Za,gb]
    rfl
   exact Xd (by simp only [Kf,Act.put,List.setIfInBounds_toArray,List.set_cons_zero,List.set_cons_succ]) (yh (W1.heap.size,W1.heap.size + 1) _ ⟨rfl,Or.inl ⟨rfl,rfl⟩⟩)
  ·skip
   refine jf (w1:=?_) (v:=?_) (by rfl) rfl ?_ ?_
   rotate_left 2
   ·go_simp
    constructor
    ·rfl
    ·rfl
   refine hK.out _ _ ⟨(HG.out _ (ia Gd.out _)).1,(HG.out _ (ia Gd.out _)).2.1,(HG.out _ (ia Gd.out _)).2.2.1,(HG.out _ (ia Gd.out _)).2.2.2.1,(HG.out _ (ia Gd.out _)).2.2.2.2.1,(HG.out _ (ia Gd.out _)).2.2.2.2.2.1,(HG.out _ (ia Gd.out _)).2.2.2.2.2.2⟩ (fun hHeld=>?_)
   clear hK K
   refine Xd (a':=?_) ?_ ?_
   rotate_left
   ·show Act.put _ (some 6) _=_
    simp only [Act.put,List.setIfInBounds_toArray,List.set_cons_zero,List.set_cons_succ,Za,gb]
    rfl
   refine gh (i:=16) (N:=some 5) #[true,true,true,true,true,true,true,true,true,true,true,true,true,true,true,true,true,true,false,false] rfl rfl (by kernel_rfl) (by decide) (fun K hK=>?_)
   refine jf (w1:=?_) (v:=?_) (by rfl) rfl ?_ ?_
   rotate_left 2
   ·go_simp
    constructor
    ·rfl
    ·rfl
   refine hK.out _ _ ⟨(HG.out _ (ia (ia Gd.out _) _)).1,(HG.out _ (ia (ia Gd.out _) _)).2.1,(HG.out _ (ia (ia Gd.out _) _)).2.2.1,(HG.out _ (ia (ia Gd.out _) _)).2.2.2.1,(HG.out _ (ia (ia Gd.out _) _)).2.2.2.2.1,(HG.out _ (ia (ia Gd.out _) _)).2.2.2.2.2.1,(HG.out _ (ia (ia Gd.out _) _)).2.2.2.2.2.2⟩ (fun hHeld=>?_)
   clear hK K
   refine Xd (a':=?_) ?_ ?_
   rotate_left
   ·show Act.put _ (some 5) _=_
    simp only [Act.put,List.setIfInBounds_toArray,List.set_cons_zero,List.set_cons_succ,Za,gb]
    rfl
   exact Xd (by simp only [Kf,Act.put,List.setIfInBounds_toArray,List.set_cons_zero,List.set_cons_succ]) (yh (W1.heap.size + 1,W1.heap.size) _ ⟨rfl,Or.inr ⟨rfl,rfl⟩⟩)
 rintro ⟨s1,s2⟩ W3 ⟨Ak,hs⟩
 simp only at hs
 have hne:s1 ≠ s2:=by omega
 have zk:W1.heap.size ≤ s1:=by omega
 have xk:W1.heap.size ≤ s2:=by omega
 have Hp:Below W1.heap.size W1 W3:=by rw [Ak];exact ia (ia Gd.out _) _
 have AA:W3.heap.size=W1.heap.size + 2:=by rw [Ak];simp
 have qn:W3.heap[s1]? = some (.cells #[.int .i64 0,.int .i64 0] 79 (0,0)):=by
  rw [Ak]
  rcases hs with ⟨e,_⟩|⟨e,_⟩
  ·rw [e];exact Da (Yc W1.drew _) _
  ·rw [e];have:=Yc (W1.drew.alloc (.cells #[.int .i64 0,.int .i64 0] 79 (0,0))) (.cells #[.int .i64 0,.int .i64 0] 79 (0,0));simpa using this
 have hn2:W3.heap[s2]? = some (.cells #[.int .i64 0,.int .i64 0] 79 (0,0)):=by
  rw [Ak]
  rcases hs with ⟨_,e⟩|⟨_,e⟩
  ·rw [e];have:=Yc (W1.drew.alloc (.cells #[.int .i64 0,.int .i64 0] 79 (0,0))) (.cells #[.int .i64 0,.int .i64 0] 79 (0,0));simpa using this
  ·rw [e];exact Da (Yc W1.drew _) _
 clear Ak hs
 have tu:=qa.mk Hp
 have hHeld:=HG.out W3 Hp
 have Yi:=qa.mk qn
 have ru:=qa.mk hn2
 clear Hp qn hn2
 refine Xd (a':=?_) ?_ ?_
 rotate_left
 ·simp only [Kf,Act.put,List.setIfInBounds_toArray,List.set_cons_zero,List.set_cons_succ]
  rfl
 refine gh (i:=18) (N:=none) #[true,true,true,true,true,true,true,true,true,true,true,true,true,true,true,true,true,true,true,false] rfl rfl (by kernel_rfl) (by decide) (fun K hK=>?_)
 have Gp:=(ga Yi.out 0).trans rfl
 have Fp:=(ga Yi.out 1).trans rfl
 have Bp:=aa Yi.out 0
 have Ap:=aa Yi.out 1
 refine si (w1:=?_) (by rfl) rfl ?_ ?_
 rotate_left
 ·go_simp
  rfl
 have Og:=qa.mk (show Below W1.heap.size W1 ((W3.setCell ⟨s1,0,none⟩ (.int .i64 (Ta xs a).f0)).setCell ⟨s1,1,none⟩ (.int .i64 (Ta xs a).f1)) from (tu.out.setCell zk _).setCell zk _)
 have su:=qa.mk (Db (cs:=#[.int .i64 (Ta xs a).f0,.int .i64 0]) (Db (cs:=#[.int .i64 0,.int .i64 0]) Yi.out 0 (.int .i64 (Ta xs a).f0) rfl) 1 (.int .i64 (Ta xs a).f1) rfl)
 have Zi:=qa.mk (Rb (p:=⟨s1,1,none⟩) (Rb (p:=⟨s1,0,none⟩) ru.out (Ne.symm hne) (.int .i64 (Ta xs a).f0)) (Ne.symm hne) (.int .i64 (Ta xs a).f1))
 clear Gp Fp Bp Ap
 refine hK.out _ _ ⟨(HG.out _ Og.out).1,(HG.out _ Og.out).2.1,(HG.out _ Og.out).2.2.1,(HG.out _ Og.out).2.2.2.1,(HG.out _ Og.out).2.2.2.2.1,(HG.out _ Og.out).2.2.2.2.2.1,(HG.out _ Og.out).2.2.2.2.2.2⟩ (fun hHeld=>?_)
 clear hK K
 refine Wq (i:=19) (N:=none) #[true,true,true,true,true,true,true,true,true,true,true,true,true,true,true,true,true,true,true,true] rfl rfl (by kernel_rfl) (by decide) (fun K hK=>?_)
 have Ep:=(ga Zi.out 0).trans rfl
 have Dp:=(ga Zi.out 1).trans rfl
 have zp:=aa Zi.out 0
 have yp:=aa Zi.out 1
 refine si (w1:=?_) (by rfl) rfl ?_ ?_
 rotate_left
 ·go_simp
  rfl
 refine hK.out _ _ ?_
 clear hK K
 refine Yh (by kernel_rfl) ?_
 obtain ⟨W5,hW5⟩:∃ W5,W5=(((W3.setCell ⟨s1,0,none⟩ (.int .i64 (Ta xs a).f0)).setCell ⟨s1,1,none⟩ (.int .i64 (Ta xs a).f1)).setCell ⟨s2,0,none⟩ (.int .i64 (Ta xs b).f0)).setCell ⟨s2,1,none⟩ (.int .i64 (Ta xs b).f1):=⟨_,rfl⟩
 rw [← hW5]
 have Ti:Below W1.heap.size W1 W5:=by rw [hW5];exact (Og.out.setCell xk _).setCell xk _
 have ju:W5.heap[s1]? = some (.cells #[.int .i64 (Ta xs a).f0,.int .i64 (Ta xs a).f1] 79 (0,0)):=by rw [hW5];exact Rb (p:=⟨s2,1,none⟩) (Rb (p:=⟨s2,0,none⟩) su.out hne _) hne _
 have hm2:W5.heap[s2]? = some (.cells #[.int .i64 (Ta xs b).f0,.int .i64 (Ta xs b).f1] 79 (0,0)):=by rw [hW5];exact Db (cs:=#[.int .i64 (Ta xs b).f0,.int .i64 0]) (Db (cs:=#[.int .i64 0,.int .i64 0]) Zi.out 0 _ rfl) 1 _ rfl
 clear hW5 su Zi Yi ru Ep Dp zp yp Og tu hd1 Cp hd3 Lg Kg Wg Vg hx0 hx1 Gk Fk qm vp om hr0 En Fj Ej nr hk1 Jr HG Gd AA
 have HR:=qa.mk (Wa HR.out Ti)
 have HX:=qa.mk (Wa HX.out Ti)
 have We:=qa.mk (Wa We.out Ti)
 have DA:=Ti.size
 have HB:=qa.mk (Pa HB.out Ti)
 clear Ti
 have hk1:=(ga We.out 1).trans rfl
 have Jr:=aa We.out 1
 have hr0:=(ga HR.out 0).trans rfl
 have En:=(ga HR.out 1).trans rfl
 have Fj:=aa HR.out 0
 have Ej:=aa HR.out 1
 have om:=(ga HX.out 6).trans rfl
 have KA:=(ga ju 0).trans rfl
 have JA:=(ga ju 1).trans rfl
 have IA:=(ga hm2 0).trans rfl
 have GA:=(ga hm2 1).trans rfl
 go_wp2_with (first|(go_at_call 119;(with_reducible refine (Il _ _ _ _).mono ?_);rintro e w1 ⟨rfl,⟨k1,rfl⟩⟩))
 all_goals
  have hz:=HZ.out
  refine bodyPost_ret (results_cell_row rfl _ _ (W.heap.size + 1) 79 #[.int .i64 (Ta xs a).f0,.int .i64 (wrap64 ((Ta xs a).f1 + (Ta xs b).f1))] (0,0) _ rfl ?_ Try.underlying79 rfl (by kernel_rfl)) rfl ?_
  ·exact Db (cs:=#[.int .i64 (Ta xs a).f0,.int .i64 0]) (Db (cs:=#[.int .i64 0,.int .i64 0]) (by (with_reducible repeat (first|refine Ea ?_ _|refine Ga ?_|refine Da ?_ _));exact HR.out) 0 _ rfl) 1 _ rfl
  ·exact ⟨rfl,by repeat (first|exact HB.out|apply ja|apply za|apply ia|refine Aa ?_ (by first|omega|(simp;done)|(simp;omega)))⟩
set_option maxHeartbeats 2000000 in
set_option maxRecDepth 100000 in
theorem mH (hk:KV W B kb v xs nx) (d a b c n:Int) (t:ByteArray) (ha0:0 ≤ a) (ha1:a < xs.length) (hb0:0 ≤ b) (hb1:b < xs.length) (hA:((Ta xs a).f0 == -1)=false) (sQ:((Ta xs b).f0 == -1)=true) (tQ:(t.toList == [43])=false) (rW:(t.toList == [45])=true) :
  Calls Try.prog 92 #[.pointer (some ⟨kb,0,none⟩),.agg #[.int .i64 2,.int .i64 d,.int .i64 a,.int .i64 b,.int .i64 c,.int .i64 n,.string t]] W fun e w'=>e = .returned (.agg #[.int .i64 (Ta xs a).f0,.int .i64 (wrap64 ((Ta xs a).f1 - (Ta xs b).f1))])∧Below W.heap.size W w':=by
 obtain ⟨hB,h2,h3⟩:=hk
 have kB:=qa.mk h2
 have hlt:=Ac h2
 obtain ⟨W1,hW1⟩:∃ W1,W1=(W.alloc (.cells #[.int .i64 2,.int .i64 d,.int .i64 a,.int .i64 b,.int .i64 c,.int .i64 n,.string t] 70 (0,0))).alloc (.cells #[.int .i64 0,.int .i64 0] 79 (0,0)):=⟨_,rfl⟩
 have HW:=qa.mk hW1
 have Ri:Below W.heap.size W W1:=by rw [hW1];exact ia (ia (Below.refl _ _) _) _
 have hz:W1.heap.size=W.heap.size + 2:=by rw [hW1];simp
 have We:=qa.mk (Wa h2 Ri)
 have nr:=(ga We.out 0).trans rfl
 have hk1:=(ga We.out 1).trans rfl
 have Jr:=aa We.out 1
 have oh:W1.heap[W.heap.size + 1]? = some (.cells #[.int .i64 0,.int .i64 0] 79 (0,0)):=by rw [hW1];have:=Yc (W.alloc (.cells #[.int .i64 2,.int .i64 d,.int .i64 a,.int .i64 b,.int .i64 c,.int .i64 n,.string t] 70 (0,0))) (.cells #[.int .i64 0,.int .i64 0] 79 (0,0));simpa using this
 have Af:W1.heap[W.heap.size]? = some (.cells #[.int .i64 2,.int .i64 d,.int .i64 a,.int .i64 b,.int .i64 c,.int .i64 n,.string t] 70 (0,0)):=by rw [hW1];exact Da (Yc _ _) _
 have HR:=qa.mk oh
 have HX:=qa.mk Af
 have hr0:=(ga oh 0).trans rfl
 have En:=(ga oh 1).trans rfl
 have Fj:=aa oh 0
 have Ej:=aa oh 1
 have hx0:=(ga Af 0).trans rfl
 have hx1:=(ga Af 1).trans rfl
 have Gk:=(ga Af 2).trans rfl
 have Fk:=(ga Af 3).trans rfl
 have qm:=(ga Af 4).trans rfl
 have vp:=(ga Af 5).trans rfl
 have om:=(ga Af 6).trans rfl
 have HB:=qa.mk Ri
 obtain ⟨A,cc,rfl,_,hC⟩:=Kd.Kh (Kd.Ge h3 Ri)
 have dD:=hC.2.1
 obtain ⟨ad,e1,Lg,Kg⟩:=Bh hC a ha0 ha1
 cases e1
 obtain ⟨BO,e1,Wg,Vg⟩:=Bh hC b hb0 hb1
 cases e1
 obtain ⟨g,rfl⟩:=Kd.jm h3
 have Ly:g < W.heap.size:=by
  obtain ⟨inner,hi⟩:=Kd.Pk h3
  exact Lk hi g (by simp [Value.ownBlock])
 have FA:g ≠ W1.heap.size:=by omega
 have dH:g ≠ W1.heap.size + 1:=by omega
 simp only [add_plain] at Lg Kg Wg Vg
 clear hC
 have Uw:kb ≠ W1.heap.size:=by omega
 have Tw:kb ≠ W1.heap.size + 1:=by omega
 have hw1:W.heap.size ≠ W1.heap.size:=by omega
 have XH:W.heap.size ≠ W1.heap.size + 1:=by omega
 have WH:W.heap.size + 1 ≠ W1.heap.size:=by omega
 have VH:W.heap.size + 1 ≠ W1.heap.size + 1:=by omega
 have HZ:=qa.mk hz
 clear hW1 oh Af h2 h3 Ri hz
 go_enter Try.func92,Try.ntmps92
 go_upto_region 1 with (fail)
 rw [← HW.out]
 clear HW
 go_upto_region 7 with (fail)
 have Gd:=qa.mk (za (Below.refl W1.heap.size W1))
 have hd1:W1.cell? ⟨kb,0,none⟩=some (.slice (some ⟨g,0,none⟩) xs.length cc):=nr
 have Cp:W1.cell? ⟨W.heap.size,2,none⟩=some (.int .i64 a):=Gk
 have hd3:W1.cell? ⟨W.heap.size,3,none⟩=some (.int .i64 b):=Fk
 have HG:=qa.mk (fun (W3:World) (h:Below W1.heap.size W1 W3)=>(⟨Ab h hd1,Ab h Cp,Ab h hd3,Ab h Lg,Ab h Kg,Ab h Wg,Ab h Vg⟩:W3.cell? ⟨kb,0,none⟩=some (.slice (some ⟨g,0,none⟩) xs.length cc)∧W3.cell? ⟨W.heap.size,2,none⟩=some (.int .i64 a)∧W3.cell? ⟨W.heap.size,3,none⟩=some (.int .i64 b)∧W3.cell? ⟨g,a.toNat * 2,none⟩=some (.int .i64 (Ta xs a).f0)∧W3.cell? ⟨g,a.toNat * 2 + 1,none⟩=some (.int .i64 (Ta xs a).f1)∧W3.cell? ⟨g,b.toNat * 2,none⟩=some (.int .i64 (Ta xs b).f0)∧W3.cell? ⟨g,b.toNat * 2 + 1,none⟩=some (.int .i64 (Ta xs b).f1)))
 refine Pg (n:=20) (S:=fun w'=>w'.cell? ⟨kb,0,none⟩=some (.slice (some ⟨g,0,none⟩) xs.length cc)∧w'.cell? ⟨W.heap.size,2,none⟩=some (.int .i64 a)∧w'.cell? ⟨W.heap.size,3,none⟩=some (.int .i64 b)∧w'.cell? ⟨g,a.toNat * 2,none⟩=some (.int .i64 (Ta xs a).f0)∧w'.cell? ⟨g,a.toNat * 2 + 1,none⟩=some (.int .i64 (Ta xs a).f1)∧w'.cell? ⟨g,b.toNat * 2,none⟩=some (.int .i64 (Ta xs b).f0)∧w'.cell? ⟨g,b.toNat * 2 + 1,none⟩=some (.int .i64 (Ta xs b).f1)) (ds:=[19]) #[false,false,false,false,false,false,false,false,false,false,false,false,false,false,false,false,false,false,false,false] (by kernel_rfl) rfl rfl ⟨hd1,Cp,hd3,Lg,Kg,Wg,Vg⟩ (fun hHeld=>?_)
 refine Nb (i:=0) (N:=some 26) (v:=?_) (a':=?_) #[true,false,false,false,false,false,false,false,false,false,false,false,false,false,false,false,false,false,false,false] rfl rfl (by kernel_rfl) (fun _ _ _ h=>h) (Or.inl ⟨by rfl,?_⟩) ?_ ?_
 rotate_left
 ·intro w'
  go_simp
  with_reducible rfl
 rotate_left
 ·simp only [Act.put,List.setIfInBounds_toArray,List.set_cons_zero,List.set_cons_succ,Za,gb]
  rfl
 refine Nb (i:=1) (N:=some 27) (v:=?_) (a':=?_) #[true,true,false,false,false,false,false,false,false,false,false,false,false,false,false,false,false,false,false,false] rfl rfl (by kernel_rfl) (fun _ _ _ h=>h) (Or.inl ⟨by rfl,?_⟩) ?_ ?_
 rotate_left
 ·intro w'
  go_simp
  with_reducible rfl
 rotate_left
 ·simp only [Act.put,List.setIfInBounds_toArray,List.set_cons_zero,List.set_cons_succ,Za,gb]
  rfl
 refine Nb (i:=2) (N:=some 28) (v:=?_) (a':=?_) #[true,true,true,false,false,false,false,false,false,false,false,false,false,false,false,false,false,false,false,false] rfl rfl (by kernel_rfl) (fun _ _ _ h=>h) (Or.inl ⟨by rfl,?_⟩) ?_ ?_
 rotate_left
 ·intro w'
  go_simp
  with_reducible rfl
 rotate_left
 ·simp only [Act.put,List.setIfInBounds_toArray,List.set_cons_zero,List.set_cons_succ,Za,gb]
  rfl
 refine Nb (i:=4) (N:=some 30) (v:=?_) (a':=?_) #[true,true,true,false,true,false,false,false,false,false,false,false,false,false,false,false,false,false,false,false] rfl rfl (by kernel_rfl) (fun _ _ _ h=>h) (Or.inl ⟨by rfl,?_⟩) ?_ ?_
 rotate_left
 ·intro w'
  go_simp
  with_reducible rfl
 rotate_left
 ·simp only [Act.put,List.setIfInBounds_toArray,List.set_cons_zero,List.set_cons_succ,Za,gb]
  rfl
 refine Nb (i:=8) (N:=some 34) (v:=?_) (a':=?_) #[true,true,true,false,true,false,false,false,true,false,false,false,false,false,false,false,false,false,false,false] rfl rfl (by kernel_rfl) (fun _ _ _ h=>h) (Or.inl ⟨by rfl,?_⟩) ?_ ?_
 rotate_left
 ·intro w'
  go_simp
  with_reducible rfl
 rotate_left
 ·simp only [Act.put,List.setIfInBounds_toArray,List.set_cons_zero,List.set_cons_succ,Za,gb]
  rfl
 refine Nb (i:=9) (N:=some 35) (v:=?_) (a':=?_) #[true,true,true,false,true,false,false,false,true,true,false,false,false,false,false,false,false,false,false,false] rfl rfl (by kernel_rfl) (fun _ _ _ h=>h) (Or.inl ⟨by rfl,?_⟩) ?_ ?_
 rotate_left
 ·intro w'
  go_simp
  with_reducible rfl
 rotate_left
 ·simp only [Act.put,List.setIfInBounds_toArray,List.set_cons_zero,List.set_cons_succ,Za,gb]
  rfl
 refine Nb (i:=10) (N:=some 36) (v:=?_) (a':=?_) #[true,true,true,false,true,false,false,false,true,true,true,false,false,false,false,false,false,false,false,false] rfl rfl (by kernel_rfl) (fun _ _ _ h=>h) (Or.inl ⟨by rfl,?_⟩) ?_ ?_
 rotate_left
 ·intro w'
  go_simp
  with_reducible rfl
 rotate_left
 ·simp only [Act.put,List.setIfInBounds_toArray,List.set_cons_zero,List.set_cons_succ,Za,gb]
  rfl
 refine Nb (i:=12) (N:=some 38) (v:=?_) (a':=?_) #[true,true,true,false,true,false,false,false,true,true,true,false,true,false,false,false,false,false,false,false] rfl rfl (by kernel_rfl) (fun _ _ _ h=>h) (Or.inl ⟨by rfl,?_⟩) ?_ ?_
 rotate_left
 ·intro w'
  go_simp
  with_reducible rfl
 rotate_left
 ·simp only [Act.put,List.setIfInBounds_toArray,List.set_cons_zero,List.set_cons_succ,Za,gb]
  rfl
 refine Jd (i:=3) (N:=some 29) (v:=?_) (a':=?_) #[true,true,true,true,true,false,false,false,true,true,true,false,true,false,false,false,false,false,false,false] rfl rfl (by kernel_rfl) (fun _ _ _ h=>h) (Or.inl ⟨by rfl,?_⟩) hHeld ?_ ?_
 rotate_left
 ·rintro w' ⟨s0,s1,s2,s3,s4,s5,s6⟩
  go_simp
  with_reducible rfl
 rotate_left
 ·simp only [Act.put,List.setIfInBounds_toArray,List.set_cons_zero,List.set_cons_succ,Za,gb]
  rfl
 refine Jd (i:=5) (N:=some 31) (v:=?_) (a':=?_) #[true,true,true,true,true,true,false,false,true,true,true,false,true,false,false,false,false,false,false,false] rfl rfl (by kernel_rfl) (fun _ _ _ h=>h) (Or.inl ⟨by rfl,?_⟩) hHeld ?_ ?_
 rotate_left
 ·rintro w' ⟨s0,s1,s2,s3,s4,s5,s6⟩
  go_simp
  with_reducible rfl
 rotate_left
 ·simp only [Act.put,List.setIfInBounds_toArray,List.set_cons_zero,List.set_cons_succ,Za,gb]
  rfl
 refine Nb (i:=6) (N:=some 32) (v:=?_) (a':=?_) #[true,true,true,true,true,true,true,false,true,true,true,false,true,false,false,false,false,false,false,false] rfl rfl (by kernel_rfl) (fun _ _ _ h=>h) (Or.inl ⟨by rfl,?_⟩) ?_ ?_
 rotate_left
 ·intro w'
  go_simp
  with_reducible rfl
 rotate_left
 ·simp only [Act.put,List.setIfInBounds_toArray,List.set_cons_zero,List.set_cons_succ,Za,gb]
  rfl
 refine Jd (i:=7) (N:=some 33) (v:=?_) (a':=?_) #[true,true,true,true,true,true,true,true,true,true,true,false,true,false,false,false,false,false,false,false] rfl rfl (by kernel_rfl) (fun _ _ _ h=>h) (Or.inl ⟨by rfl,?_⟩) hHeld ?_ ?_
 rotate_left
 ·rintro w' ⟨s0,s1,s2,s3,s4,s5,s6⟩
  go_simp
  with_reducible rfl
 rotate_left
 ·simp only [Act.put,List.setIfInBounds_toArray,List.set_cons_zero,List.set_cons_succ,Za,gb]
  rfl
 refine Jd (i:=11) (N:=some 37) (v:=?_) (a':=?_) #[true,true,true,true,true,true,true,true,true,true,true,true,true,false,false,false,false,false,false,false] rfl rfl (by kernel_rfl) (fun _ _ _ h=>h) (Or.inl ⟨by rfl,?_⟩) hHeld ?_ ?_
 rotate_left
 ·rintro w' ⟨s0,s1,s2,s3,s4,s5,s6⟩
  go_simp
  with_reducible rfl
 rotate_left
 ·simp only [Act.put,List.setIfInBounds_toArray,List.set_cons_zero,List.set_cons_succ,Za,gb]
  rfl
 refine Jd (i:=13) (N:=some 39) (v:=?_) (a':=?_) #[true,true,true,true,true,true,true,true,true,true,true,true,true,true,false,false,false,false,false,false] rfl rfl (by kernel_rfl) (fun _ _ _ h=>h) (Or.inl ⟨by rfl,?_⟩) hHeld ?_ ?_
 rotate_left
 ·rintro w' ⟨s0,s1,s2,s3,s4,s5,s6⟩
  go_simp
  with_reducible rfl
 rotate_left
 ·simp only [Act.put,List.setIfInBounds_toArray,List.set_cons_zero,List.set_cons_succ,Za,gb]
  rfl
 refine Nb (i:=14) (N:=some 40) (v:=?_) (a':=?_) #[true,true,true,true,true,true,true,true,true,true,true,true,true,true,true,false,false,false,false,false] rfl rfl (by kernel_rfl) (fun _ _ _ h=>h) (Or.inl ⟨by rfl,?_⟩) ?_ ?_
 rotate_left
 ·intro w'
  go_simp
  with_reducible rfl
 rotate_left
 ·simp only [Act.put,List.setIfInBounds_toArray,List.set_cons_zero,List.set_cons_succ,Za,gb]
  rfl
 refine Jd (i:=15) (N:=some 41) (v:=?_) (a':=?_) #[true,true,true,true,true,true,true,true,true,true,true,true,true,true,true,true,false,false,false,false] rfl rfl (by kernel_rfl) (fun _ _ _ h=>h) (Or.inl ⟨by rfl,?_⟩) hHeld ?_ ?_
 rotate_left
 ·rintro w' ⟨s0,s1,s2,s3,s4,s5,s6⟩
  go_simp
  with_reducible rfl
 rotate_left
 ·simp only [Act.put,List.setIfInBounds_toArray,List.set_cons_zero,List.set_cons_succ,Za,gb]
  rfl
 refine Gr (σ:=Nat × Nat) 2 #[true,true,true,true,true,true,true,true,true,true,true,true,true,true,true,true,true,true,false,false] (fun s=>[(5,.pointer (some ⟨s.1,0,none⟩)),(6,.pointer (some ⟨s.2,0,none⟩))]) (fun s w'=>w' = (W1.drew.alloc (.cells #[.int .i64 0,.int .i64 0] 79 (0,0))).alloc (.cells #[.int .i64 0,.int .i64 0] 79 (0,0))∧((s.1=W1.heap.size∧s.2=W1.heap.size + 1) ∨ (s.1=W1.heap.size + 1∧s.2=W1.heap.size))) ?_ ?_
 rotate_left
 ·intro yh
  refine uy (i:=16) (j:=17) (Ni:=some 5) (Nj:=some 6) #[true,true,true,true,true,true,true,true,true,true,true,true,true,true,true,true,true,false,false,false] #[true,true,true,true,true,true,true,true,true,true,true,true,true,true,true,true,false,true,false,false] rfl rfl rfl rfl (by kernel_rfl) (by decide) (by decide) (fun K hK=>?_) (fun K hK=>?_)
  ·skip
   refine jf (w1:=?_) (v:=?_) (by rfl) rfl ?_ ?_
   rotate_left 2
   ·go_simp
    constructor
    ·rfl
    ·rfl
   refine hK.out _ _ ⟨(HG.out _ (ia Gd.out _)).1,(HG.out _ (ia Gd.out _)).2.1,(HG.out _ (ia Gd.out _)).2.2.1,(HG.out _ (ia Gd.out _)).2.2.2.1,(HG.out _ (ia Gd.out _)).2.2.2.2.1,(HG.out _ (ia Gd.out _)).2.2.2.2.2.1,(HG.out _ (ia Gd.out _)).2.2.2.2.2.2⟩ (fun hHeld=>?_)
   clear hK K
   refine Xd (a':=?_) ?_ ?_
   rotate_left
   ·show Act.put _ (some 5) _=_
    simp only [Act.put,List.setIfInBounds_toArray,List.set_cons_zero,List.set_cons_succ,Za,gb]
    rfl
   refine gh (i:=17) (N:=some 6) #[true,true,true,true,true,true,true,true,true,true,true,true,true,true,true,true,true,true,false,false] rfl rfl (by kernel_rfl) (by decide) (fun K hK=>?_)
   refine jf (w1:=?_) (v:=?_) (by rfl) rfl ?_ ?_
   rotate_left 2
   ·go_simp
    constructor
    ·rfl
    ·rfl
   refine hK.out _ _ ⟨(HG.out _ (ia (ia Gd.out _) _)).1,(HG.out _ (ia (ia Gd.out _) _)).2.1,(HG.out _ (ia (ia Gd.out _) _)).2.2.1,(HG.out _ (ia (ia Gd.out _) _)).2.2.2.1,(HG.out _ (ia (ia Gd.out _) _)).2.2.2.2.1,(HG.out _ (ia (ia Gd.out _) _)).2.2.2.2.2.1,(HG.out _ (ia (ia Gd.out _) _)).2.2.2.2.2.2⟩ (fun hHeld=>?_)
   clear hK K
   refine Xd (a':=?_) ?_ ?_
   rotate_left
   ·show Act.put _ (some 6) _=_
    simp only [Act.put,List.setIfInBounds_toArray,List.set_cons_zero,List.set_cons_succ,Za,gb]
    rfl
   exact Xd (by simp only [Kf,Act.put,List.setIfInBounds_toArray,List.set_cons_zero,List.set_cons_succ]) (yh (W1.heap.size,W1.heap.size + 1) _ ⟨rfl,Or.inl ⟨rfl,rfl⟩⟩)
  ·skip
   refine jf (w1:=?_) (v:=?_) (by rfl) rfl ?_ ?_
   rotate_left 2
   ·go_simp
    constructor
    ·rfl
    ·rfl
   refine hK.out _ _ ⟨(HG.out _ (ia Gd.out _)).1,(HG.out _ (ia Gd.out _)).2.1,(HG.out _ (ia Gd.out _)).2.2.1,(HG.out _ (ia Gd.out _)).2.2.2.1,(HG.out _ (ia Gd.out _)).2.2.2.2.1,(HG.out _ (ia Gd.out _)).2.2.2.2.2.1,(HG.out _ (ia Gd.out _)).2.2.2.2.2.2⟩ (fun hHeld=>?_)
   clear hK K
   refine Xd (a':=?_) ?_ ?_
   rotate_left
   ·show Act.put _ (some 6) _=_
    simp only [Act.put,List.setIfInBounds_toArray,List.set_cons_zero,List.set_cons_succ,Za,gb]
    rfl
   refine gh (i:=16) (N:=some 5) #[true,true,true,true,true,true,true,true,true,true,true,true,true,true,true,true,true,true,false,false] rfl rfl (by kernel_rfl) (by decide) (fun K hK=>?_)
   refine jf (w1:=?_) (v:=?_) (by rfl) rfl ?_ ?_
   rotate_left 2
   ·go_simp
    constructor
    ·rfl
    ·rfl
   refine hK.out _ _ ⟨(HG.out _ (ia (ia Gd.out _) _)).1,(HG.out _ (ia (ia Gd.out _) _)).2.1,(HG.out _ (ia (ia Gd.out _) _)).2.2.1,(HG.out _ (ia (ia Gd.out _) _)).2.2.2.1,(HG.out _ (ia (ia Gd.out _) _)).2.2.2.2.1,(HG.out _ (ia (ia Gd.out _) _)).2.2.2.2.2.1,(HG.out _ (ia (ia Gd.out _) _)).2.2.2.2.2.2⟩ (fun hHeld=>?_)
   clear hK K
   refine Xd (a':=?_) ?_ ?_
   rotate_left
   ·show Act.put _ (some 5) _=_
    simp only [Act.put,List.setIfInBounds_toArray,List.set_cons_zero,List.set_cons_succ,Za,gb]
    rfl
   exact Xd (by simp only [Kf,Act.put,List.setIfInBounds_toArray,List.set_cons_zero,List.set_cons_succ]) (yh (W1.heap.size + 1,W1.heap.size) _ ⟨rfl,Or.inr ⟨rfl,rfl⟩⟩)
 rintro ⟨s1,s2⟩ W3 ⟨Ak,hs⟩
 simp only at hs
 have hne:s1 ≠ s2:=by omega
 have zk:W1.heap.size ≤ s1:=by omega
 have xk:W1.heap.size ≤ s2:=by omega
 have Hp:Below W1.heap.size W1 W3:=by rw [Ak];exact ia (ia Gd.out _) _
 have AA:W3.heap.size=W1.heap.size + 2:=by rw [Ak];simp
 have qn:W3.heap[s1]? = some (.cells #[.int .i64 0,.int .i64 0] 79 (0,0)):=by
  rw [Ak]
  rcases hs with ⟨e,_⟩|⟨e,_⟩
  ·rw [e];exact Da (Yc W1.drew _) _
  ·rw [e];have:=Yc (W1.drew.alloc (.cells #[.int .i64 0,.int .i64 0] 79 (0,0))) (.cells #[.int .i64 0,.int .i64 0] 79 (0,0));simpa using this
 have hn2:W3.heap[s2]? = some (.cells #[.int .i64 0,.int .i64 0] 79 (0,0)):=by
  rw [Ak]
  rcases hs with ⟨_,e⟩|⟨_,e⟩
  ·rw [e];have:=Yc (W1.drew.alloc (.cells #[.int .i64 0,.int .i64 0] 79 (0,0))) (.cells #[.int .i64 0,.int .i64 0] 79 (0,0));simpa using this
  ·rw [e];exact Da (Yc W1.drew _) _
 clear Ak hs
 have tu:=qa.mk Hp
 have hHeld:=HG.out W3 Hp
 have Yi:=qa.mk qn
 have ru:=qa.mk hn2
 clear Hp qn hn2
 refine Xd (a':=?_) ?_ ?_
 rotate_left
 ·simp only [Kf,Act.put,List.setIfInBounds_toArray,List.set_cons_zero,List.set_cons_succ]
  rfl
 refine gh (i:=18) (N:=none) #[true,true,true,true,true,true,true,true,true,true,true,true,true,true,true,true,true,true,true,false] rfl rfl (by kernel_rfl) (by decide) (fun K hK=>?_)
 have Gp:=(ga Yi.out 0).trans rfl
 have Fp:=(ga Yi.out 1).trans rfl
 have Bp:=aa Yi.out 0
 have Ap:=aa Yi.out 1
 refine si (w1:=?_) (by rfl) rfl ?_ ?_
 rotate_left
 ·go_simp
  rfl
 have Og:=qa.mk (show Below W1.heap.size W1 ((W3.setCell ⟨s1,0,none⟩ (.int .i64 (Ta xs a).f0)).setCell ⟨s1,1,none⟩ (.int .i64 (Ta xs a).f1)) from (tu.out.setCell zk _).setCell zk _)
 have su:=qa.mk (Db (cs:=#[.int .i64 (Ta xs a).f0,.int .i64 0]) (Db (cs:=#[.int .i64 0,.int .i64 0]) Yi.out 0 (.int .i64 (Ta xs a).f0) rfl) 1 (.int .i64 (Ta xs a).f1) rfl)
 have Zi:=qa.mk (Rb (p:=⟨s1,1,none⟩) (Rb (p:=⟨s1,0,none⟩) ru.out (Ne.symm hne) (.int .i64 (Ta xs a).f0)) (Ne.symm hne) (.int .i64 (Ta xs a).f1))
 clear Gp Fp Bp Ap
 refine hK.out _ _ ⟨(HG.out _ Og.out).1,(HG.out _ Og.out).2.1,(HG.out _ Og.out).2.2.1,(HG.out _ Og.out).2.2.2.1,(HG.out _ Og.out).2.2.2.2.1,(HG.out _ Og.out).2.2.2.2.2.1,(HG.out _ Og.out).2.2.2.2.2.2⟩ (fun hHeld=>?_)
 clear hK K
 refine Wq (i:=19) (N:=none) #[true,true,true,true,true,true,true,true,true,true,true,true,true,true,true,true,true,true,true,true] rfl rfl (by kernel_rfl) (by decide) (fun K hK=>?_)
 have Ep:=(ga Zi.out 0).trans rfl
 have Dp:=(ga Zi.out 1).trans rfl
 have zp:=aa Zi.out 0
 have yp:=aa Zi.out 1
 refine si (w1:=?_) (by rfl) rfl ?_ ?_
 rotate_left
 ·go_simp
  rfl
 refine hK.out _ _ ?_
 clear hK K
 refine Yh (by kernel_rfl) ?_
 obtain ⟨W5,hW5⟩:∃ W5,W5=(((W3.setCell ⟨s1,0,none⟩ (.int .i64 (Ta xs a).f0)).setCell ⟨s1,1,none⟩ (.int .i64 (Ta xs a).f1)).setCell ⟨s2,0,none⟩ (.int .i64 (Ta xs b).f0)).setCell ⟨s2,1,none⟩ (.int .i64 (Ta xs b).f1):=⟨_,rfl⟩
 rw [← hW5]
 have Ti:Below W1.heap.size W1 W5:=by rw [hW5];exact (Og.out.setCell xk _).setCell xk _
 have ju:W5.heap[s1]? = some (.cells #[.int .i64 (Ta xs a).f0,.int .i64 (Ta xs a).f1] 79 (0,0)):=by rw [hW5];exact Rb (p:=⟨s2,1,none⟩) (Rb (p:=⟨s2,0,none⟩) su.out hne _) hne _
 have hm2:W5.heap[s2]? = some (.cells #[.int .i64 (Ta xs b).f0,.int .i64 (Ta xs b).f1] 79 (0,0)):=by rw [hW5];exact Db (cs:=#[.int .i64 (Ta xs b).f0,.int .i64 0]) (Db (cs:=#[.int .i64 0,.int .i64 0]) Zi.out 0 _ rfl) 1 _ rfl
 clear hW5 su Zi Yi ru Ep Dp zp yp Og tu hd1 Cp hd3 Lg Kg Wg Vg hx0 hx1 Gk Fk qm vp om hr0 En Fj Ej nr hk1 Jr HG Gd AA
 have HR:=qa.mk (Wa HR.out Ti)
 have HX:=qa.mk (Wa HX.out Ti)
 have We:=qa.mk (Wa We.out Ti)
 have DA:=Ti.size
 have HB:=qa.mk (Pa HB.out Ti)
 clear Ti
 have hk1:=(ga We.out 1).trans rfl
 have Jr:=aa We.out 1
 have hr0:=(ga HR.out 0).trans rfl
 have En:=(ga HR.out 1).trans rfl
 have Fj:=aa HR.out 0
 have Ej:=aa HR.out 1
 have om:=(ga HX.out 6).trans rfl
 have KA:=(ga ju 0).trans rfl
 have JA:=(ga ju 1).trans rfl
 have IA:=(ga hm2 0).trans rfl
 have GA:=(ga hm2 1).trans rfl
 go_wp2_with (first|(go_at_call 119;(with_reducible refine (Il _ _ _ _).mono ?_);rintro e w1 ⟨rfl,⟨k1,rfl⟩⟩))
 all_goals
  have hz:=HZ.out
  refine bodyPost_ret (results_cell_row rfl _ _ (W.heap.size + 1) 79 #[.int .i64 (Ta xs a).f0,.int .i64 (wrap64 ((Ta xs a).f1 - (Ta xs b).f1))] (0,0) _ rfl ?_ Try.underlying79 rfl (by kernel_rfl)) rfl ?_
  ·exact Db (cs:=#[.int .i64 (Ta xs a).f0,.int .i64 0]) (Db (cs:=#[.int .i64 0,.int .i64 0]) (by (with_reducible repeat (first|refine Ea ?_ _|refine Ga ?_|refine Da ?_ _));exact HR.out) 0 _ rfl) 1 _ rfl
  ·exact ⟨rfl,by repeat (first|exact HB.out|apply ja|apply za|apply ia|refine Aa ?_ (by first|omega|(simp;done)|(simp;omega)))⟩
set_option maxHeartbeats 2000000 in
set_option maxRecDepth 100000 in
theorem lH (hk:KV W B kb v xs nx) (d a b c n:Int) (t:ByteArray) (ha0:0 ≤ a) (ha1:a < xs.length) (hb0:0 ≤ b) (hb1:b < xs.length) (hA:((Ta xs a).f0 == -1)=false) (sQ:((Ta xs b).f0 == -1)=false) (tQ:(t.toList == [43])=false) (rW:(t.toList == [45])=true) (hE:((Ta xs a).f0 == (Ta xs b).f0)=true) :
  Calls Try.prog 92 #[.pointer (some ⟨kb,0,none⟩),.agg #[.int .i64 2,.int .i64 d,.int .i64 a,.int .i64 b,.int .i64 c,.int .i64 n,.string t]] W fun e w'=>e = .returned (.agg #[.int .i64 (-1),.int .i64 (wrap64 ((Ta xs a).f1 - (Ta xs b).f1))])∧Below W.heap.size W w':=by
 obtain ⟨hB,h2,h3⟩:=hk
 have kB:=qa.mk h2
 have hlt:=Ac h2
 obtain ⟨W1,hW1⟩:∃ W1,W1=(W.alloc (.cells #[.int .i64 2,.int .i64 d,.int .i64 a,.int .i64 b,.int .i64 c,.int .i64 n,.string t] 70 (0,0))).alloc (.cells #[.int .i64 0,.int .i64 0] 79 (0,0)):=⟨_,rfl⟩
 have HW:=qa.mk hW1
 have Ri:Below W.heap.size W W1:=by rw [hW1];exact ia (ia (Below.refl _ _) _) _
 have hz:W1.heap.size=W.heap.size + 2:=by rw [hW1];simp
 have We:=qa.mk (Wa h2 Ri)
 have nr:=(ga We.out 0).trans rfl
 have hk1:=(ga We.out 1).trans rfl
 have Jr:=aa We.out 1
 have oh:W1.heap[W.heap.size + 1]? = some (.cells #[.int .i64 0,.int .i64 0] 79 (0,0)):=by rw [hW1];have:=Yc (W.alloc (.cells #[.int .i64 2,.int .i64 d,.int .i64 a,.int .i64 b,.int .i64 c,.int .i64 n,.string t] 70 (0,0))) (.cells #[.int .i64 0,.int .i64 0] 79 (0,0));simpa using this
 have Af:W1.heap[W.heap.size]? = some (.cells #[.int .i64 2,.int .i64 d,.int .i64 a,.int .i64 b,.int .i64 c,.int .i64 n,.string t] 70 (0,0)):=by rw [hW1];exact Da (Yc _ _) _
 have HR:=qa.mk oh
 have HX:=qa.mk Af
 have hr0:=(ga oh 0).trans rfl
 have En:=(ga oh 1).trans rfl
 have Fj:=aa oh 0
 have Ej:=aa oh 1
 have hx0:=(ga Af 0).trans rfl
 have hx1:=(ga Af 1).trans rfl
 have Gk:=(ga Af 2).trans rfl
 have Fk:=(ga Af 3).trans rfl
 have qm:=(ga Af 4).trans rfl
 have vp:=(ga Af 5).trans rfl
 have om:=(ga Af 6).trans rfl
 have HB:=qa.mk Ri
 obtain ⟨A,cc,rfl,_,hC⟩:=Kd.Kh (Kd.Ge h3 Ri)
 have dD:=hC.2.1
 obtain ⟨ad,e1,Lg,Kg⟩:=Bh hC a ha0 ha1
 cases e1
 obtain ⟨BO,e1,Wg,Vg⟩:=Bh hC b hb0 hb1
 cases e1
 obtain ⟨g,rfl⟩:=Kd.jm h3
 have Ly:g < W.heap.size:=by
  obtain ⟨inner,hi⟩:=Kd.Pk h3
  exact Lk hi g (by simp [Value.ownBlock])
 have FA:g ≠ W1.heap.size:=by omega
 have dH:g ≠ W1.heap.size + 1:=by omega
 simp only [add_plain] at Lg Kg Wg Vg
 clear hC
 have Uw:kb ≠ W1.heap.size:=by omega
 have Tw:kb ≠ W1.heap.size + 1:=by omega
 have hw1:W.heap.size ≠ W1.heap.size:=by omega
 have XH:W.heap.size ≠ W1.heap.size + 1:=by omega
 have WH:W.heap.size + 1 ≠ W1.heap.size:=by omega
 have VH:W.heap.size + 1 ≠ W1.heap.size + 1:=by omega
 have HZ:=qa.mk hz
 clear hW1 oh Af h2 h3 Ri hz
 go_enter Try.func92,Try.ntmps92
 go_upto_region 1 with (fail)
 rw [← HW.out]
 clear HW
 go_upto_region 7 with (fail)
 have Gd:=qa.mk (za (Below.refl W1.heap.size W1))
 have hd1:W1.cell? ⟨kb,0,none⟩=some (.slice (some ⟨g,0,none⟩) xs.length cc):=nr
 have Cp:W1.cell? ⟨W.heap.size,2,none⟩=some (.int .i64 a):=Gk
 have hd3:W1.cell? ⟨W.heap.size,3,none⟩=some (.int .i64 b):=Fk
 have HG:=qa.mk (fun (W3:World) (h:Below W1.heap.size W1 W3)=>(⟨Ab h hd1,Ab h Cp,Ab h hd3,Ab h Lg,Ab h Kg,Ab h Wg,Ab h Vg⟩:W3.cell? ⟨kb,0,none⟩=some (.slice (some ⟨g,0,none⟩) xs.length cc)∧W3.cell? ⟨W.heap.size,2,none⟩=some (.int .i64 a)∧W3.cell? ⟨W.heap.size,3,none⟩=some (.int .i64 b)∧W3.cell? ⟨g,a.toNat * 2,none⟩=some (.int .i64 (Ta xs a).f0)∧W3.cell? ⟨g,a.toNat * 2 + 1,none⟩=some (.int .i64 (Ta xs a).f1)∧W3.cell? ⟨g,b.toNat * 2,none⟩=some (.int .i64 (Ta xs b).f0)∧W3.cell? ⟨g,b.toNat * 2 + 1,none⟩=some (.int .i64 (Ta xs b).f1)))
 refine Pg (n:=20) (S:=fun w'=>w'.cell? ⟨kb,0,none⟩=some (.slice (some ⟨g,0,none⟩) xs.length cc)∧w'.cell? ⟨W.heap.size,2,none⟩=some (.int .i64 a)∧w'.cell? ⟨W.heap.size,3,none⟩=some (.int .i64 b)∧w'.cell? ⟨g,a.toNat * 2,none⟩=some (.int .i64 (Ta xs a).f0)∧w'.cell? ⟨g,a.toNat * 2 + 1,none⟩=some (.int .i64 (Ta xs a).f1)∧w'.cell? ⟨g,b.toNat * 2,none⟩=some (.int .i64 (Ta xs b).f0)∧w'.cell? ⟨g,b.toNat * 2 + 1,none⟩=some (.int .i64 (Ta xs b).f1)) (ds:=[19]) #[false,false,false,false,false,false,false,false,false,false,false,false,false,false,false,false,false,false,false,false] (by kernel_rfl) rfl rfl ⟨hd1,Cp,hd3,Lg,Kg,Wg,Vg⟩ (fun hHeld=>?_)
 refine Nb (i:=0) (N:=some 26) (v:=?_) (a':=?_) #[true,false,false,false,false,false,false,false,false,false,false,false,false,false,false,false,false,false,false,false] rfl rfl (by kernel_rfl) (fun _ _ _ h=>h) (Or.inl ⟨by rfl,?_⟩) ?_ ?_
 rotate_left
 ·intro w'
  go_simp
  with_reducible rfl
 rotate_left
 ·simp only [Act.put,List.setIfInBounds_toArray,List.set_cons_zero,List.set_cons_succ,Za,gb]
  rfl
 refine Nb (i:=1) (N:=some 27) (v:=?_) (a':=?_) #[true,true,false,false,false,false,false,false,false,false,false,false,false,false,false,false,false,false,false,false] rfl rfl (by kernel_rfl) (fun _ _ _ h=>h) (Or.inl ⟨by rfl,?_⟩) ?_ ?_
 rotate_left
 ·intro w'
  go_simp
  with_reducible rfl
 rotate_left
 ·simp only [Act.put,List.setIfInBounds_toArray,List.set_cons_zero,List.set_cons_succ,Za,gb]
  rfl
 refine Nb (i:=2) (N:=some 28) (v:=?_) (a':=?_) #[true,true,true,false,false,false,false,false,false,false,false,false,false,false,false,false,false,false,false,false] rfl rfl (by kernel_rfl) (fun _ _ _ h=>h) (Or.inl ⟨by rfl,?_⟩) ?_ ?_
 rotate_left
 ·intro w'
  go_simp
  with_reducible rfl
 rotate_left
 ·simp only [Act.put,List.setIfInBounds_toArray,List.set_cons_zero,List.set_cons_succ,Za,gb]
  rfl
 refine Nb (i:=4) (N:=some 30) (v:=?_) (a':=?_) #[true,true,true,false,true,false,false,false,false,false,false,false,false,false,false,false,false,false,false,false] rfl rfl (by kernel_rfl) (fun _ _ _ h=>h) (Or.inl ⟨by rfl,?_⟩) ?_ ?_
 rotate_left
 ·intro w'
  go_simp
  with_reducible rfl
 rotate_left
 ·simp only [Act.put,List.setIfInBounds_toArray,List.set_cons_zero,List.set_cons_succ,Za,gb]
  rfl
 refine Nb (i:=8) (N:=some 34) (v:=?_) (a':=?_) #[true,true,true,false,true,false,false,false,true,false,false,false,false,false,false,false,false,false,false,false] rfl rfl (by kernel_rfl) (fun _ _ _ h=>h) (Or.inl ⟨by rfl,?_⟩) ?_ ?_
 rotate_left
 ·intro w'
  go_simp
  with_reducible rfl
 rotate_left
 ·simp only [Act.put,List.setIfInBounds_toArray,List.set_cons_zero,List.set_cons_succ,Za,gb]
  rfl
 refine Nb (i:=9) (N:=some 35) (v:=?_) (a':=?_) #[true,true,true,false,true,false,false,false,true,true,false,false,false,false,false,false,false,false,false,false] rfl rfl (by kernel_rfl) (fun _ _ _ h=>h) (Or.inl ⟨by rfl,?_⟩) ?_ ?_
 rotate_left
 ·intro w'
  go_simp
  with_reducible rfl
 rotate_left
 ·simp only [Act.put,List.setIfInBounds_toArray,List.set_cons_zero,List.set_cons_succ,Za,gb]
  rfl
 refine Nb (i:=10) (N:=some 36) (v:=?_) (a':=?_) #[true,true,true,false,true,false,false,false,true,true,true,false,false,false,false,false,false,false,false,false] rfl rfl (by kernel_rfl) (fun _ _ _ h=>h) (Or.inl ⟨by rfl,?_⟩) ?_ ?_
 rotate_left
 ·intro w'
  go_simp
  with_reducible rfl
 rotate_left
 ·simp only [Act.put,List.setIfInBounds_toArray,List.set_cons_zero,List.set_cons_succ,Za,gb]
  rfl
 refine Nb (i:=12) (N:=some 38) (v:=?_) (a':=?_) #[true,true,true,false,true,false,false,false,true,true,true,false,true,false,false,false,false,false,false,false] rfl rfl (by kernel_rfl) (fun _ _ _ h=>h) (Or.inl ⟨by rfl,?_⟩) ?_ ?_
 rotate_left
 ·intro w'
  go_simp
  with_reducible rfl
 rotate_left
 ·simp only [Act.put,List.setIfInBounds_toArray,List.set_cons_zero,List.set_cons_succ,Za,gb]
  rfl
 refine Jd (i:=3) (N:=some 29) (v:=?_) (a':=?_) #[true,true,true,true,true,false,false,false,true,true,true,false,true,false,false,false,false,false,false,false] rfl rfl (by kernel_rfl) (fun _ _ _ h=>h) (Or.inl ⟨by rfl,?_⟩) hHeld ?_ ?_
 rotate_left
 ·rintro w' ⟨s0,s1,s2,s3,s4,s5,s6⟩
  go_simp
  with_reducible rfl
 rotate_left
 ·simp only [Act.put,List.setIfInBounds_toArray,List.set_cons_zero,List.set_cons_succ,Za,gb]
  rfl
 refine Jd (i:=5) (N:=some 31) (v:=?_) (a':=?_) #[true,true,true,true,true,true,false,false,true,true,true,false,true,false,false,false,false,false,false,false] rfl rfl (by kernel_rfl) (fun _ _ _ h=>h) (Or.inl ⟨by rfl,?_⟩) hHeld ?_ ?_
 rotate_left
 ·rintro w' ⟨s0,s1,s2,s3,s4,s5,s6⟩
  go_simp
  with_reducible rfl
 rotate_left
 ·simp only [Act.put,List.setIfInBounds_toArray,List.set_cons_zero,List.set_cons_succ,Za,gb]
  rfl
 refine Nb (i:=6) (N:=some 32) (v:=?_) (a':=?_) #[true,true,true,true,true,true,true,false,true,true,true,false,true,false,false,false,false,false,false,false] rfl rfl (by kernel_rfl) (fun _ _ _ h=>h) (Or.inl ⟨by rfl,?_⟩) ?_ ?_
 rotate_left
 ·intro w'
  go_simp
  with_reducible rfl
 rotate_left
 ·simp only [Act.put,List.setIfInBounds_toArray,List.set_cons_zero,List.set_cons_succ,Za,gb]
  rfl
 refine Jd (i:=7) (N:=some 33) (v:=?_) (a':=?_) #[true,true,true,true,true,true,true,true,true,true,true,false,true,false,false,false,false,false,false,false] rfl rfl (by kernel_rfl) (fun _ _ _ h=>h) (Or.inl ⟨by rfl,?_⟩) hHeld ?_ ?_
 rotate_left
 ·rintro w' ⟨s0,s1,s2,s3,s4,s5,s6⟩
  go_simp
  with_reducible rfl
 rotate_left
 ·simp only [Act.put,List.setIfInBounds_toArray,List.set_cons_zero,List.set_cons_succ,Za,gb]
  rfl
 refine Jd (i:=11) (N:=some 37) (v:=?_) (a':=?_) #[true,true,true,true,true,true,true,true,true,true,true,true,true,false,false,false,false,false,false,false] rfl rfl (by kernel_rfl) (fun _ _ _ h=>h) (Or.inl ⟨by rfl,?_⟩) hHeld ?_ ?_
 rotate_left
 ·rintro w' ⟨s0,s1,s2,s3,s4,s5,s6⟩
  go_simp
  with_reducible rfl
 rotate_left
 ·simp only [Act.put,List.setIfInBounds_toArray,List.set_cons_zero,List.set_cons_succ,Za,gb]
  rfl
 refine Jd (i:=13) (N:=some 39) (v:=?_) (a':=?_) #[true,true,true,true,true,true,true,true,true,true,true,true,true,true,false,false,false,false,false,false] rfl rfl (by kernel_rfl) (fun _ _ _ h=>h) (Or.inl ⟨by rfl,?_⟩) hHeld ?_ ?_
 rotate_left
 ·rintro w' ⟨s0,s1,s2,s3,s4,s5,s6⟩
  go_simp
  with_reducible rfl
 rotate_left
 ·simp only [Act.put,List.setIfInBounds_toArray,List.set_cons_zero,List.set_cons_succ,Za,gb]
  rfl
 refine Nb (i:=14) (N:=some 40) (v:=?_) (a':=?_) #[true,true,true,true,true,true,true,true,true,true,true,true,true,true,true,false,false,false,false,false] rfl rfl (by kernel_rfl) (fun _ _ _ h=>h) (Or.inl ⟨by rfl,?_⟩) ?_ ?_
 rotate_left
 ·intro w'
  go_simp
  with_reducible rfl
 rotate_left
 ·simp only [Act.put,List.setIfInBounds_toArray,List.set_cons_zero,List.set_cons_succ,Za,gb]
  rfl
 refine Jd (i:=15) (N:=some 41) (v:=?_) (a':=?_) #[true,true,true,true,true,true,true,true,true,true,true,true,true,true,true,true,false,false,false,false] rfl rfl (by kernel_rfl) (fun _ _ _ h=>h) (Or.inl ⟨by rfl,?_⟩) hHeld ?_ ?_
 rotate_left
 ·rintro w' ⟨s0,s1,s2,s3,s4,s5,s6⟩
  go_simp
  with_reducible rfl
 rotate_left
 ·simp only [Act.put,List.setIfInBounds_toArray,List.set_cons_zero,List.set_cons_succ,Za,gb]
  rfl
 refine Gr (σ:=Nat × Nat) 2 #[true,true,true,true,true,true,true,true,true,true,true,true,true,true,true,true,true,true,false,false] (fun s=>[(5,.pointer (some ⟨s.1,0,none⟩)),(6,.pointer (some ⟨s.2,0,none⟩))]) (fun s w'=>w' = (W1.drew.alloc (.cells #[.int .i64 0,.int .i64 0] 79 (0,0))).alloc (.cells #[.int .i64 0,.int .i64 0] 79 (0,0))∧((s.1=W1.heap.size∧s.2=W1.heap.size + 1) ∨ (s.1=W1.heap.size + 1∧s.2=W1.heap.size))) ?_ ?_
 rotate_left
 ·intro yh
  refine uy (i:=16) (j:=17) (Ni:=some 5) (Nj:=some 6) #[true,true,true,true,true,true,true,true,true,true,true,true,true,true,true,true,true,false,false,false] #[true,true,true,true,true,true,true,true,true,true,true,true,true,true,true,true,false,true,false,false] rfl rfl rfl rfl (by kernel_rfl) (by decide) (by decide) (fun K hK=>?_) (fun K hK=>?_)
  ·skip
   refine jf (w1:=?_) (v:=?_) (by rfl) rfl ?_ ?_
   rotate_left 2
   ·go_simp
    constructor
    ·rfl
    ·rfl
   refine hK.out _ _ ⟨(HG.out _ (ia Gd.out _)).1,(HG.out _ (ia Gd.out _)).2.1,(HG.out _ (ia Gd.out _)).2.2.1,(HG.out _ (ia Gd.out _)).2.2.2.1,(HG.out _ (ia Gd.out _)).2.2.2.2.1,(HG.out _ (ia Gd.out _)).2.2.2.2.2.1,(HG.out _ (ia Gd.out _)).2.2.2.2.2.2⟩ (fun hHeld=>?_)
   clear hK K
   refine Xd (a':=?_) ?_ ?_
   rotate_left
   ·show Act.put _ (some 5) _=_
    simp only [Act.put,List.setIfInBounds_toArray,List.set_cons_zero,List.set_cons_succ,Za,gb]
    rfl
   refine gh (i:=17) (N:=some 6) #[true,true,true,true,true,true,true,true,true,true,true,true,true,true,true,true,true,true,false,false] rfl rfl (by kernel_rfl) (by decide) (fun K hK=>?_)
   refine jf (w1:=?_) (v:=?_) (by rfl) rfl ?_ ?_
   rotate_left 2
   ·go_simp
    constructor
    ·rfl
    ·rfl
   refine hK.out _ _ ⟨(HG.out _ (ia (ia Gd.out _) _)).1,(HG.out _ (ia (ia Gd.out _) _)).2.1,(HG.out _ (ia (ia Gd.out _) _)).2.2.1,(HG.out _ (ia (ia Gd.out _) _)).2.2.2.1,(HG.out _ (ia (ia Gd.out _) _)).2.2.2.2.1,(HG.out _ (ia (ia Gd.out _) _)).2.2.2.2.2.1,(HG.out _ (ia (ia Gd.out _) _)).2.2.2.2.2.2⟩ (fun hHeld=>?_)
   clear hK K
   refine Xd (a':=?_) ?_ ?_
   rotate_left
   ·show Act.put _ (some 6) _=_
    simp only [Act.put,List.setIfInBounds_toArray,List.set_cons_zero,List.set_cons_succ,Za,gb]
    rfl
   exact Xd (by simp only [Kf,Act.put,List.setIfInBounds_toArray,List.set_cons_zero,List.set_cons_succ]) (yh (W1.heap.size,W1.heap.size + 1) _ ⟨rfl,Or.inl ⟨rfl,rfl⟩⟩)
  ·skip
   refine jf (w1:=?_) (v:=?_) (by rfl) rfl ?_ ?_
   rotate_left 2
   ·go_simp
    constructor
    ·rfl
    ·rfl
   refine hK.out _ _ ⟨(HG.out _ (ia Gd.out _)).1,(HG.out _ (ia Gd.out _)).2.1,(HG.out _ (ia Gd.out _)).2.2.1,(HG.out _ (ia Gd.out _)).2.2.2.1,(HG.out _ (ia Gd.out _)).2.2.2.2.1,(HG.out _ (ia Gd.out _)).2.2.2.2.2.1,(HG.out _ (ia Gd.out _)).2.2.2.2.2.2⟩ (fun hHeld=>?_)
   clear hK K
   refine Xd (a':=?_) ?_ ?_
   rotate_left
   ·show Act.put _ (some 6) _=_
    simp only [Act.put,List.setIfInBounds_toArray,List.set_cons_zero,List.set_cons_succ,Za,gb]
    rfl
   refine gh (i:=16) (N:=some 5) #[true,true,true,true,true,true,true,true,true,true,true,true,true,true,true,true,true,true,false,false] rfl rfl (by kernel_rfl) (by decide) (fun K hK=>?_)
   refine jf (w1:=?_) (v:=?_) (by rfl) rfl ?_ ?_
   rotate_left 2
   ·go_simp
    constructor
    ·rfl
    ·rfl
   refine hK.out _ _ ⟨(HG.out _ (ia (ia Gd.out _) _)).1,(HG.out _ (ia (ia Gd.out _) _)).2.1,(HG.out _ (ia (ia Gd.out _) _)).2.2.1,(HG.out _ (ia (ia Gd.out _) _)).2.2.2.1,(HG.out _ (ia (ia Gd.out _) _)).2.2.2.2.1,(HG.out _ (ia (ia Gd.out _) _)).2.2.2.2.2.1,(HG.out _ (ia (ia Gd.out _) _)).2.2.2.2.2.2⟩ (fun hHeld=>?_)
   clear hK K
   refine Xd (a':=?_) ?_ ?_
   rotate_left
   ·show Act.put _ (some 5) _=_
    simp only [Act.put,List.setIfInBounds_toArray,List.set_cons_zero,List.set_cons_succ,Za,gb]
    rfl
   exact Xd (by simp only [Kf,Act.put,List.setIfInBounds_toArray,List.set_cons_zero,List.set_cons_succ]) (yh (W1.heap.size + 1,W1.heap.size) _ ⟨rfl,Or.inr ⟨rfl,rfl⟩⟩)
 rintro ⟨s1,s2⟩ W3 ⟨Ak,hs⟩
 simp only at hs
 have hne:s1 ≠ s2:=by omega
 have zk:W1.heap.size ≤ s1:=by omega
 have xk:W1.heap.size ≤ s2:=by omega
 have Hp:Below W1.heap.size W1 W3:=by rw [Ak];exact ia (ia Gd.out _) _
 have AA:W3.heap.size=W1.heap.size + 2:=by rw [Ak];simp
 have qn:W3.heap[s1]? = some (.cells #[.int .i64 0,.int .i64 0] 79 (0,0)):=by
  rw [Ak]
  rcases hs with ⟨e,_⟩|⟨e,_⟩
  ·rw [e];exact Da (Yc W1.drew _) _
  ·rw [e];have:=Yc (W1.drew.alloc (.cells #[.int .i64 0,.int .i64 0] 79 (0,0))) (.cells #[.int .i64 0,.int .i64 0] 79 (0,0));simpa using this
 have hn2:W3.heap[s2]? = some (.cells #[.int .i64 0,.int .i64 0] 79 (0,0)):=by
  rw [Ak]
  rcases hs with ⟨_,e⟩|⟨_,e⟩
  ·rw [e];have:=Yc (W1.drew.alloc (.cells #[.int .i64 0,.int .i64 0] 79 (0,0))) (.cells #[.int .i64 0,.int .i64 0] 79 (0,0));simpa using this
  ·rw [e];exact Da (Yc W1.drew _) _
 clear Ak hs
 have tu:=qa.mk Hp
 have hHeld:=HG.out W3 Hp
 have Yi:=qa.mk qn
 have ru:=qa.mk hn2
 clear Hp qn hn2
 refine Xd (a':=?_) ?_ ?_
 rotate_left
 ·simp only [Kf,Act.put,List.setIfInBounds_toArray,List.set_cons_zero,List.set_cons_succ]
  rfl
 refine gh (i:=18) (N:=none) #[true,true,true,true,true,true,true,true,true,true,true,true,true,true,true,true,true,true,true,false] rfl rfl (by kernel_rfl) (by decide) (fun K hK=>?_)
 have Gp:=(ga Yi.out 0).trans rfl
 have Fp:=(ga Yi.out 1).trans rfl
 have Bp:=aa Yi.out 0
 have Ap:=aa Yi.out 1
 refine si (w1:=?_) (by rfl) rfl ?_ ?_
 rotate_left
 ·go_simp
  rfl
 have Og:=qa.mk (show Below W1.heap.size W1 ((W3.setCell ⟨s1,0,none⟩ (.int .i64 (Ta xs a).f0)).setCell ⟨s1,1,none⟩ (.int .i64 (Ta xs a).f1)) from (tu.out.setCell zk _).setCell zk _)
 have su:=qa.mk (Db (cs:=#[.int .i64 (Ta xs a).f0,.int .i64 0]) (Db (cs:=#[.int .i64 0,.int .i64 0]) Yi.out 0 (.int .i64 (Ta xs a).f0) rfl) 1 (.int .i64 (Ta xs a).f1) rfl)
 have Zi:=qa.mk (Rb (p:=⟨s1,1,none⟩) (Rb (p:=⟨s1,0,none⟩) ru.out (Ne.symm hne) (.int .i64 (Ta xs a).f0)) (Ne.symm hne) (.int .i64 (Ta xs a).f1))
 clear Gp Fp Bp Ap
 refine hK.out _ _ ⟨(HG.out _ Og.out).1,(HG.out _ Og.out).2.1,(HG.out _ Og.out).2.2.1,(HG.out _ Og.out).2.2.2.1,(HG.out _ Og.out).2.2.2.2.1,(HG.out _ Og.out).2.2.2.2.2.1,(HG.out _ Og.out).2.2.2.2.2.2⟩ (fun hHeld=>?_)
 clear hK K
 refine Wq (i:=19) (N:=none) #[true,true,true,true,true,true,true,true,true,true,true,true,true,true,true,true,true,true,true,true] rfl rfl (by kernel_rfl) (by decide) (fun K hK=>?_)
 have Ep:=(ga Zi.out 0).trans rfl
 have Dp:=(ga Zi.out 1).trans rfl
 have zp:=aa Zi.out 0
 have yp:=aa Zi.out 1
 refine si (w1:=?_) (by rfl) rfl ?_ ?_
 rotate_left
 ·go_simp
  rfl
 refine hK.out _ _ ?_
 clear hK K
 refine Yh (by kernel_rfl) ?_
 obtain ⟨W5,hW5⟩:∃ W5,W5=(((W3.setCell ⟨s1,0,none⟩ (.int .i64 (Ta xs a).f0)).setCell ⟨s1,1,none⟩ (.int .i64 (Ta xs a).f1)).setCell ⟨s2,0,none⟩ (.int .i64 (Ta xs b).f0)).setCell ⟨s2,1,none⟩ (.int .i64 (Ta xs b).f1):=⟨_,rfl⟩
 rw [← hW5]
 have Ti:Below W1.heap.size W1 W5:=by rw [hW5];exact (Og.out.setCell xk _).setCell xk _
 have ju:W5.heap[s1]? = some (.cells #[.int .i64 (Ta xs a).f0,.int .i64 (Ta xs a).f1] 79 (0,0)):=by rw [hW5];exact Rb (p:=⟨s2,1,none⟩) (Rb (p:=⟨s2,0,none⟩) su.out hne _) hne _
 have hm2:W5.heap[s2]? = some (.cells #[.int .i64 (Ta xs b).f0,.int .i64 (Ta xs b).f1] 79 (0,0)):=by rw [hW5];exact Db (cs:=#[.int .i64 (Ta xs b).f0,.int .i64 0]) (Db (cs:=#[.int .i64 0,.int .i64 0]) Zi.out 0 _ rfl) 1 _ rfl
 clear hW5 su Zi Yi ru Ep Dp zp yp Og tu hd1 Cp hd3 Lg Kg Wg Vg hx0 hx1 Gk Fk qm vp om hr0 En Fj Ej nr hk1 Jr HG Gd AA
 have HR:=qa.mk (Wa HR.out Ti)
 have HX:=qa.mk (Wa HX.out Ti)
 have We:=qa.mk (Wa We.out Ti)
 have DA:=Ti.size
 have HB:=qa.mk (Pa HB.out Ti)
 clear Ti
 have hk1:=(ga We.out 1).trans rfl
 have Jr:=aa We.out 1
 have hr0:=(ga HR.out 0).trans rfl
 have En:=(ga HR.out 1).trans rfl
 have Fj:=aa HR.out 0
 have Ej:=aa HR.out 1
 have om:=(ga HX.out 6).trans rfl
 have KA:=(ga ju 0).trans rfl
 have JA:=(ga ju 1).trans rfl
 have IA:=(ga hm2 0).trans rfl
 have GA:=(ga hm2 1).trans rfl
 go_wp2_with (first|(go_at_call 119;(with_reducible refine (Il _ _ _ _).mono ?_);rintro e w1 ⟨rfl,⟨k1,rfl⟩⟩))
 all_goals
  have hz:=HZ.out
  refine bodyPost_ret (results_cell_row rfl _ _ (W.heap.size + 1) 79 #[.int .i64 (-1),.int .i64 (wrap64 ((Ta xs a).f1 - (Ta xs b).f1))] (0,0) _ rfl ?_ Try.underlying79 rfl (by kernel_rfl)) rfl ?_
  ·exact Db (cs:=#[.int .i64 (-1),.int .i64 0]) (Db (cs:=#[.int .i64 0,.int .i64 0]) (by (with_reducible repeat (first|refine Ea ?_ _|refine Ga ?_|refine Da ?_ _));exact HR.out) 0 _ rfl) 1 _ rfl
  ·exact ⟨rfl,by repeat (first|exact HB.out|apply ja|apply za|apply ia|refine Aa ?_ (by first|omega|(simp;done)|(simp;omega)))⟩
set_option maxHeartbeats 2000000 in
set_option maxRecDepth 100000 in
theorem kH (hk:KV W B kb v xs nx) (hn0:0 ≤ nx) (qn:nx ≤ 1000000000) (d a b c n:Int) (t:ByteArray) (ha0:0 ≤ a) (ha1:a < xs.length) (hb0:0 ≤ b) (hb1:b < xs.length) (hA:((Ta xs a).f0 == -1)=false) (sQ:((Ta xs b).f0 == -1)=false) (tQ:(t.toList == [43])=true) (rW:(t.toList == [45])=false) :
  Calls Try.prog 92 #[.pointer (some ⟨kb,0,none⟩),.agg #[.int .i64 2,.int .i64 d,.int .i64 a,.int .i64 b,.int .i64 c,.int .i64 n,.string t]] W fun e w'=>e = .returned (.agg #[.int .i64 nx,.int .i64 0])∧KV w' B kb v xs (nx + 1)∧Kept W w' (fun k=>k=kb)∧Below kb W w':=by
 obtain ⟨hB,h2,h3⟩:=hk
 have HN:=qa.mk h3
 have kB:=qa.mk h2
 have hlt:=Ac h2
 obtain ⟨W1,hW1⟩:∃ W1,W1=(W.alloc (.cells #[.int .i64 2,.int .i64 d,.int .i64 a,.int .i64 b,.int .i64 c,.int .i64 n,.string t] 70 (0,0))).alloc (.cells #[.int .i64 0,.int .i64 0] 79 (0,0)):=⟨_,rfl⟩
 have HW:=qa.mk hW1
 have Ri:Below W.heap.size W W1:=by rw [hW1];exact ia (ia (Below.refl _ _) _) _
 have hz:W1.heap.size=W.heap.size + 2:=by rw [hW1];simp
 have We:=qa.mk (Wa h2 Ri)
 have nr:=(ga We.out 0).trans rfl
 have hk1:=(ga We.out 1).trans rfl
 have Jr:=aa We.out 1
 have oh:W1.heap[W.heap.size + 1]? = some (.cells #[.int .i64 0,.int .i64 0] 79 (0,0)):=by rw [hW1];have:=Yc (W.alloc (.cells #[.int .i64 2,.int .i64 d,.int .i64 a,.int .i64 b,.int .i64 c,.int .i64 n,.string t] 70 (0,0))) (.cells #[.int .i64 0,.int .i64 0] 79 (0,0));simpa using this
 have Af:W1.heap[W.heap.size]? = some (.cells #[.int .i64 2,.int .i64 d,.int .i64 a,.int .i64 b,.int .i64 c,.int .i64 n,.string t] 70 (0,0)):=by rw [hW1];exact Da (Yc _ _) _
 have HR:=qa.mk oh
 have HX:=qa.mk Af
 have hr0:=(ga oh 0).trans rfl
 have En:=(ga oh 1).trans rfl
 have Fj:=aa oh 0
 have Ej:=aa oh 1
 have hx0:=(ga Af 0).trans rfl
 have hx1:=(ga Af 1).trans rfl
 have Gk:=(ga Af 2).trans rfl
 have Fk:=(ga Af 3).trans rfl
 have qm:=(ga Af 4).trans rfl
 have vp:=(ga Af 5).trans rfl
 have om:=(ga Af 6).trans rfl
 have HB:=qa.mk Ri
 obtain ⟨A,cc,rfl,_,hC⟩:=Kd.Kh (Kd.Ge h3 Ri)
 have dD:=hC.2.1
 obtain ⟨ad,e1,Lg,Kg⟩:=Bh hC a ha0 ha1
 cases e1
 obtain ⟨BO,e1,Wg,Vg⟩:=Bh hC b hb0 hb1
 cases e1
 obtain ⟨g,rfl⟩:=Kd.jm h3
 have Ly:g < W.heap.size:=by
  obtain ⟨inner,hi⟩:=Kd.Pk h3
  exact Lk hi g (by simp [Value.ownBlock])
 have FA:g ≠ W1.heap.size:=by omega
 have dH:g ≠ W1.heap.size + 1:=by omega
 simp only [add_plain] at Lg Kg Wg Vg
 clear hC
 have Uw:kb ≠ W1.heap.size:=by omega
 have Tw:kb ≠ W1.heap.size + 1:=by omega
 have hw1:W.heap.size ≠ W1.heap.size:=by omega
 have XH:W.heap.size ≠ W1.heap.size + 1:=by omega
 have WH:W.heap.size + 1 ≠ W1.heap.size:=by omega
 have VH:W.heap.size + 1 ≠ W1.heap.size + 1:=by omega
 have HZ:=qa.mk hz
 clear hW1 oh Af h2 h3 Ri hz
 go_enter Try.func92,Try.ntmps92
 go_upto_region 1 with (fail)
 rw [← HW.out]
 clear HW
 go_upto_region 7 with (fail)
 have Gd:=qa.mk (za (Below.refl W1.heap.size W1))
 have hd1:W1.cell? ⟨kb,0,none⟩=some (.slice (some ⟨g,0,none⟩) xs.length cc):=nr
 have Cp:W1.cell? ⟨W.heap.size,2,none⟩=some (.int .i64 a):=Gk
 have hd3:W1.cell? ⟨W.heap.size,3,none⟩=some (.int .i64 b):=Fk
 have HG:=qa.mk (fun (W3:World) (h:Below W1.heap.size W1 W3)=>(⟨Ab h hd1,Ab h Cp,Ab h hd3,Ab h Lg,Ab h Kg,Ab h Wg,Ab h Vg⟩:W3.cell? ⟨kb,0,none⟩=some (.slice (some ⟨g,0,none⟩) xs.length cc)∧W3.cell? ⟨W.heap.size,2,none⟩=some (.int .i64 a)∧W3.cell? ⟨W.heap.size,3,none⟩=some (.int .i64 b)∧W3.cell? ⟨g,a.toNat * 2,none⟩=some (.int .i64 (Ta xs a).f0)∧W3.cell? ⟨g,a.toNat * 2 + 1,none⟩=some (.int .i64 (Ta xs a).f1)∧W3.cell? ⟨g,b.toNat * 2,none⟩=some (.int .i64 (Ta xs b).f0)∧W3.cell? ⟨g,b.toNat * 2 + 1,none⟩=some (.int .i64 (Ta xs b).f1)))
 refine Pg (n:=20) (S:=fun w'=>w'.cell? ⟨kb,0,none⟩=some (.slice (some ⟨g,0,none⟩) xs.length cc)∧w'.cell? ⟨W.heap.size,2,none⟩=some (.int .i64 a)∧w'.cell? ⟨W.heap.size,3,none⟩=some (.int .i64 b)∧w'.cell? ⟨g,a.toNat * 2,none⟩=some (.int .i64 (Ta xs a).f0)∧w'.cell? ⟨g,a.toNat * 2 + 1,none⟩=some (.int .i64 (Ta xs a).f1)∧w'.cell? ⟨g,b.toNat * 2,none⟩=some (.int .i64 (Ta xs b).f0)∧w'.cell? ⟨g,b.toNat * 2 + 1,none⟩=some (.int .i64 (Ta xs b).f1)) (ds:=[19]) #[false,false,false,false,false,false,false,false,false,false,false,false,false,false,false,false,false,false,false,false] (by kernel_rfl) rfl rfl ⟨hd1,Cp,hd3,Lg,Kg,Wg,Vg⟩ (fun hHeld=>?_)
 refine Nb (i:=0) (N:=some 26) (v:=?_) (a':=?_) #[true,false,false,false,false,false,false,false,false,false,false,false,false,false,false,false,false,false,false,false] rfl rfl (by kernel_rfl) (fun _ _ _ h=>h) (Or.inl ⟨by rfl,?_⟩) ?_ ?_
 rotate_left
 ·intro w'
  go_simp
  with_reducible rfl
 rotate_left
 ·simp only [Act.put,List.setIfInBounds_toArray,List.set_cons_zero,List.set_cons_succ,Za,gb]
  rfl
 refine Nb (i:=1) (N:=some 27) (v:=?_) (a':=?_) #[true,true,false,false,false,false,false,false,false,false,false,false,false,false,false,false,false,false,false,false] rfl rfl (by kernel_rfl) (fun _ _ _ h=>h) (Or.inl ⟨by rfl,?_⟩) ?_ ?_
 rotate_left
 ·intro w'
  go_simp
  with_reducible rfl
 rotate_left
 ·simp only [Act.put,List.setIfInBounds_toArray,List.set_cons_zero,List.set_cons_succ,Za,gb]
  rfl
 refine Nb (i:=2) (N:=some 28) (v:=?_) (a':=?_) #[true,true,true,false,false,false,false,false,false,false,false,false,false,false,false,false,false,false,false,false] rfl rfl (by kernel_rfl) (fun _ _ _ h=>h) (Or.inl ⟨by rfl,?_⟩) ?_ ?_
 rotate_left
 ·intro w'
  go_simp
  with_reducible rfl
 rotate_left
 ·simp only [Act.put,List.setIfInBounds_toArray,List.set_cons_zero,List.set_cons_succ,Za,gb]
  rfl
 refine Nb (i:=4) (N:=some 30) (v:=?_) (a':=?_) #[true,true,true,false,true,false,false,false,false,false,false,false,false,false,false,false,false,false,false,false] rfl rfl (by kernel_rfl) (fun _ _ _ h=>h) (Or.inl ⟨by rfl,?_⟩) ?_ ?_
 rotate_left
 ·intro w'
  go_simp
  with_reducible rfl
 rotate_left
 ·simp only [Act.put,List.setIfInBounds_toArray,List.set_cons_zero,List.set_cons_succ,Za,gb]
  rfl
 refine Nb (i:=8) (N:=some 34) (v:=?_) (a':=?_) #[true,true,true,false,true,false,false,false,true,false,false,false,false,false,false,false,false,false,false,false] rfl rfl (by kernel_rfl) (fun _ _ _ h=>h) (Or.inl ⟨by rfl,?_⟩) ?_ ?_
 rotate_left
 ·intro w'
  go_simp
  with_reducible rfl
 rotate_left
 ·simp only [Act.put,List.setIfInBounds_toArray,List.set_cons_zero,List.set_cons_succ,Za,gb]
  rfl
 refine Nb (i:=9) (N:=some 35) (v:=?_) (a':=?_) #[true,true,true,false,true,false,false,false,true,true,false,false,false,false,false,false,false,false,false,false] rfl rfl (by kernel_rfl) (fun _ _ _ h=>h) (Or.inl ⟨by rfl,?_⟩) ?_ ?_
 rotate_left
 ·intro w'
  go_simp
  with_reducible rfl
 rotate_left
 ·simp only [Act.put,List.setIfInBounds_toArray,List.set_cons_zero,List.set_cons_succ,Za,gb]
  rfl
 refine Nb (i:=10) (N:=some 36) (v:=?_) (a':=?_) #[true,true,true,false,true,false,false,false,true,true,true,false,false,false,false,false,false,false,false,false] rfl rfl (by kernel_rfl) (fun _ _ _ h=>h) (Or.inl ⟨by rfl,?_⟩) ?_ ?_
 rotate_left
 ·intro w'
  go_simp
  with_reducible rfl
 rotate_left
 ·simp only [Act.put,List.setIfInBounds_toArray,List.set_cons_zero,List.set_cons_succ,Za,gb]
  rfl
 refine Nb (i:=12) (N:=some 38) (v:=?_) (a':=?_) #[true,true,true,false,true,false,false,false,true,true,true,false,true,false,false,false,false,false,false,false] rfl rfl (by kernel_rfl) (fun _ _ _ h=>h) (Or.inl ⟨by rfl,?_⟩) ?_ ?_
 rotate_left
 ·intro w'
  go_simp
  with_reducible rfl
 rotate_left
 ·simp only [Act.put,List.setIfInBounds_toArray,List.set_cons_zero,List.set_cons_succ,Za,gb]
  rfl
 refine Jd (i:=3) (N:=some 29) (v:=?_) (a':=?_) #[true,true,true,true,true,false,false,false,true,true,true,false,true,false,false,false,false,false,false,false] rfl rfl (by kernel_rfl) (fun _ _ _ h=>h) (Or.inl ⟨by rfl,?_⟩) hHeld ?_ ?_
 rotate_left
 ·rintro w' ⟨s0,s1,s2,s3,s4,s5,s6⟩
  go_simp
  with_reducible rfl
 rotate_left
 ·simp only [Act.put,List.setIfInBounds_toArray,List.set_cons_zero,List.set_cons_succ,Za,gb]
  rfl
 refine Jd (i:=5) (N:=some 31) (v:=?_) (a':=?_) #[true,true,true,true,true,true,false,false,true,true,true,false,true,false,false,false,false,false,false,false] rfl rfl (by kernel_rfl) (fun _ _ _ h=>h) (Or.inl ⟨by rfl,?_⟩) hHeld ?_ ?_
 rotate_left
 ·rintro w' ⟨s0,s1,s2,s3,s4,s5,s6⟩
  go_simp
  with_reducible rfl
 rotate_left
 ·simp only [Act.put,List.setIfInBounds_toArray,List.set_cons_zero,List.set_cons_succ,Za,gb]
  rfl
 refine Nb (i:=6) (N:=some 32) (v:=?_) (a':=?_) #[true,true,true,true,true,true,true,false,true,true,true,false,true,false,false,false,false,false,false,false] rfl rfl (by kernel_rfl) (fun _ _ _ h=>h) (Or.inl ⟨by rfl,?_⟩) ?_ ?_
 rotate_left
 ·intro w'
  go_simp
  with_reducible rfl
 rotate_left
 ·simp only [Act.put,List.setIfInBounds_toArray,List.set_cons_zero,List.set_cons_succ,Za,gb]
  rfl
 refine Jd (i:=7) (N:=some 33) (v:=?_) (a':=?_) #[true,true,true,true,true,true,true,true,true,true,true,false,true,false,false,false,false,false,false,false] rfl rfl (by kernel_rfl) (fun _ _ _ h=>h) (Or.inl ⟨by rfl,?_⟩) hHeld ?_ ?_
 rotate_left
 ·rintro w' ⟨s0,s1,s2,s3,s4,s5,s6⟩
  go_simp
  with_reducible rfl
 rotate_left
 ·simp only [Act.put,List.setIfInBounds_toArray,List.set_cons_zero,List.set_cons_succ,Za,gb]
  rfl
 refine Jd (i:=11) (N:=some 37) (v:=?_) (a':=?_) #[true,true,true,true,true,true,true,true,true,true,true,true,true,false,false,false,false,false,false,false] rfl rfl (by kernel_rfl) (fun _ _ _ h=>h) (Or.inl ⟨by rfl,?_⟩) hHeld ?_ ?_
 rotate_left
 ·rintro w' ⟨s0,s1,s2,s3,s4,s5,s6⟩
  go_simp
  with_reducible rfl
 rotate_left
 ·simp only [Act.put,List.setIfInBounds_toArray,List.set_cons_zero,List.set_cons_succ,Za,gb]
  rfl
 refine Jd (i:=13) (N:=some 39) (v:=?_) (a':=?_) #[true,true,true,true,true,true,true,true,true,true,true,true,true,true,false,false,false,false,false,false] rfl rfl (by kernel_rfl) (fun _ _ _ h=>h) (Or.inl ⟨by rfl,?_⟩) hHeld ?_ ?_
 rotate_left
 ·rintro w' ⟨s0,s1,s2,s3,s4,s5,s6⟩
  go_simp
  with_reducible rfl
 rotate_left
 ·simp only [Act.put,List.setIfInBounds_toArray,List.set_cons_zero,List.set_cons_succ,Za,gb]
  rfl
 refine Nb (i:=14) (N:=some 40) (v:=?_) (a':=?_) #[true,true,true,true,true,true,true,true,true,true,true,true,true,true,true,false,false,false,false,false] rfl rfl (by kernel_rfl) (fun _ _ _ h=>h) (Or.inl ⟨by rfl,?_⟩) ?_ ?_
 rotate_left
 ·intro w'
  go_simp
  with_reducible rfl
 rotate_left
 ·simp only [Act.put,List.setIfInBounds_toArray,List.set_cons_zero,List.set_cons_succ,Za,gb]
  rfl
 refine Jd (i:=15) (N:=some 41) (v:=?_) (a':=?_) #[true,true,true,true,true,true,true,true,true,true,true,true,true,true,true,true,false,false,false,false] rfl rfl (by kernel_rfl) (fun _ _ _ h=>h) (Or.inl ⟨by rfl,?_⟩) hHeld ?_ ?_
 rotate_left
 ·rintro w' ⟨s0,s1,s2,s3,s4,s5,s6⟩
  go_simp
  with_reducible rfl
 rotate_left
 ·simp only [Act.put,List.setIfInBounds_toArray,List.set_cons_zero,List.set_cons_succ,Za,gb]
  rfl
 refine Gr (σ:=Nat × Nat) 2 #[true,true,true,true,true,true,true,true,true,true,true,true,true,true,true,true,true,true,false,false] (fun s=>[(5,.pointer (some ⟨s.1,0,none⟩)),(6,.pointer (some ⟨s.2,0,none⟩))]) (fun s w'=>w' = (W1.drew.alloc (.cells #[.int .i64 0,.int .i64 0] 79 (0,0))).alloc (.cells #[.int .i64 0,.int .i64 0] 79 (0,0))∧((s.1=W1.heap.size∧s.2=W1.heap.size + 1) ∨ (s.1=W1.heap.size + 1∧s.2=W1.heap.size))) ?_ ?_
 rotate_left
 ·intro yh
  refine uy (i:=16) (j:=17) (Ni:=some 5) (Nj:=some 6) #[true,true,true,true,true,true,true,true,true,true,true,true,true,true,true,true,true,false,false,false] #[true,true,true,true,true,true,true,true,true,true,true,true,true,true,true,true,false,true,false,false] rfl rfl rfl rfl (by kernel_rfl) (by decide) (by decide) (fun K hK=>?_) (fun K hK=>?_)
  ·skip
   refine jf (w1:=?_) (v:=?_) (by rfl) rfl ?_ ?_
   rotate_left 2
   ·go_simp
    constructor
    ·rfl
    ·rfl
   refine hK.out _ _ ⟨(HG.out _ (ia Gd.out _)).1,(HG.out _ (ia Gd.out _)).2.1,(HG.out _ (ia Gd.out _)).2.2.1,(HG.out _ (ia Gd.out _)).2.2.2.1,(HG.out _ (ia Gd.out _)).2.2.2.2.1,(HG.out _ (ia Gd.out _)).2.2.2.2.2.1,(HG.out _ (ia Gd.out _)).2.2.2.2.2.2⟩ (fun hHeld=>?_)
   clear hK K
   refine Xd (a':=?_) ?_ ?_
   rotate_left
   ·show Act.put _ (some 5) _=_
    simp only [Act.put,List.setIfInBounds_toArray,List.set_cons_zero,List.set_cons_succ,Za,gb]
    rfl
   refine gh (i:=17) (N:=some 6) #[true,true,true,true,true,true,true,true,true,true,true,true,true,true,true,true,true,true,false,false] rfl rfl (by kernel_rfl) (by decide) (fun K hK=>?_)
   refine jf (w1:=?_) (v:=?_) (by rfl) rfl ?_ ?_
   rotate_left 2
   ·go_simp
    constructor
    ·rfl
    ·rfl
   refine hK.out _ _ ⟨(HG.out _ (ia (ia Gd.out _) _)).1,(HG.out _ (ia (ia Gd.out _) _)).2.1,(HG.out _ (ia (ia Gd.out _) _)).2.2.1,(HG.out _ (ia (ia Gd.out _) _)).2.2.2.1,(HG.out _ (ia (ia Gd.out _) _)).2.2.2.2.1,(HG.out _ (ia (ia Gd.out _) _)).2.2.2.2.2.1,(HG.out _ (ia (ia Gd.out _) _)).2.2.2.2.2.2⟩ (fun hHeld=>?_)
   clear hK K
   refine Xd (a':=?_) ?_ ?_
   rotate_left
   ·show Act.put _ (some 6) _=_
    simp only [Act.put,List.setIfInBounds_toArray,List.set_cons_zero,List.set_cons_succ,Za,gb]
    rfl
   exact Xd (by simp only [Kf,Act.put,List.setIfInBounds_toArray,List.set_cons_zero,List.set_cons_succ]) (yh (W1.heap.size,W1.heap.size + 1) _ ⟨rfl,Or.inl ⟨rfl,rfl⟩⟩)
  ·skip
   refine jf (w1:=?_) (v:=?_) (by rfl) rfl ?_ ?_
   rotate_left 2
   ·go_simp
    constructor
    ·rfl
    ·rfl
   refine hK.out _ _ ⟨(HG.out _ (ia Gd.out _)).1,(HG.out _ (ia Gd.out _)).2.1,(HG.out _ (ia Gd.out _)).2.2.1,(HG.out _ (ia Gd.out _)).2.2.2.1,(HG.out _ (ia Gd.out _)).2.2.2.2.1,(HG.out _ (ia Gd.out _)).2.2.2.2.2.1,(HG.out _ (ia Gd.out _)).2.2.2.2.2.2⟩ (fun hHeld=>?_)
   clear hK K
   refine Xd (a':=?_) ?_ ?_
   rotate_left
   ·show Act.put _ (some 6) _=_
    simp only [Act.put,List.setIfInBounds_toArray,List.set_cons_zero,List.set_cons_succ,Za,gb]
    rfl
   refine gh (i:=16) (N:=some 5) #[true,true,true,true,true,true,true,true,true,true,true,true,true,true,true,true,true,true,false,false] rfl rfl (by kernel_rfl) (by decide) (fun K hK=>?_)
   refine jf (w1:=?_) (v:=?_) (by rfl) rfl ?_ ?_
   rotate_left 2
   ·go_simp
    constructor
    ·rfl
    ·rfl
   refine hK.out _ _ ⟨(HG.out _ (ia (ia Gd.out _) _)).1,(HG.out _ (ia (ia Gd.out _) _)).2.1,(HG.out _ (ia (ia Gd.out _) _)).2.2.1,(HG.out _ (ia (ia Gd.out _) _)).2.2.2.1,(HG.out _ (ia (ia Gd.out _) _)).2.2.2.2.1,(HG.out _ (ia (ia Gd.out _) _)).2.2.2.2.2.1,(HG.out _ (ia (ia Gd.out _) _)).2.2.2.2.2.2⟩ (fun hHeld=>?_)
   clear hK K
   refine Xd (a':=?_) ?_ ?_
   rotate_left
   ·show Act.put _ (some 5) _=_
    simp only [Act.put,List.setIfInBounds_toArray,List.set_cons_zero,List.set_cons_succ,Za,gb]
    rfl
   exact Xd (by simp only [Kf,Act.put,List.setIfInBounds_toArray,List.set_cons_zero,List.set_cons_succ]) (yh (W1.heap.size + 1,W1.heap.size) _ ⟨rfl,Or.inr ⟨rfl,rfl⟩⟩)
 rintro ⟨s1,s2⟩ W3 ⟨Ak,hs⟩
 simp only at hs
 have hne:s1 ≠ s2:=by omega
 have zk:W1.heap.size ≤ s1:=by omega
 have xk:W1.heap.size ≤ s2:=by omega
 have Hp:Below W1.heap.size W1 W3:=by rw [Ak];exact ia (ia Gd.out _) _
 have AA:W3.heap.size=W1.heap.size + 2:=by rw [Ak];simp
 have qn:W3.heap[s1]? = some (.cells #[.int .i64 0,.int .i64 0] 79 (0,0)):=by
  rw [Ak]
  rcases hs with ⟨e,_⟩|⟨e,_⟩
  ·rw [e];exact Da (Yc W1.drew _) _
  ·rw [e];have:=Yc (W1.drew.alloc (.cells #[.int .i64 0,.int .i64 0] 79 (0,0))) (.cells #[.int .i64 0,.int .i64 0] 79 (0,0));simpa using this
 have hn2:W3.heap[s2]? = some (.cells #[.int .i64 0,.int .i64 0] 79 (0,0)):=by
  rw [Ak]
  rcases hs with ⟨_,e⟩|⟨_,e⟩
  ·rw [e];have:=Yc (W1.drew.alloc (.cells #[.int .i64 0,.int .i64 0] 79 (0,0))) (.cells #[.int .i64 0,.int .i64 0] 79 (0,0));simpa using this
  ·rw [e];exact Da (Yc W1.drew _) _
 clear Ak hs
 have tu:=qa.mk Hp
 have hHeld:=HG.out W3 Hp
 have Yi:=qa.mk qn
 have ru:=qa.mk hn2
 clear Hp qn hn2
 refine Xd (a':=?_) ?_ ?_
 rotate_left
 ·simp only [Kf,Act.put,List.setIfInBounds_toArray,List.set_cons_zero,List.set_cons_succ]
  rfl
 refine gh (i:=18) (N:=none) #[true,true,true,true,true,true,true,true,true,true,true,true,true,true,true,true,true,true,true,false] rfl rfl (by kernel_rfl) (by decide) (fun K hK=>?_)
 have Gp:=(ga Yi.out 0).trans rfl
 have Fp:=(ga Yi.out 1).trans rfl
 have Bp:=aa Yi.out 0
 have Ap:=aa Yi.out 1
 refine si (w1:=?_) (by rfl) rfl ?_ ?_
 rotate_left
 ·go_simp
  rfl
 have Og:=qa.mk (show Below W1.heap.size W1 ((W3.setCell ⟨s1,0,none⟩ (.int .i64 (Ta xs a).f0)).setCell ⟨s1,1,none⟩ (.int .i64 (Ta xs a).f1)) from (tu.out.setCell zk _).setCell zk _)
 have su:=qa.mk (Db (cs:=#[.int .i64 (Ta xs a).f0,.int .i64 0]) (Db (cs:=#[.int .i64 0,.int .i64 0]) Yi.out 0 (.int .i64 (Ta xs a).f0) rfl) 1 (.int .i64 (Ta xs a).f1) rfl)
 have Zi:=qa.mk (Rb (p:=⟨s1,1,none⟩) (Rb (p:=⟨s1,0,none⟩) ru.out (Ne.symm hne) (.int .i64 (Ta xs a).f0)) (Ne.symm hne) (.int .i64 (Ta xs a).f1))
 clear Gp Fp Bp Ap
 refine hK.out _ _ ⟨(HG.out _ Og.out).1,(HG.out _ Og.out).2.1,(HG.out _ Og.out).2.2.1,(HG.out _ Og.out).2.2.2.1,(HG.out _ Og.out).2.2.2.2.1,(HG.out _ Og.out).2.2.2.2.2.1,(HG.out _ Og.out).2.2.2.2.2.2⟩ (fun hHeld=>?_)
 clear hK K
 refine Wq (i:=19) (N:=none) #[true,true,true,true,true,true,true,true,true,true,true,true,true,true,true,true,true,true,true,true] rfl rfl (by kernel_rfl) (by decide) (fun K hK=>?_)
 have Ep:=(ga Zi.out 0).trans rfl
 have Dp:=(ga Zi.out 1).trans rfl
 have zp:=aa Zi.out 0
 have yp:=aa Zi.out 1
 refine si (w1:=?_) (by rfl) rfl ?_ ?_
 rotate_left
 ·go_simp
  rfl
 refine hK.out _ _ ?_
 clear hK K
 refine Yh (by kernel_rfl) ?_
 obtain ⟨W5,hW5⟩:∃ W5,W5=(((W3.setCell ⟨s1,0,none⟩ (.int .i64 (Ta xs a).f0)).setCell ⟨s1,1,none⟩ (.int .i64 (Ta xs a).f1)).setCell ⟨s2,0,none⟩ (.int .i64 (Ta xs b).f0)).setCell ⟨s2,1,none⟩ (.int .i64 (Ta xs b).f1):=⟨_,rfl⟩
 rw [← hW5]
 have Ti:Below W1.heap.size W1 W5:=by rw [hW5];exact (Og.out.setCell xk _).setCell xk _
 have ju:W5.heap[s1]? = some (.cells #[.int .i64 (Ta xs a).f0,.int .i64 (Ta xs a).f1] 79 (0,0)):=by rw [hW5];exact Rb (p:=⟨s2,1,none⟩) (Rb (p:=⟨s2,0,none⟩) su.out hne _) hne _
 have hm2:W5.heap[s2]? = some (.cells #[.int .i64 (Ta xs b).f0,.int .i64 (Ta xs b).f1] 79 (0,0)):=by rw [hW5];exact Db (cs:=#[.int .i64 (Ta xs b).f0,.int .i64 0]) (Db (cs:=#[.int .i64 0,.int .i64 0]) Zi.out 0 _ rfl) 1 _ rfl
 clear hW5 su Zi Yi ru Ep Dp zp yp Og tu hd1 Cp hd3 Lg Kg Wg Vg hx0 hx1 Gk Fk qm vp om hr0 En Fj Ej nr hk1 Jr HG Gd AA
 have HR:=qa.mk (Wa HR.out Ti)
 have HX:=qa.mk (Wa HX.out Ti)
 have We:=qa.mk (Wa We.out Ti)
 have DA:=Ti.size
 have HB:=qa.mk (Pa HB.out Ti)
 clear Ti
 have hk1:=(ga We.out 1).trans rfl
 have Jr:=aa We.out 1
 have hr0:=(ga HR.out 0).trans rfl
 have En:=(ga HR.out 1).trans rfl
 have Fj:=aa HR.out 0
 have Ej:=aa HR.out 1
 have om:=(ga HX.out 6).trans rfl
 have KA:=(ga ju 0).trans rfl
 have JA:=(ga ju 1).trans rfl
 have IA:=(ga hm2 0).trans rfl
 have GA:=(ga hm2 1).trans rfl
 go_wp2_with (first|(go_at_call 119;(with_reducible refine (Il _ _ _ _).mono ?_);rintro e w1 ⟨rfl,⟨k1,rfl⟩⟩))
 all_goals
  have hz:=HZ.out
  refine bodyPost_ret (results_cell_row rfl _ _ (W.heap.size + 1) 79 #[.int .i64 nx,.int .i64 0] (0,0) _ rfl ?_ Try.underlying79 rfl (by kernel_rfl)) rfl ?_
  ·exact Db (cs:=#[.int .i64 nx,.int .i64 0]) (Db (cs:=#[.int .i64 0,.int .i64 0]) (Rb (by (with_reducible repeat (first|refine Ea ?_ _|refine Ga ?_|refine Da ?_ _));exact HR.out) (by simp;omega) _) 0 _ rfl) 1 _ rfl
  ·exact ⟨rfl,Jn hB kB.out HN.out (by (with_reducible repeat (first|refine Kept.drewN ?_ _|refine Kept.drew ?_|refine Kept.alloc ?_ _));exact Kept.vk HB.out _) (by (with_reducible repeat (first|refine Ea ?_ _|refine Ga ?_|refine Da ?_ _));exact We.out) (by repeat (first|exact HB.out.mono (Nat.le_of_lt hlt)|apply ja|apply za|refine Below.alloc ?_ (by simp;omega) _)) (Nat.le_succ _) hlt⟩
set_option maxHeartbeats 2000000 in
set_option maxRecDepth 100000 in
theorem kA (hk:KV W B kb v xs nx) (hn0:0 ≤ nx) (qn:nx ≤ 1000000000) (d a b c n:Int) (t:ByteArray) (ha0:0 ≤ a) (ha1:a < xs.length) (hb0:0 ≤ b) (hb1:b < xs.length) (hA:((Ta xs a).f0 == -1)=false) (tQ:(t.toList == [43])=false) (rW:(t.toList == [45])=false) :
  Calls Try.prog 92 #[.pointer (some ⟨kb,0,none⟩),.agg #[.int .i64 2,.int .i64 d,.int .i64 a,.int .i64 b,.int .i64 c,.int .i64 n,.string t]] W fun e w'=>e = .returned (.agg #[.int .i64 nx,.int .i64 0])∧KV w' B kb v xs (nx + 1)∧Kept W w' (fun k=>k=kb)∧Below kb W w':=by
 obtain ⟨hB,h2,h3⟩:=hk
 have HN:=qa.mk h3
 have kB:=qa.mk h2
 have hlt:=Ac h2
 obtain ⟨W1,hW1⟩:∃ W1,W1=(W.alloc (.cells #[.int .i64 2,.int .i64 d,.int .i64 a,.int .i64 b,.int .i64 c,.int .i64 n,.string t] 70 (0,0))).alloc (.cells #[.int .i64 0,.int .i64 0] 79 (0,0)):=⟨_,rfl⟩
 have HW:=qa.mk hW1
 have Ri:Below W.heap.size W W1:=by rw [hW1];exact ia (ia (Below.refl _ _) _) _
 have hz:W1.heap.size=W.heap.size + 2:=by rw [hW1];simp
 have We:=qa.mk (Wa h2 Ri)
 have nr:=(ga We.out 0).trans rfl
 have hk1:=(ga We.out 1).trans rfl
 have Jr:=aa We.out 1
 have oh:W1.heap[W.heap.size + 1]? = some (.cells #[.int .i64 0,.int .i64 0] 79 (0,0)):=by rw [hW1];have:=Yc (W.alloc (.cells #[.int .i64 2,.int .i64 d,.int .i64 a,.int .i64 b,.int .i64 c,.int .i64 n,.string t] 70 (0,0))) (.cells #[.int .i64 0,.int .i64 0] 79 (0,0));simpa using this
 have Af:W1.heap[W.heap.size]? = some (.cells #[.int .i64 2,.int .i64 d,.int .i64 a,.int .i64 b,.int .i64 c,.int .i64 n,.string t] 70 (0,0)):=by rw [hW1];exact Da (Yc _ _) _
 have HR:=qa.mk oh
 have HX:=qa.mk Af
 have hr0:=(ga oh 0).trans rfl
 have En:=(ga oh 1).trans rfl
 have Fj:=aa oh 0
 have Ej:=aa oh 1
 have hx0:=(ga Af 0).trans rfl
 have hx1:=(ga Af 1).trans rfl
 have Gk:=(ga Af 2).trans rfl
 have Fk:=(ga Af 3).trans rfl
 have qm:=(ga Af 4).trans rfl
 have vp:=(ga Af 5).trans rfl
 have om:=(ga Af 6).trans rfl
 have HB:=qa.mk Ri
 obtain ⟨A,cc,rfl,_,hC⟩:=Kd.Kh (Kd.Ge h3 Ri)
 have dD:=hC.2.1
 obtain ⟨ad,e1,Lg,Kg⟩:=Bh hC a ha0 ha1
 cases e1
 obtain ⟨BO,e1,Wg,Vg⟩:=Bh hC b hb0 hb1
 cases e1
 obtain ⟨g,rfl⟩:=Kd.jm h3
 have Ly:g < W.heap.size:=by
  obtain ⟨inner,hi⟩:=Kd.Pk h3
  exact Lk hi g (by simp [Value.ownBlock])
 have FA:g ≠ W1.heap.size:=by omega
 have dH:g ≠ W1.heap.size + 1:=by omega
 simp only [add_plain] at Lg Kg Wg Vg
 clear hC
 have Uw:kb ≠ W1.heap.size:=by omega
 have Tw:kb ≠ W1.heap.size + 1:=by omega
 have hw1:W.heap.size ≠ W1.heap.size:=by omega
 have XH:W.heap.size ≠ W1.heap.size + 1:=by omega
 have WH:W.heap.size + 1 ≠ W1.heap.size:=by omega
 have VH:W.heap.size + 1 ≠ W1.heap.size + 1:=by omega
 have HZ:=qa.mk hz
 clear hW1 oh Af h2 h3 Ri hz
 go_enter Try.func92,Try.ntmps92
 go_upto_region 1 with (fail)
 rw [← HW.out]
 clear HW
 go_upto_region 7 with (fail)
 have Gd:=qa.mk (za (Below.refl W1.heap.size W1))
 have hd1:W1.cell? ⟨kb,0,none⟩=some (.slice (some ⟨g,0,none⟩) xs.length cc):=nr
 have Cp:W1.cell? ⟨W.heap.size,2,none⟩=some (.int .i64 a):=Gk
 have hd3:W1.cell? ⟨W.heap.size,3,none⟩=some (.int .i64 b):=Fk
 have HG:=qa.mk (fun (W3:World) (h:Below W1.heap.size W1 W3)=>(⟨Ab h hd1,Ab h Cp,Ab h hd3,Ab h Lg,Ab h Kg,Ab h Wg,Ab h Vg⟩:W3.cell? ⟨kb,0,none⟩=some (.slice (some ⟨g,0,none⟩) xs.length cc)∧W3.cell? ⟨W.heap.size,2,none⟩=some (.int .i64 a)∧W3.cell? ⟨W.heap.size,3,none⟩=some (.int .i64 b)∧W3.cell? ⟨g,a.toNat * 2,none⟩=some (.int .i64 (Ta xs a).f0)∧W3.cell? ⟨g,a.toNat * 2 + 1,none⟩=some (.int .i64 (Ta xs a).f1)∧W3.cell? ⟨g,b.toNat * 2,none⟩=some (.int .i64 (Ta xs b).f0)∧W3.cell? ⟨g,b.toNat * 2 + 1,none⟩=some (.int .i64 (Ta xs b).f1)))
 refine Pg (n:=20) (S:=fun w'=>w'.cell? ⟨kb,0,none⟩=some (.slice (some ⟨g,0,none⟩) xs.length cc)∧w'.cell? ⟨W.heap.size,2,none⟩=some (.int .i64 a)∧w'.cell? ⟨W.heap.size,3,none⟩=some (.int .i64 b)∧w'.cell? ⟨g,a.toNat * 2,none⟩=some (.int .i64 (Ta xs a).f0)∧w'.cell? ⟨g,a.toNat * 2 + 1,none⟩=some (.int .i64 (Ta xs a).f1)∧w'.cell? ⟨g,b.toNat * 2,none⟩=some (.int .i64 (Ta xs b).f0)∧w'.cell? ⟨g,b.toNat * 2 + 1,none⟩=some (.int .i64 (Ta xs b).f1)) (ds:=[19]) #[false,false,false,false,false,false,false,false,false,false,false,false,false,false,false,false,false,false,false,false] (by kernel_rfl) rfl rfl ⟨hd1,Cp,hd3,Lg,Kg,Wg,Vg⟩ (fun hHeld=>?_)
 refine Nb (i:=0) (N:=some 26) (v:=?_) (a':=?_) #[true,false,false,false,false,false,false,false,false,false,false,false,false,false,false,false,false,false,false,false] rfl rfl (by kernel_rfl) (fun _ _ _ h=>h) (Or.inl ⟨by rfl,?_⟩) ?_ ?_
 rotate_left
 ·intro w'
  go_simp
  with_reducible rfl
 rotate_left
 ·simp only [Act.put,List.setIfInBounds_toArray,List.set_cons_zero,List.set_cons_succ,Za,gb]
  rfl
 refine Nb (i:=1) (N:=some 27) (v:=?_) (a':=?_) #[true,true,false,false,false,false,false,false,false,false,false,false,false,false,false,false,false,false,false,false] rfl rfl (by kernel_rfl) (fun _ _ _ h=>h) (Or.inl ⟨by rfl,?_⟩) ?_ ?_
 rotate_left
 ·intro w'
  go_simp
  with_reducible rfl
 rotate_left
 ·simp only [Act.put,List.setIfInBounds_toArray,List.set_cons_zero,List.set_cons_succ,Za,gb]
  rfl
 refine Nb (i:=2) (N:=some 28) (v:=?_) (a':=?_) #[true,true,true,false,false,false,false,false,false,false,false,false,false,false,false,false,false,false,false,false] rfl rfl (by kernel_rfl) (fun _ _ _ h=>h) (Or.inl ⟨by rfl,?_⟩) ?_ ?_
 rotate_left
 ·intro w'
  go_simp
  with_reducible rfl
 rotate_left
 ·simp only [Act.put,List.setIfInBounds_toArray,List.set_cons_zero,List.set_cons_succ,Za,gb]
  rfl
 refine Nb (i:=4) (N:=some 30) (v:=?_) (a':=?_) #[true,true,true,false,true,false,false,false,false,false,false,false,false,false,false,false,false,false,false,false] rfl rfl (by kernel_rfl) (fun _ _ _ h=>h) (Or.inl ⟨by rfl,?_⟩) ?_ ?_
 rotate_left
 ·intro w'
  go_simp
  with_reducible rfl
 rotate_left
 ·simp only [Act.put,List.setIfInBounds_toArray,List.set_cons_zero,List.set_cons_succ,Za,gb]
  rfl
 refine Nb (i:=8) (N:=some 34) (v:=?_) (a':=?_) #[true,true,true,false,true,false,false,false,true,false,false,false,false,false,false,false,false,false,false,false] rfl rfl (by kernel_rfl) (fun _ _ _ h=>h) (Or.inl ⟨by rfl,?_⟩) ?_ ?_
 rotate_left
 ·intro w'
  go_simp
  with_reducible rfl
 rotate_left
 ·simp only [Act.put,List.setIfInBounds_toArray,List.set_cons_zero,List.set_cons_succ,Za,gb]
  rfl
 refine Nb (i:=9) (N:=some 35) (v:=?_) (a':=?_) #[true,true,true,false,true,false,false,false,true,true,false,false,false,false,false,false,false,false,false,false] rfl rfl (by kernel_rfl) (fun _ _ _ h=>h) (Or.inl ⟨by rfl,?_⟩) ?_ ?_
 rotate_left
 ·intro w'
  go_simp
  with_reducible rfl
 rotate_left
 ·simp only [Act.put,List.setIfInBounds_toArray,List.set_cons_zero,List.set_cons_succ,Za,gb]
  rfl
 refine Nb (i:=10) (N:=some 36) (v:=?_) (a':=?_) #[true,true,true,false,true,false,false,false,true,true,true,false,false,false,false,false,false,false,false,false] rfl rfl (by kernel_rfl) (fun _ _ _ h=>h) (Or.inl ⟨by rfl,?_⟩) ?_ ?_
 rotate_left
 ·intro w'
  go_simp
  with_reducible rfl
 rotate_left
 ·simp only [Act.put,List.setIfInBounds_toArray,List.set_cons_zero,List.set_cons_succ,Za,gb]
  rfl
 refine Nb (i:=12) (N:=some 38) (v:=?_) (a':=?_) #[true,true,true,false,true,false,false,false,true,true,true,false,true,false,false,false,false,false,false,false] rfl rfl (by kernel_rfl) (fun _ _ _ h=>h) (Or.inl ⟨by rfl,?_⟩) ?_ ?_
 rotate_left
 ·intro w'
  go_simp
  with_reducible rfl
 rotate_left
 ·simp only [Act.put,List.setIfInBounds_toArray,List.set_cons_zero,List.set_cons_succ,Za,gb]
  rfl
 refine Jd (i:=3) (N:=some 29) (v:=?_) (a':=?_) #[true,true,true,true,true,false,false,false,true,true,true,false,true,false,false,false,false,false,false,false] rfl rfl (by kernel_rfl) (fun _ _ _ h=>h) (Or.inl ⟨by rfl,?_⟩) hHeld ?_ ?_
 rotate_left
 ·rintro w' ⟨s0,s1,s2,s3,s4,s5,s6⟩
  go_simp
  with_reducible rfl
 rotate_left
 ·simp only [Act.put,List.setIfInBounds_toArray,List.set_cons_zero,List.set_cons_succ,Za,gb]
  rfl
 refine Jd (i:=5) (N:=some 31) (v:=?_) (a':=?_) #[true,true,true,true,true,true,false,false,true,true,true,false,true,false,false,false,false,false,false,false] rfl rfl (by kernel_rfl) (fun _ _ _ h=>h) (Or.inl ⟨by rfl,?_⟩) hHeld ?_ ?_
 rotate_left
 ·rintro w' ⟨s0,s1,s2,s3,s4,s5,s6⟩
  go_simp
  with_reducible rfl
 rotate_left
 ·simp only [Act.put,List.setIfInBounds_toArray,List.set_cons_zero,List.set_cons_succ,Za,gb]
  rfl
 refine Nb (i:=6) (N:=some 32) (v:=?_) (a':=?_) #[true,true,true,true,true,true,true,false,true,true,true,false,true,false,false,false,false,false,false,false] rfl rfl (by kernel_rfl) (fun _ _ _ h=>h) (Or.inl ⟨by rfl,?_⟩) ?_ ?_
 rotate_left
 ·intro w'
  go_simp
  with_reducible rfl
 rotate_left
 ·simp only [Act.put,List.setIfInBounds_toArray,List.set_cons_zero,List.set_cons_succ,Za,gb]
  rfl
 refine Jd (i:=7) (N:=some 33) (v:=?_) (a':=?_) #[true,true,true,true,true,true,true,true,true,true,true,false,true,false,false,false,false,false,false,false] rfl rfl (by kernel_rfl) (fun _ _ _ h=>h) (Or.inl ⟨by rfl,?_⟩) hHeld ?_ ?_
 rotate_left
 ·rintro w' ⟨s0,s1,s2,s3,s4,s5,s6⟩
  go_simp
  with_reducible rfl
 rotate_left
 ·simp only [Act.put,List.setIfInBounds_toArray,List.set_cons_zero,List.set_cons_succ,Za,gb]
  rfl
 refine Jd (i:=11) (N:=some 37) (v:=?_) (a':=?_) #[true,true,true,true,true,true,true,true,true,true,true,true,true,false,false,false,false,false,false,false] rfl rfl (by kernel_rfl) (fun _ _ _ h=>h) (Or.inl ⟨by rfl,?_⟩) hHeld ?_ ?_
 rotate_left
 ·rintro w' ⟨s0,s1,s2,s3,s4,s5,s6⟩
  go_simp
  with_reducible rfl
 rotate_left
 ·simp only [Act.put,List.setIfInBounds_toArray,List.set_cons_zero,List.set_cons_succ,Za,gb]
  rfl
 refine Jd (i:=13) (N:=some 39) (v:=?_) (a':=?_) #[true,true,true,true,true,true,true,true,true,true,true,true,true,true,false,false,false,false,false,false] rfl rfl (by kernel_rfl) (fun _ _ _ h=>h) (Or.inl ⟨by rfl,?_⟩) hHeld ?_ ?_
 rotate_left
 ·rintro w' ⟨s0,s1,s2,s3,s4,s5,s6⟩
  go_simp
  with_reducible rfl
 rotate_left
 ·simp only [Act.put,List.setIfInBounds_toArray,List.set_cons_zero,List.set_cons_succ,Za,gb]
  rfl
 refine Nb (i:=14) (N:=some 40) (v:=?_) (a':=?_) #[true,true,true,true,true,true,true,true,true,true,true,true,true,true,true,false,false,false,false,false] rfl rfl (by kernel_rfl) (fun _ _ _ h=>h) (Or.inl ⟨by rfl,?_⟩) ?_ ?_
 rotate_left
 ·intro w'
  go_simp
  with_reducible rfl
 rotate_left
 ·simp only [Act.put,List.setIfInBounds_toArray,List.set_cons_zero,List.set_cons_succ,Za,gb]
  rfl
 refine Jd (i:=15) (N:=some 41) (v:=?_) (a':=?_) #[true,true,true,true,true,true,true,true,true,true,true,true,true,true,true,true,false,false,false,false] rfl rfl (by kernel_rfl) (fun _ _ _ h=>h) (Or.inl ⟨by rfl,?_⟩) hHeld ?_ ?_
 rotate_left
 ·rintro w' ⟨s0,s1,s2,s3,s4,s5,s6⟩
  go_simp
  with_reducible rfl
 rotate_left
 ·simp only [Act.put,List.setIfInBounds_toArray,List.set_cons_zero,List.set_cons_succ,Za,gb]
  rfl
 refine Gr (σ:=Nat × Nat) 2 #[true,true,true,true,true,true,true,true,true,true,true,true,true,true,true,true,true,true,false,false] (fun s=>[(5,.pointer (some ⟨s.1,0,none⟩)),(6,.pointer (some ⟨s.2,0,none⟩))]) (fun s w'=>w' = (W1.drew.alloc (.cells #[.int .i64 0,.int .i64 0] 79 (0,0))).alloc (.cells #[.int .i64 0,.int .i64 0] 79 (0,0))∧((s.1=W1.heap.size∧s.2=W1.heap.size + 1) ∨ (s.1=W1.heap.size + 1∧s.2=W1.heap.size))) ?_ ?_
 rotate_left
 ·intro yh
  refine uy (i:=16) (j:=17) (Ni:=some 5) (Nj:=some 6) #[true,true,true,true,true,true,true,true,true,true,true,true,true,true,true,true,true,false,false,false] #[true,true,true,true,true,true,true,true,true,true,true,true,true,true,true,true,false,true,false,false] rfl rfl rfl rfl (by kernel_rfl) (by decide) (by decide) (fun K hK=>?_) (fun K hK=>?_)
  ·skip
   refine jf (w1:=?_) (v:=?_) (by rfl) rfl ?_ ?_
   rotate_left 2
   ·go_simp
    constructor
    ·rfl
    ·rfl
   refine hK.out _ _ ⟨(HG.out _ (ia Gd.out _)).1,(HG.out _ (ia Gd.out _)).2.1,(HG.out _ (ia Gd.out _)).2.2.1,(HG.out _ (ia Gd.out _)).2.2.2.1,(HG.out _ (ia Gd.out _)).2.2.2.2.1,(HG.out _ (ia Gd.out _)).2.2.2.2.2.1,(HG.out _ (ia Gd.out _)).2.2.2.2.2.2⟩ (fun hHeld=>?_)
   clear hK K
   refine Xd (a':=?_) ?_ ?_
   rotate_left
   ·show Act.put _ (some 5) _=_
    simp only [Act.put,List.setIfInBounds_toArray,List.set_cons_zero,List.set_cons_succ,Za,gb]
    rfl
   refine gh (i:=17) (N:=some 6) #[true,true,true,true,true,true,true,true,true,true,true,true,true,true,true,true,true,true,false,false] rfl rfl (by kernel_rfl) (by decide) (fun K hK=>?_)
   refine jf (w1:=?_) (v:=?_) (by rfl) rfl ?_ ?_
   rotate_left 2
   ·go_simp
    constructor
    ·rfl
    ·rfl
   refine hK.out _ _ ⟨(HG.out _ (ia (ia Gd.out _) _)).1,(HG.out _ (ia (ia Gd.out _) _)).2.1,(HG.out _ (ia (ia Gd.out _) _)).2.2.1,(HG.out _ (ia (ia Gd.out _) _)).2.2.2.1,(HG.out _ (ia (ia Gd.out _) _)).2.2.2.2.1,(HG.out _ (ia (ia Gd.out _) _)).2.2.2.2.2.1,(HG.out _ (ia (ia Gd.out _) _)).2.2.2.2.2.2⟩ (fun hHeld=>?_)
   clear hK K
   refine Xd (a':=?_) ?_ ?_
   rotate_left
   ·show Act.put _ (some 6) _=_
    simp only [Act.put,List.setIfInBounds_toArray,List.set_cons_zero,List.set_cons_succ,Za,gb]
    rfl
   exact Xd (by simp only [Kf,Act.put,List.setIfInBounds_toArray,List.set_cons_zero,List.set_cons_succ]) (yh (W1.heap.size,W1.heap.size + 1) _ ⟨rfl,Or.inl ⟨rfl,rfl⟩⟩)
  ·skip
   refine jf (w1:=?_) (v:=?_) (by rfl) rfl ?_ ?_
   rotate_left 2
   ·go_simp
    constructor
    ·rfl
    ·rfl
   refine hK.out _ _ ⟨(HG.out _ (ia Gd.out _)).1,(HG.out _ (ia Gd.out _)).2.1,(HG.out _ (ia Gd.out _)).2.2.1,(HG.out _ (ia Gd.out _)).2.2.2.1,(HG.out _ (ia Gd.out _)).2.2.2.2.1,(HG.out _ (ia Gd.out _)).2.2.2.2.2.1,(HG.out _ (ia Gd.out _)).2.2.2.2.2.2⟩ (fun hHeld=>?_)
   clear hK K
   refine Xd (a':=?_) ?_ ?_
   rotate_left
   ·show Act.put _ (some 6) _=_
    simp only [Act.put,List.setIfInBounds_toArray,List.set_cons_zero,List.set_cons_succ,Za,gb]
    rfl
   refine gh (i:=16) (N:=some 5) #[true,true,true,true,true,true,true,true,true,true,true,true,true,true,true,true,true,true,false,false] rfl rfl (by kernel_rfl) (by decide) (fun K hK=>?_)
   refine jf (w1:=?_) (v:=?_) (by rfl) rfl ?_ ?_
   rotate_left 2
   ·go_simp
    constructor
    ·rfl
    ·rfl
   refine hK.out _ _ ⟨(HG.out _ (ia (ia Gd.out _) _)).1,(HG.out _ (ia (ia Gd.out _) _)).2.1,(HG.out _ (ia (ia Gd.out _) _)).2.2.1,(HG.out _ (ia (ia Gd.out _) _)).2.2.2.1,(HG.out _ (ia (ia Gd.out _) _)).2.2.2.2.1,(HG.out _ (ia (ia Gd.out _) _)).2.2.2.2.2.1,(HG.out _ (ia (ia Gd.out _) _)).2.2.2.2.2.2⟩ (fun hHeld=>?_)
   clear hK K
   refine Xd (a':=?_) ?_ ?_
   rotate_left
   ·show Act.put _ (some 5) _=_
    simp only [Act.put,List.setIfInBounds_toArray,List.set_cons_zero,List.set_cons_succ,Za,gb]
    rfl
   exact Xd (by simp only [Kf,Act.put,List.setIfInBounds_toArray,List.set_cons_zero,List.set_cons_succ]) (yh (W1.heap.size + 1,W1.heap.size) _ ⟨rfl,Or.inr ⟨rfl,rfl⟩⟩)
 rintro ⟨s1,s2⟩ W3 ⟨Ak,hs⟩
 simp only at hs
 have hne:s1 ≠ s2:=by omega
 have zk:W1.heap.size ≤ s1:=by omega
 have xk:W1.heap.size ≤ s2:=by omega
 have Hp:Below W1.heap.size W1 W3:=by rw [Ak];exact ia (ia Gd.out _) _
 have AA:W3.heap.size=W1.heap.size + 2:=by rw [Ak];simp
 have qn:W3.heap[s1]? = some (.cells #[.int .i64 0,.int .i64 0] 79 (0,0)):=by
  rw [Ak]
  rcases hs with ⟨e,_⟩|⟨e,_⟩
  ·rw [e];exact Da (Yc W1.drew _) _
  ·rw [e];have:=Yc (W1.drew.alloc (.cells #[.int .i64 0,.int .i64 0] 79 (0,0))) (.cells #[.int .i64 0,.int .i64 0] 79 (0,0));simpa using this
 have hn2:W3.heap[s2]? = some (.cells #[.int .i64 0,.int .i64 0] 79 (0,0)):=by
  rw [Ak]
  rcases hs with ⟨_,e⟩|⟨_,e⟩
  ·rw [e];have:=Yc (W1.drew.alloc (.cells #[.int .i64 0,.int .i64 0] 79 (0,0))) (.cells #[.int .i64 0,.int .i64 0] 79 (0,0));simpa using this
  ·rw [e];exact Da (Yc W1.drew _) _
 clear Ak hs
 have tu:=qa.mk Hp
 have hHeld:=HG.out W3 Hp
 have Yi:=qa.mk qn
 have ru:=qa.mk hn2
 clear Hp qn hn2
 refine Xd (a':=?_) ?_ ?_
 rotate_left
 ·simp only [Kf,Act.put,List.setIfInBounds_toArray,List.set_cons_zero,List.set_cons_succ]
  rfl
 refine gh (i:=18) (N:=none) #[true,true,true,true,true,true,true,true,true,true,true,true,true,true,true,true,true,true,true,false] rfl rfl (by kernel_rfl) (by decide) (fun K hK=>?_)
 have Gp:=(ga Yi.out 0).trans rfl
 have Fp:=(ga Yi.out 1).trans rfl
 have Bp:=aa Yi.out 0
 have Ap:=aa Yi.out 1
 refine si (w1:=?_) (by rfl) rfl ?_ ?_
 rotate_left
 ·go_simp
  rfl
 have Og:=qa.mk (show Below W1.heap.size W1 ((W3.setCell ⟨s1,0,none⟩ (.int .i64 (Ta xs a).f0)).setCell ⟨s1,1,none⟩ (.int .i64 (Ta xs a).f1)) from (tu.out.setCell zk _).setCell zk _)
 have su:=qa.mk (Db (cs:=#[.int .i64 (Ta xs a).f0,.int .i64 0]) (Db (cs:=#[.int .i64 0,.int .i64 0]) Yi.out 0 (.int .i64 (Ta xs a).f0) rfl) 1 (.int .i64 (Ta xs a).f1) rfl)
 have Zi:=qa.mk (Rb (p:=⟨s1,1,none⟩) (Rb (p:=⟨s1,0,none⟩) ru.out (Ne.symm hne) (.int .i64 (Ta xs a).f0)) (Ne.symm hne) (.int .i64 (Ta xs a).f1))
 clear Gp Fp Bp Ap
 refine hK.out _ _ ⟨(HG.out _ Og.out).1,(HG.out _ Og.out).2.1,(HG.out _ Og.out).2.2.1,(HG.out _ Og.out).2.2.2.1,(HG.out _ Og.out).2.2.2.2.1,(HG.out _ Og.out).2.2.2.2.2.1,(HG.out _ Og.out).2.2.2.2.2.2⟩ (fun hHeld=>?_)
 clear hK K
 refine Wq (i:=19) (N:=none) #[true,true,true,true,true,true,true,true,true,true,true,true,true,true,true,true,true,true,true,true] rfl rfl (by kernel_rfl) (by decide) (fun K hK=>?_)
 have Ep:=(ga Zi.out 0).trans rfl
 have Dp:=(ga Zi.out 1).trans rfl
 have zp:=aa Zi.out 0
 have yp:=aa Zi.out 1
 refine si (w1:=?_) (by rfl) rfl ?_ ?_
 rotate_left
 ·go_simp
  rfl
 refine hK.out _ _ ?_
 clear hK K
 refine Yh (by kernel_rfl) ?_
 obtain ⟨W5,hW5⟩:∃ W5,W5=(((W3.setCell ⟨s1,0,none⟩ (.int .i64 (Ta xs a).f0)).setCell ⟨s1,1,none⟩ (.int .i64 (Ta xs a).f1)).setCell ⟨s2,0,none⟩ (.int .i64 (Ta xs b).f0)).setCell ⟨s2,1,none⟩ (.int .i64 (Ta xs b).f1):=⟨_,rfl⟩
 rw [← hW5]
 have Ti:Below W1.heap.size W1 W5:=by rw [hW5];exact (Og.out.setCell xk _).setCell xk _
 have ju:W5.heap[s1]? = some (.cells #[.int .i64 (Ta xs a).f0,.int .i64 (Ta xs a).f1] 79 (0,0)):=by rw [hW5];exact Rb (p:=⟨s2,1,none⟩) (Rb (p:=⟨s2,0,none⟩) su.out hne _) hne _
 have hm2:W5.heap[s2]? = some (.cells #[.int .i64 (Ta xs b).f0,.int .i64 (Ta xs b).f1] 79 (0,0)):=by rw [hW5];exact Db (cs:=#[.int .i64 (Ta xs b).f0,.int .i64 0]) (Db (cs:=#[.int .i64 0,.int .i64 0]) Zi.out 0 _ rfl) 1 _ rfl
 clear hW5 su Zi Yi ru Ep Dp zp yp Og tu hd1 Cp hd3 Lg Kg Wg Vg hx0 hx1 Gk Fk qm vp om hr0 En Fj Ej nr hk1 Jr HG Gd AA
 have HR:=qa.mk (Wa HR.out Ti)
 have HX:=qa.mk (Wa HX.out Ti)
 have We:=qa.mk (Wa We.out Ti)
 have DA:=Ti.size
 have HB:=qa.mk (Pa HB.out Ti)
 clear Ti
 have hk1:=(ga We.out 1).trans rfl
 have Jr:=aa We.out 1
 have hr0:=(ga HR.out 0).trans rfl
 have En:=(ga HR.out 1).trans rfl
 have Fj:=aa HR.out 0
 have Ej:=aa HR.out 1
 have om:=(ga HX.out 6).trans rfl
 have KA:=(ga ju 0).trans rfl
 have JA:=(ga ju 1).trans rfl
 have IA:=(ga hm2 0).trans rfl
 have GA:=(ga hm2 1).trans rfl
 go_wp2_with (first|(go_at_call 119;(with_reducible refine (Il _ _ _ _).mono ?_);rintro e w1 ⟨rfl,⟨k1,rfl⟩⟩))
 all_goals
  have hz:=HZ.out
  refine bodyPost_ret (results_cell_row rfl _ _ (W.heap.size + 1) 79 #[.int .i64 nx,.int .i64 0] (0,0) _ rfl ?_ Try.underlying79 rfl (by kernel_rfl)) rfl ?_
  ·exact Db (cs:=#[.int .i64 nx,.int .i64 0]) (Db (cs:=#[.int .i64 0,.int .i64 0]) (Rb (by (with_reducible repeat (first|refine Ea ?_ _|refine Ga ?_|refine Da ?_ _));exact HR.out) (by simp;omega) _) 0 _ rfl) 1 _ rfl
  ·exact ⟨rfl,Jn hB kB.out HN.out (by (with_reducible repeat (first|refine Kept.drewN ?_ _|refine Kept.drew ?_|refine Kept.alloc ?_ _));exact Kept.vk HB.out _) (by (with_reducible repeat (first|refine Ea ?_ _|refine Ga ?_|refine Da ?_ _));exact We.out) (by repeat (first|exact HB.out.mono (Nat.le_of_lt hlt)|apply ja|apply za|refine Below.alloc ?_ (by simp;omega) _)) (Nat.le_succ _) hlt⟩
set_option maxHeartbeats 2000000 in
set_option maxRecDepth 100000 in
theorem jH (hk:KV W B kb v xs nx) (hn0:0 ≤ nx) (qn:nx ≤ 1000000000) (d a b c n:Int) (t:ByteArray) (ha0:0 ≤ a) (ha1:a < xs.length) (hb0:0 ≤ b) (hb1:b < xs.length) (hA:((Ta xs a).f0 == -1)=true) (sQ:((Ta xs b).f0 == -1)=false) (tQ:(t.toList == [43])=false) (rW:(t.toList == [45])=false) :
  Calls Try.prog 92 #[.pointer (some ⟨kb,0,none⟩),.agg #[.int .i64 2,.int .i64 d,.int .i64 a,.int .i64 b,.int .i64 c,.int .i64 n,.string t]] W fun e w'=>e = .returned (.agg #[.int .i64 nx,.int .i64 0])∧KV w' B kb v xs (nx + 1)∧Kept W w' (fun k=>k=kb)∧Below kb W w':=by
 obtain ⟨hB,h2,h3⟩:=hk
 have HN:=qa.mk h3
 have kB:=qa.mk h2
 have hlt:=Ac h2
 obtain ⟨W1,hW1⟩:∃ W1,W1=(W.alloc (.cells #[.int .i64 2,.int .i64 d,.int .i64 a,.int .i64 b,.int .i64 c,.int .i64 n,.string t] 70 (0,0))).alloc (.cells #[.int .i64 0,.int .i64 0] 79 (0,0)):=⟨_,rfl⟩
 have HW:=qa.mk hW1
 have Ri:Below W.heap.size W W1:=by rw [hW1];exact ia (ia (Below.refl _ _) _) _
 have hz:W1.heap.size=W.heap.size + 2:=by rw [hW1];simp
 have We:=qa.mk (Wa h2 Ri)
 have nr:=(ga We.out 0).trans rfl
 have hk1:=(ga We.out 1).trans rfl
 have Jr:=aa We.out 1
 have oh:W1.heap[W.heap.size + 1]? = some (.cells #[.int .i64 0,.int .i64 0] 79 (0,0)):=by rw [hW1];have:=Yc (W.alloc (.cells #[.int .i64 2,.int .i64 d,.int .i64 a,.int .i64 b,.int .i64 c,.int .i64 n,.string t] 70 (0,0))) (.cells #[.int .i64 0,.int .i64 0] 79 (0,0));simpa using this
 have Af:W1.heap[W.heap.size]? = some (.cells #[.int .i64 2,.int .i64 d,.int .i64 a,.int .i64 b,.int .i64 c,.int .i64 n,.string t] 70 (0,0)):=by rw [hW1];exact Da (Yc _ _) _
 have HR:=qa.mk oh
 have HX:=qa.mk Af
 have hr0:=(ga oh 0).trans rfl
 have En:=(ga oh 1).trans rfl
 have Fj:=aa oh 0
 have Ej:=aa oh 1
 have hx0:=(ga Af 0).trans rfl
 have hx1:=(ga Af 1).trans rfl
 have Gk:=(ga Af 2).trans rfl
 have Fk:=(ga Af 3).trans rfl
 have qm:=(ga Af 4).trans rfl
 have vp:=(ga Af 5).trans rfl
 have om:=(ga Af 6).trans rfl
 have HB:=qa.mk Ri
 obtain ⟨A,cc,rfl,_,hC⟩:=Kd.Kh (Kd.Ge h3 Ri)
 have dD:=hC.2.1
 obtain ⟨ad,e1,Lg,Kg⟩:=Bh hC a ha0 ha1
 cases e1
 obtain ⟨BO,e1,Wg,Vg⟩:=Bh hC b hb0 hb1
 cases e1
 obtain ⟨g,rfl⟩:=Kd.jm h3
 have Ly:g < W.heap.size:=by
  obtain ⟨inner,hi⟩:=Kd.Pk h3
  exact Lk hi g (by simp [Value.ownBlock])
 have FA:g ≠ W1.heap.size:=by omega
 have dH:g ≠ W1.heap.size + 1:=by omega
 simp only [add_plain] at Lg Kg Wg Vg
 clear hC
 have Uw:kb ≠ W1.heap.size:=by omega
 have Tw:kb ≠ W1.heap.size + 1:=by omega
 have hw1:W.heap.size ≠ W1.heap.size:=by omega
 have XH:W.heap.size ≠ W1.heap.size + 1:=by omega
 have WH:W.heap.size + 1 ≠ W1.heap.size:=by omega
 have VH:W.heap.size + 1 ≠ W1.heap.size + 1:=by omega
 have HZ:=qa.mk hz
 clear hW1 oh Af h2 h3 Ri hz
 go_enter Try.func92,Try.ntmps92
 go_upto_region 1 with (fail)
 rw [← HW.out]
 clear HW
 go_upto_region 7 with (fail)
 have Gd:=qa.mk (za (Below.refl W1.heap.size W1))
 have hd1:W1.cell? ⟨kb,0,none⟩=some (.slice (some ⟨g,0,none⟩) xs.length cc):=nr
 have Cp:W1.cell? ⟨W.heap.size,2,none⟩=some (.int .i64 a):=Gk
 have hd3:W1.cell? ⟨W.heap.size,3,none⟩=some (.int .i64 b):=Fk
 have HG:=qa.mk (fun (W3:World) (h:Below W1.heap.size W1 W3)=>(⟨Ab h hd1,Ab h Cp,Ab h hd3,Ab h Lg,Ab h Kg,Ab h Wg,Ab h Vg⟩:W3.cell? ⟨kb,0,none⟩=some (.slice (some ⟨g,0,none⟩) xs.length cc)∧W3.cell? ⟨W.heap.size,2,none⟩=some (.int .i64 a)∧W3.cell? ⟨W.heap.size,3,none⟩=some (.int .i64 b)∧W3.cell? ⟨g,a.toNat * 2,none⟩=some (.int .i64 (Ta xs a).f0)∧W3.cell? ⟨g,a.toNat * 2 + 1,none⟩=some (.int .i64 (Ta xs a).f1)∧W3.cell? ⟨g,b.toNat * 2,none⟩=some (.int .i64 (Ta xs b).f0)∧W3.cell? ⟨g,b.toNat * 2 + 1,none⟩=some (.int .i64 (Ta xs b).f1)))
 refine Pg (n:=20) (S:=fun w'=>w'.cell? ⟨kb,0,none⟩=some (.slice (some ⟨g,0,none⟩) xs.length cc)∧w'.cell? ⟨W.heap.size,2,none⟩=some (.int .i64 a)∧w'.cell? ⟨W.heap.size,3,none⟩=some (.int .i64 b)∧w'.cell? ⟨g,a.toNat * 2,none⟩=some (.int .i64 (Ta xs a).f0)∧w'.cell? ⟨g,a.toNat * 2 + 1,none⟩=some (.int .i64 (Ta xs a).f1)∧w'.cell? ⟨g,b.toNat * 2,none⟩=some (.int .i64 (Ta xs b).f0)∧w'.cell? ⟨g,b.toNat * 2 + 1,none⟩=some (.int .i64 (Ta xs b).f1)) (ds:=[19]) #[false,false,false,false,false,false,false,false,false,false,false,false,false,false,false,false,false,false,false,false] (by kernel_rfl) rfl rfl ⟨hd1,Cp,hd3,Lg,Kg,Wg,Vg⟩ (fun hHeld=>?_)
 refine Nb (i:=0) (N:=some 26) (v:=?_) (a':=?_) #[true,false,false,false,false,false,false,false,false,false,false,false,false,false,false,false,false,false,false,false] rfl rfl (by kernel_rfl) (fun _ _ _ h=>h) (Or.inl ⟨by rfl,?_⟩) ?_ ?_
 rotate_left
 ·intro w'
  go_simp
  with_reducible rfl
 rotate_left
 ·simp only [Act.put,List.setIfInBounds_toArray,List.set_cons_zero,List.set_cons_succ,Za,gb]
  rfl
 refine Nb (i:=1) (N:=some 27) (v:=?_) (a':=?_) #[true,true,false,false,false,false,false,false,false,false,false,false,false,false,false,false,false,false,false,false] rfl rfl (by kernel_rfl) (fun _ _ _ h=>h) (Or.inl ⟨by rfl,?_⟩) ?_ ?_
 rotate_left
 ·intro w'
  go_simp
  with_reducible rfl
 rotate_left
 ·simp only [Act.put,List.setIfInBounds_toArray,List.set_cons_zero,List.set_cons_succ,Za,gb]
  rfl
 refine Nb (i:=2) (N:=some 28) (v:=?_) (a':=?_) #[true,true,true,false,false,false,false,false,false,false,false,false,false,false,false,false,false,false,false,false] rfl rfl (by kernel_rfl) (fun _ _ _ h=>h) (Or.inl ⟨by rfl,?_⟩) ?_ ?_
 rotate_left
 ·intro w'
  go_simp
  with_reducible rfl
 rotate_left
 ·simp only [Act.put,List.setIfInBounds_toArray,List.set_cons_zero,List.set_cons_succ,Za,gb]
  rfl
 refine Nb (i:=4) (N:=some 30) (v:=?_) (a':=?_) #[true,true,true,false,true,false,false,false,false,false,false,false,false,false,false,false,false,false,false,false] rfl rfl (by kernel_rfl) (fun _ _ _ h=>h) (Or.inl ⟨by rfl,?_⟩) ?_ ?_
 rotate_left
 ·intro w'
  go_simp
  with_reducible rfl
 rotate_left
 ·simp only [Act.put,List.setIfInBounds_toArray,List.set_cons_zero,List.set_cons_succ,Za,gb]
  rfl
 refine Nb (i:=8) (N:=some 34) (v:=?_) (a':=?_) #[true,true,true,false,true,false,false,false,true,false,false,false,false,false,false,false,false,false,false,false] rfl rfl (by kernel_rfl) (fun _ _ _ h=>h) (Or.inl ⟨by rfl,?_⟩) ?_ ?_
 rotate_left
 ·intro w'
  go_simp
  with_reducible rfl
 rotate_left
 ·simp only [Act.put,List.setIfInBounds_toArray,List.set_cons_zero,List.set_cons_succ,Za,gb]
  rfl
 refine Nb (i:=9) (N:=some 35) (v:=?_) (a':=?_) #[true,true,true,false,true,false,false,false,true,true,false,false,false,false,false,false,false,false,false,false] rfl rfl (by kernel_rfl) (fun _ _ _ h=>h) (Or.inl ⟨by rfl,?_⟩) ?_ ?_
 rotate_left
 ·intro w'
  go_simp
  with_reducible rfl
 rotate_left
 ·simp only [Act.put,List.setIfInBounds_toArray,List.set_cons_zero,List.set_cons_succ,Za,gb]
  rfl
 refine Nb (i:=10) (N:=some 36) (v:=?_) (a':=?_) #[true,true,true,false,true,false,false,false,true,true,true,false,false,false,false,false,false,false,false,false] rfl rfl (by kernel_rfl) (fun _ _ _ h=>h) (Or.inl ⟨by rfl,?_⟩) ?_ ?_
 rotate_left
 ·intro w'
  go_simp
  with_reducible rfl
 rotate_left
 ·simp only [Act.put,List.setIfInBounds_toArray,List.set_cons_zero,List.set_cons_succ,Za,gb]
  rfl
 refine Nb (i:=12) (N:=some 38) (v:=?_) (a':=?_) #[true,true,true,false,true,false,false,false,true,true,true,false,true,false,false,false,false,false,false,false] rfl rfl (by kernel_rfl) (fun _ _ _ h=>h) (Or.inl ⟨by rfl,?_⟩) ?_ ?_
 rotate_left
 ·intro w'
  go_simp
  with_reducible rfl
 rotate_left
 ·simp only [Act.put,List.setIfInBounds_toArray,List.set_cons_zero,List.set_cons_succ,Za,gb]
  rfl
 refine Jd (i:=3) (N:=some 29) (v:=?_) (a':=?_) #[true,true,true,true,true,false,false,false,true,true,true,false,true,false,false,false,false,false,false,false] rfl rfl (by kernel_rfl) (fun _ _ _ h=>h) (Or.inl ⟨by rfl,?_⟩) hHeld ?_ ?_
 rotate_left
 ·rintro w' ⟨s0,s1,s2,s3,s4,s5,s6⟩
  go_simp
  with_reducible rfl
 rotate_left
 ·simp only [Act.put,List.setIfInBounds_toArray,List.set_cons_zero,List.set_cons_succ,Za,gb]
  rfl
 refine Jd (i:=5) (N:=some 31) (v:=?_) (a':=?_) #[true,true,true,true,true,true,false,false,true,true,true,false,true,false,false,false,false,false,false,false] rfl rfl (by kernel_rfl) (fun _ _ _ h=>h) (Or.inl ⟨by rfl,?_⟩) hHeld ?_ ?_
 rotate_left
 ·rintro w' ⟨s0,s1,s2,s3,s4,s5,s6⟩
  go_simp
  with_reducible rfl
 rotate_left
 ·simp only [Act.put,List.setIfInBounds_toArray,List.set_cons_zero,List.set_cons_succ,Za,gb]
  rfl
 refine Nb (i:=6) (N:=some 32) (v:=?_) (a':=?_) #[true,true,true,true,true,true,true,false,true,true,true,false,true,false,false,false,false,false,false,false] rfl rfl (by kernel_rfl) (fun _ _ _ h=>h) (Or.inl ⟨by rfl,?_⟩) ?_ ?_
 rotate_left
 ·intro w'
  go_simp
  with_reducible rfl
 rotate_left
 ·simp only [Act.put,List.setIfInBounds_toArray,List.set_cons_zero,List.set_cons_succ,Za,gb]
  rfl
 refine Jd (i:=7) (N:=some 33) (v:=?_) (a':=?_) #[true,true,true,true,true,true,true,true,true,true,true,false,true,false,false,false,false,false,false,false] rfl rfl (by kernel_rfl) (fun _ _ _ h=>h) (Or.inl ⟨by rfl,?_⟩) hHeld ?_ ?_
 rotate_left
 ·rintro w' ⟨s0,s1,s2,s3,s4,s5,s6⟩
  go_simp
  with_reducible rfl
 rotate_left
 ·simp only [Act.put,List.setIfInBounds_toArray,List.set_cons_zero,List.set_cons_succ,Za,gb]
  rfl
 refine Jd (i:=11) (N:=some 37) (v:=?_) (a':=?_) #[true,true,true,true,true,true,true,true,true,true,true,true,true,false,false,false,false,false,false,false] rfl rfl (by kernel_rfl) (fun _ _ _ h=>h) (Or.inl ⟨by rfl,?_⟩) hHeld ?_ ?_
 rotate_left
 ·rintro w' ⟨s0,s1,s2,s3,s4,s5,s6⟩
  go_simp
  with_reducible rfl
 rotate_left
 ·simp only [Act.put,List.setIfInBounds_toArray,List.set_cons_zero,List.set_cons_succ,Za,gb]
  rfl
 refine Jd (i:=13) (N:=some 39) (v:=?_) (a':=?_) #[true,true,true,true,true,true,true,true,true,true,true,true,true,true,false,false,false,false,false,false] rfl rfl (by kernel_rfl) (fun _ _ _ h=>h) (Or.inl ⟨by rfl,?_⟩) hHeld ?_ ?_
 rotate_left
 ·rintro w' ⟨s0,s1,s2,s3,s4,s5,s6⟩
  go_simp
  with_reducible rfl
 rotate_left
 ·simp only [Act.put,List.setIfInBounds_toArray,List.set_cons_zero,List.set_cons_succ,Za,gb]
  rfl
 refine Nb (i:=14) (N:=some 40) (v:=?_) (a':=?_) #[true,true,true,true,true,true,true,true,true,true,true,true,true,true,true,false,false,false,false,false] rfl rfl (by kernel_rfl) (fun _ _ _ h=>h) (Or.inl ⟨by rfl,?_⟩) ?_ ?_
 rotate_left
 ·intro w'
  go_simp
  with_reducible rfl
 rotate_left
 ·simp only [Act.put,List.setIfInBounds_toArray,List.set_cons_zero,List.set_cons_succ,Za,gb]
  rfl
 refine Jd (i:=15) (N:=some 41) (v:=?_) (a':=?_) #[true,true,true,true,true,true,true,true,true,true,true,true,true,true,true,true,false,false,false,false] rfl rfl (by kernel_rfl) (fun _ _ _ h=>h) (Or.inl ⟨by rfl,?_⟩) hHeld ?_ ?_
 rotate_left
 ·rintro w' ⟨s0,s1,s2,s3,s4,s5,s6⟩
  go_simp
  with_reducible rfl
 rotate_left
 ·simp only [Act.put,List.setIfInBounds_toArray,List.set_cons_zero,List.set_cons_succ,Za,gb]
  rfl
 refine Gr (σ:=Nat × Nat) 2 #[true,true,true,true,true,true,true,true,true,true,true,true,true,true,true,true,true,true,false,false] (fun s=>[(5,.pointer (some ⟨s.1,0,none⟩)),(6,.pointer (some ⟨s.2,0,none⟩))]) (fun s w'=>w' = (W1.drew.alloc (.cells #[.int .i64 0,.int .i64 0] 79 (0,0))).alloc (.cells #[.int .i64 0,.int .i64 0] 79 (0,0))∧((s.1=W1.heap.size∧s.2=W1.heap.size + 1) ∨ (s.1=W1.heap.size + 1∧s.2=W1.heap.size))) ?_ ?_
 rotate_left
 ·intro yh
  refine uy (i:=16) (j:=17) (Ni:=some 5) (Nj:=some 6) #[true,true,true,true,true,true,true,true,true,true,true,true,true,true,true,true,true,false,false,false] #[true,true,true,true,true,true,true,true,true,true,true,true,true,true,true,true,false,true,false,false] rfl rfl rfl rfl (by kernel_rfl) (by decide) (by decide) (fun K hK=>?_) (fun K hK=>?_)
  ·skip
   refine jf (w1:=?_) (v:=?_) (by rfl) rfl ?_ ?_
   rotate_left 2
   ·go_simp
    constructor
    ·rfl
    ·rfl
   refine hK.out _ _ ⟨(HG.out _ (ia Gd.out _)).1,(HG.out _ (ia Gd.out _)).2.1,(HG.out _ (ia Gd.out _)).2.2.1,(HG.out _ (ia Gd.out _)).2.2.2.1,(HG.out _ (ia Gd.out _)).2.2.2.2.1,(HG.out _ (ia Gd.out _)).2.2.2.2.2.1,(HG.out _ (ia Gd.out _)).2.2.2.2.2.2⟩ (fun hHeld=>?_)
   clear hK K
   refine Xd (a':=?_) ?_ ?_
   rotate_left
   ·show Act.put _ (some 5) _=_
    simp only [Act.put,List.setIfInBounds_toArray,List.set_cons_zero,List.set_cons_succ,Za,gb]
    rfl
   refine gh (i:=17) (N:=some 6) #[true,true,true,true,true,true,true,true,true,true,true,true,true,true,true,true,true,true,false,false] rfl rfl (by kernel_rfl) (by decide) (fun K hK=>?_)
   refine jf (w1:=?_) (v:=?_) (by rfl) rfl ?_ ?_
   rotate_left 2
   ·go_simp
    constructor
    ·rfl
    ·rfl
   refine hK.out _ _ ⟨(HG.out _ (ia (ia Gd.out _) _)).1,(HG.out _ (ia (ia Gd.out _) _)).2.1,(HG.out _ (ia (ia Gd.out _) _)).2.2.1,(HG.out _ (ia (ia Gd.out _) _)).2.2.2.1,(HG.out _ (ia (ia Gd.out _) _)).2.2.2.2.1,(HG.out _ (ia (ia Gd.out _) _)).2.2.2.2.2.1,(HG.out _ (ia (ia Gd.out _) _)).2.2.2.2.2.2⟩ (fun hHeld=>?_)
   clear hK K
   refine Xd (a':=?_) ?_ ?_
   rotate_left
   ·show Act.put _ (some 6) _=_
    simp only [Act.put,List.setIfInBounds_toArray,List.set_cons_zero,List.set_cons_succ,Za,gb]
    rfl
   exact Xd (by simp only [Kf,Act.put,List.setIfInBounds_toArray,List.set_cons_zero,List.set_cons_succ]) (yh (W1.heap.size,W1.heap.size + 1) _ ⟨rfl,Or.inl ⟨rfl,rfl⟩⟩)
  ·skip
   refine jf (w1:=?_) (v:=?_) (by rfl) rfl ?_ ?_
   rotate_left 2
   ·go_simp
    constructor
    ·rfl
    ·rfl
   refine hK.out _ _ ⟨(HG.out _ (ia Gd.out _)).1,(HG.out _ (ia Gd.out _)).2.1,(HG.out _ (ia Gd.out _)).2.2.1,(HG.out _ (ia Gd.out _)).2.2.2.1,(HG.out _ (ia Gd.out _)).2.2.2.2.1,(HG.out _ (ia Gd.out _)).2.2.2.2.2.1,(HG.out _ (ia Gd.out _)).2.2.2.2.2.2⟩ (fun hHeld=>?_)
   clear hK K
   refine Xd (a':=?_) ?_ ?_
   rotate_left
   ·show Act.put _ (some 6) _=_
    simp only [Act.put,List.setIfInBounds_toArray,List.set_cons_zero,List.set_cons_succ,Za,gb]
    rfl
   refine gh (i:=16) (N:=some 5) #[true,true,true,true,true,true,true,true,true,true,true,true,true,true,true,true,true,true,false,false] rfl rfl (by kernel_rfl) (by decide) (fun K hK=>?_)
   refine jf (w1:=?_) (v:=?_) (by rfl) rfl ?_ ?_
   rotate_left 2
   ·go_simp
    constructor
    ·rfl
    ·rfl
   refine hK.out _ _ ⟨(HG.out _ (ia (ia Gd.out _) _)).1,(HG.out _ (ia (ia Gd.out _) _)).2.1,(HG.out _ (ia (ia Gd.out _) _)).2.2.1,(HG.out _ (ia (ia Gd.out _) _)).2.2.2.1,(HG.out _ (ia (ia Gd.out _) _)).2.2.2.2.1,(HG.out _ (ia (ia Gd.out _) _)).2.2.2.2.2.1,(HG.out _ (ia (ia Gd.out _) _)).2.2.2.2.2.2⟩ (fun hHeld=>?_)
   clear hK K
   refine Xd (a':=?_) ?_ ?_
   rotate_left
   ·show Act.put _ (some 5) _=_
    simp only [Act.put,List.setIfInBounds_toArray,List.set_cons_zero,List.set_cons_succ,Za,gb]
    rfl
   exact Xd (by simp only [Kf,Act.put,List.setIfInBounds_toArray,List.set_cons_zero,List.set_cons_succ]) (yh (W1.heap.size + 1,W1.heap.size) _ ⟨rfl,Or.inr ⟨rfl,rfl⟩⟩)
 rintro ⟨s1,s2⟩ W3 ⟨Ak,hs⟩
 simp only at hs
 have hne:s1 ≠ s2:=by omega
 have zk:W1.heap.size ≤ s1:=by omega
 have xk:W1.heap.size ≤ s2:=by omega
 have Hp:Below W1.heap.size W1 W3:=by rw [Ak];exact ia (ia Gd.out _) _
 have AA:W3.heap.size=W1.heap.size + 2:=by rw [Ak];simp
 have qn:W3.heap[s1]? = some (.cells #[.int .i64 0,.int .i64 0] 79 (0,0)):=by
  rw [Ak]
  rcases hs with ⟨e,_⟩|⟨e,_⟩
  ·rw [e];exact Da (Yc W1.drew _) _
  ·rw [e];have:=Yc (W1.drew.alloc (.cells #[.int .i64 0,.int .i64 0] 79 (0,0))) (.cells #[.int .i64 0,.int .i64 0] 79 (0,0));simpa using this
 have hn2:W3.heap[s2]? = some (.cells #[.int .i64 0,.int .i64 0] 79 (0,0)):=by
  rw [Ak]
  rcases hs with ⟨_,e⟩|⟨_,e⟩
  ·rw [e];have:=Yc (W1.drew.alloc (.cells #[.int .i64 0,.int .i64 0] 79 (0,0))) (.cells #[.int .i64 0,.int .i64 0] 79 (0,0));simpa using this
  ·rw [e];exact Da (Yc W1.drew _) _
 clear Ak hs
 have tu:=qa.mk Hp
 have hHeld:=HG.out W3 Hp
 have Yi:=qa.mk qn
 have ru:=qa.mk hn2
 clear Hp qn hn2
 refine Xd (a':=?_) ?_ ?_
 rotate_left
 ·simp only [Kf,Act.put,List.setIfInBounds_toArray,List.set_cons_zero,List.set_cons_succ]
  rfl
 refine gh (i:=18) (N:=none) #[true,true,true,true,true,true,true,true,true,true,true,true,true,true,true,true,true,true,true,false] rfl rfl (by kernel_rfl) (by decide) (fun K hK=>?_)
 have Gp:=(ga Yi.out 0).trans rfl
 have Fp:=(ga Yi.out 1).trans rfl
 have Bp:=aa Yi.out 0
 have Ap:=aa Yi.out 1
 refine si (w1:=?_) (by rfl) rfl ?_ ?_
 rotate_left
 ·go_simp
  rfl
 have Og:=qa.mk (show Below W1.heap.size W1 ((W3.setCell ⟨s1,0,none⟩ (.int .i64 (Ta xs a).f0)).setCell ⟨s1,1,none⟩ (.int .i64 (Ta xs a).f1)) from (tu.out.setCell zk _).setCell zk _)
 have su:=qa.mk (Db (cs:=#[.int .i64 (Ta xs a).f0,.int .i64 0]) (Db (cs:=#[.int .i64 0,.int .i64 0]) Yi.out 0 (.int .i64 (Ta xs a).f0) rfl) 1 (.int .i64 (Ta xs a).f1) rfl)
 have Zi:=qa.mk (Rb (p:=⟨s1,1,none⟩) (Rb (p:=⟨s1,0,none⟩) ru.out (Ne.symm hne) (.int .i64 (Ta xs a).f0)) (Ne.symm hne) (.int .i64 (Ta xs a).f1))
 clear Gp Fp Bp Ap
 refine hK.out _ _ ⟨(HG.out _ Og.out).1,(HG.out _ Og.out).2.1,(HG.out _ Og.out).2.2.1,(HG.out _ Og.out).2.2.2.1,(HG.out _ Og.out).2.2.2.2.1,(HG.out _ Og.out).2.2.2.2.2.1,(HG.out _ Og.out).2.2.2.2.2.2⟩ (fun hHeld=>?_)
 clear hK K
 refine Wq (i:=19) (N:=none) #[true,true,true,true,true,true,true,true,true,true,true,true,true,true,true,true,true,true,true,true] rfl rfl (by kernel_rfl) (by decide) (fun K hK=>?_)
 have Ep:=(ga Zi.out 0).trans rfl
 have Dp:=(ga Zi.out 1).trans rfl
 have zp:=aa Zi.out 0
 have yp:=aa Zi.out 1
 refine si (w1:=?_) (by rfl) rfl ?_ ?_
 rotate_left
 ·go_simp
  rfl
 refine hK.out _ _ ?_
 clear hK K
 refine Yh (by kernel_rfl) ?_
 obtain ⟨W5,hW5⟩:∃ W5,W5=(((W3.setCell ⟨s1,0,none⟩ (.int .i64 (Ta xs a).f0)).setCell ⟨s1,1,none⟩ (.int .i64 (Ta xs a).f1)).setCell ⟨s2,0,none⟩ (.int .i64 (Ta xs b).f0)).setCell ⟨s2,1,none⟩ (.int .i64 (Ta xs b).f1):=⟨_,rfl⟩
 rw [← hW5]
 have Ti:Below W1.heap.size W1 W5:=by rw [hW5];exact (Og.out.setCell xk _).setCell xk _
 have ju:W5.heap[s1]? = some (.cells #[.int .i64 (Ta xs a).f0,.int .i64 (Ta xs a).f1] 79 (0,0)):=by rw [hW5];exact Rb (p:=⟨s2,1,none⟩) (Rb (p:=⟨s2,0,none⟩) su.out hne _) hne _
 have hm2:W5.heap[s2]? = some (.cells #[.int .i64 (Ta xs b).f0,.int .i64 (Ta xs b).f1] 79 (0,0)):=by rw [hW5];exact Db (cs:=#[.int .i64 (Ta xs b).f0,.int .i64 0]) (Db (cs:=#[.int .i64 0,.int .i64 0]) Zi.out 0 _ rfl) 1 _ rfl
 clear hW5 su Zi Yi ru Ep Dp zp yp Og tu hd1 Cp hd3 Lg Kg Wg Vg hx0 hx1 Gk Fk qm vp om hr0 En Fj Ej nr hk1 Jr HG Gd AA
 have HR:=qa.mk (Wa HR.out Ti)
 have HX:=qa.mk (Wa HX.out Ti)
 have We:=qa.mk (Wa We.out Ti)
 have DA:=Ti.size
 have HB:=qa.mk (Pa HB.out Ti)
 clear Ti
 have hk1:=(ga We.out 1).trans rfl
 have Jr:=aa We.out 1
 have hr0:=(ga HR.out 0).trans rfl
 have En:=(ga HR.out 1).trans rfl
 have Fj:=aa HR.out 0
 have Ej:=aa HR.out 1
 have om:=(ga HX.out 6).trans rfl
 have KA:=(ga ju 0).trans rfl
 have JA:=(ga ju 1).trans rfl
 have IA:=(ga hm2 0).trans rfl
 have GA:=(ga hm2 1).trans rfl
 go_wp2_with (first|(go_at_call 119;(with_reducible refine (Il _ _ _ _).mono ?_);rintro e w1 ⟨rfl,⟨k1,rfl⟩⟩))
 all_goals
  have hz:=HZ.out
  refine bodyPost_ret (results_cell_row rfl _ _ (W.heap.size + 1) 79 #[.int .i64 nx,.int .i64 0] (0,0) _ rfl ?_ Try.underlying79 rfl (by kernel_rfl)) rfl ?_
  ·exact Db (cs:=#[.int .i64 nx,.int .i64 0]) (Db (cs:=#[.int .i64 0,.int .i64 0]) (Rb (by (with_reducible repeat (first|refine Ea ?_ _|refine Ga ?_|refine Da ?_ _));exact HR.out) (by simp;omega) _) 0 _ rfl) 1 _ rfl
  ·exact ⟨rfl,Jn hB kB.out HN.out (by (with_reducible repeat (first|refine Kept.drewN ?_ _|refine Kept.drew ?_|refine Kept.alloc ?_ _));exact Kept.vk HB.out _) (by (with_reducible repeat (first|refine Ea ?_ _|refine Ga ?_|refine Da ?_ _));exact We.out) (by repeat (first|exact HB.out.mono (Nat.le_of_lt hlt)|apply ja|apply za|refine Below.alloc ?_ (by simp;omega) _)) (Nat.le_succ _) hlt⟩
set_option maxHeartbeats 2000000 in
set_option maxRecDepth 100000 in
theorem jA (hk:KV W B kb v xs nx) (hn0:0 ≤ nx) (qn:nx ≤ 1000000000) (d a b c n:Int) (t:ByteArray) (ha0:0 ≤ a) (ha1:a < xs.length) (hb0:0 ≤ b) (hb1:b < xs.length) (sQ:((Ta xs b).f0 == -1)=false) (tQ:(t.toList == [43])=false) (rW:(t.toList == [45])=true) (hE:((Ta xs a).f0 == (Ta xs b).f0)=false) :
  Calls Try.prog 92 #[.pointer (some ⟨kb,0,none⟩),.agg #[.int .i64 2,.int .i64 d,.int .i64 a,.int .i64 b,.int .i64 c,.int .i64 n,.string t]] W fun e w'=>e = .returned (.agg #[.int .i64 nx,.int .i64 0])∧KV w' B kb v xs (nx + 1)∧Kept W w' (fun k=>k=kb)∧Below kb W w':=by
 obtain ⟨hB,h2,h3⟩:=hk
 have HN:=qa.mk h3
 have kB:=qa.mk h2
 have hlt:=Ac h2
 obtain ⟨W1,hW1⟩:∃ W1,W1=(W.alloc (.cells #[.int .i64 2,.int .i64 d,.int .i64 a,.int .i64 b,.int .i64 c,.int .i64 n,.string t] 70 (0,0))).alloc (.cells #[.int .i64 0,.int .i64 0] 79 (0,0)):=⟨_,rfl⟩
 have HW:=qa.mk hW1
 have Ri:Below W.heap.size W W1:=by rw [hW1];exact ia (ia (Below.refl _ _) _) _
 have hz:W1.heap.size=W.heap.size + 2:=by rw [hW1];simp
 have We:=qa.mk (Wa h2 Ri)
 have nr:=(ga We.out 0).trans rfl
 have hk1:=(ga We.out 1).trans rfl
 have Jr:=aa We.out 1
 have oh:W1.heap[W.heap.size + 1]? = some (.cells #[.int .i64 0,.int .i64 0] 79 (0,0)):=by rw [hW1];have:=Yc (W.alloc (.cells #[.int .i64 2,.int .i64 d,.int .i64 a,.int .i64 b,.int .i64 c,.int .i64 n,.string t] 70 (0,0))) (.cells #[.int .i64 0,.int .i64 0] 79 (0,0));simpa using this
 have Af:W1.heap[W.heap.size]? = some (.cells #[.int .i64 2,.int .i64 d,.int .i64 a,.int .i64 b,.int .i64 c,.int .i64 n,.string t] 70 (0,0)):=by rw [hW1];exact Da (Yc _ _) _
 have HR:=qa.mk oh
 have HX:=qa.mk Af
 have hr0:=(ga oh 0).trans rfl
 have En:=(ga oh 1).trans rfl
 have Fj:=aa oh 0
 have Ej:=aa oh 1
 have hx0:=(ga Af 0).trans rfl
 have hx1:=(ga Af 1).trans rfl
 have Gk:=(ga Af 2).trans rfl
 have Fk:=(ga Af 3).trans rfl
 have qm:=(ga Af 4).trans rfl
 have vp:=(ga Af 5).trans rfl
 have om:=(ga Af 6).trans rfl
 have HB:=qa.mk Ri
 obtain ⟨A,cc,rfl,_,hC⟩:=Kd.Kh (Kd.Ge h3 Ri)
 have dD:=hC.2.1
 obtain ⟨ad,e1,Lg,Kg⟩:=Bh hC a ha0 ha1
 cases e1
 obtain ⟨BO,e1,Wg,Vg⟩:=Bh hC b hb0 hb1
 cases e1
 obtain ⟨g,rfl⟩:=Kd.jm h3
 have Ly:g < W.heap.size:=by
  obtain ⟨inner,hi⟩:=Kd.Pk h3
  exact Lk hi g (by simp [Value.ownBlock])
 have FA:g ≠ W1.heap.size:=by omega
 have dH:g ≠ W1.heap.size + 1:=by omega
 simp only [add_plain] at Lg Kg Wg Vg
 clear hC
 have Uw:kb ≠ W1.heap.size:=by omega
 have Tw:kb ≠ W1.heap.size + 1:=by omega
 have hw1:W.heap.size ≠ W1.heap.size:=by omega
 have XH:W.heap.size ≠ W1.heap.size + 1:=by omega
 have WH:W.heap.size + 1 ≠ W1.heap.size:=by omega
 have VH:W.heap.size + 1 ≠ W1.heap.size + 1:=by omega
 have HZ:=qa.mk hz
 clear hW1 oh Af h2 h3 Ri hz
 go_enter Try.func92,Try.ntmps92
 go_upto_region 1 with (fail)
 rw [← HW.out]
 clear HW
 go_upto_region 7 with (fail)
 have Gd:=qa.mk (za (Below.refl W1.heap.size W1))
 have hd1:W1.cell? ⟨kb,0,none⟩=some (.slice (some ⟨g,0,none⟩) xs.length cc):=nr
 have Cp:W1.cell? ⟨W.heap.size,2,none⟩=some (.int .i64 a):=Gk
 have hd3:W1.cell? ⟨W.heap.size,3,none⟩=some (.int .i64 b):=Fk
 have HG:=qa.mk (fun (W3:World) (h:Below W1.heap.size W1 W3)=>(⟨Ab h hd1,Ab h Cp,Ab h hd3,Ab h Lg,Ab h Kg,Ab h Wg,Ab h Vg⟩:W3.cell? ⟨kb,0,none⟩=some (.slice (some ⟨g,0,none⟩) xs.length cc)∧W3.cell? ⟨W.heap.size,2,none⟩=some (.int .i64 a)∧W3.cell? ⟨W.heap.size,3,none⟩=some (.int .i64 b)∧W3.cell? ⟨g,a.toNat * 2,none⟩=some (.int .i64 (Ta xs a).f0)∧W3.cell? ⟨g,a.toNat * 2 + 1,none⟩=some (.int .i64 (Ta xs a).f1)∧W3.cell? ⟨g,b.toNat * 2,none⟩=some (.int .i64 (Ta xs b).f0)∧W3.cell? ⟨g,b.toNat * 2 + 1,none⟩=some (.int .i64 (Ta xs b).f1)))
 refine Pg (n:=20) (S:=fun w'=>w'.cell? ⟨kb,0,none⟩=some (.slice (some ⟨g,0,none⟩) xs.length cc)∧w'.cell? ⟨W.heap.size,2,none⟩=some (.int .i64 a)∧w'.cell? ⟨W.heap.size,3,none⟩=some (.int .i64 b)∧w'.cell? ⟨g,a.toNat * 2,none⟩=some (.int .i64 (Ta xs a).f0)∧w'.cell? ⟨g,a.toNat * 2 + 1,none⟩=some (.int .i64 (Ta xs a).f1)∧w'.cell? ⟨g,b.toNat * 2,none⟩=some (.int .i64 (Ta xs b).f0)∧w'.cell? ⟨g,b.toNat * 2 + 1,none⟩=some (.int .i64 (Ta xs b).f1)) (ds:=[19]) #[false,false,false,false,false,false,false,false,false,false,false,false,false,false,false,false,false,false,false,false] (by kernel_rfl) rfl rfl ⟨hd1,Cp,hd3,Lg,Kg,Wg,Vg⟩ (fun hHeld=>?_)
 refine Nb (i:=0) (N:=some 26) (v:=?_) (a':=?_) #[true,false,false,false,false,false,false,false,false,false,false,false,false,false,false,false,false,false,false,false] rfl rfl (by kernel_rfl) (fun _ _ _ h=>h) (Or.inl ⟨by rfl,?_⟩) ?_ ?_
 rotate_left
 ·intro w'
  go_simp
  with_reducible rfl
 rotate_left
 ·simp only [Act.put,List.setIfInBounds_toArray,List.set_cons_zero,List.set_cons_succ,Za,gb]
  rfl
 refine Nb (i:=1) (N:=some 27) (v:=?_) (a':=?_) #[true,true,false,false,false,false,false,false,false,false,false,false,false,false,false,false,false,false,false,false] rfl rfl (by kernel_rfl) (fun _ _ _ h=>h) (Or.inl ⟨by rfl,?_⟩) ?_ ?_
 rotate_left
 ·intro w'
  go_simp
  with_reducible rfl
 rotate_left
 ·simp only [Act.put,List.setIfInBounds_toArray,List.set_cons_zero,List.set_cons_succ,Za,gb]
  rfl
 refine Nb (i:=2) (N:=some 28) (v:=?_) (a':=?_) #[true,true,true,false,false,false,false,false,false,false,false,false,false,false,false,false,false,false,false,false] rfl rfl (by kernel_rfl) (fun _ _ _ h=>h) (Or.inl ⟨by rfl,?_⟩) ?_ ?_
 rotate_left
 ·intro w'
  go_simp
  with_reducible rfl
 rotate_left
 ·simp only [Act.put,List.setIfInBounds_toArray,List.set_cons_zero,List.set_cons_succ,Za,gb]
  rfl
 refine Nb (i:=4) (N:=some 30) (v:=?_) (a':=?_) #[true,true,true,false,true,false,false,false,false,false,false,false,false,false,false,false,false,false,false,false] rfl rfl (by kernel_rfl) (fun _ _ _ h=>h) (Or.inl ⟨by rfl,?_⟩) ?_ ?_
 rotate_left
 ·intro w'
  go_simp
  with_reducible rfl
 rotate_left
 ·simp only [Act.put,List.setIfInBounds_toArray,List.set_cons_zero,List.set_cons_succ,Za,gb]
  rfl
 refine Nb (i:=8) (N:=some 34) (v:=?_) (a':=?_) #[true,true,true,false,true,false,false,false,true,false,false,false,false,false,false,false,false,false,false,false] rfl rfl (by kernel_rfl) (fun _ _ _ h=>h) (Or.inl ⟨by rfl,?_⟩) ?_ ?_
 rotate_left
 ·intro w'
  go_simp
  with_reducible rfl
 rotate_left
 ·simp only [Act.put,List.setIfInBounds_toArray,List.set_cons_zero,List.set_cons_succ,Za,gb]
  rfl
 refine Nb (i:=9) (N:=some 35) (v:=?_) (a':=?_) #[true,true,true,false,true,false,false,false,true,true,false,false,false,false,false,false,false,false,false,false] rfl rfl (by kernel_rfl) (fun _ _ _ h=>h) (Or.inl ⟨by rfl,?_⟩) ?_ ?_
 rotate_left
 ·intro w'
  go_simp
  with_reducible rfl
 rotate_left
 ·simp only [Act.put,List.setIfInBounds_toArray,List.set_cons_zero,List.set_cons_succ,Za,gb]
  rfl
 refine Nb (i:=10) (N:=some 36) (v:=?_) (a':=?_) #[true,true,true,false,true,false,false,false,true,true,true,false,false,false,false,false,false,false,false,false] rfl rfl (by kernel_rfl) (fun _ _ _ h=>h) (Or.inl ⟨by rfl,?_⟩) ?_ ?_
 rotate_left
 ·intro w'
  go_simp
  with_reducible rfl
 rotate_left
 ·simp only [Act.put,List.setIfInBounds_toArray,List.set_cons_zero,List.set_cons_succ,Za,gb]
  rfl
 refine Nb (i:=12) (N:=some 38) (v:=?_) (a':=?_) #[true,true,true,false,true,false,false,false,true,true,true,false,true,false,false,false,false,false,false,false] rfl rfl (by kernel_rfl) (fun _ _ _ h=>h) (Or.inl ⟨by rfl,?_⟩) ?_ ?_
 rotate_left
 ·intro w'
  go_simp
  with_reducible rfl
 rotate_left
 ·simp only [Act.put,List.setIfInBounds_toArray,List.set_cons_zero,List.set_cons_succ,Za,gb]
  rfl
 refine Jd (i:=3) (N:=some 29) (v:=?_) (a':=?_) #[true,true,true,true,true,false,false,false,true,true,true,false,true,false,false,false,false,false,false,false] rfl rfl (by kernel_rfl) (fun _ _ _ h=>h) (Or.inl ⟨by rfl,?_⟩) hHeld ?_ ?_
 rotate_left
 ·rintro w' ⟨s0,s1,s2,s3,s4,s5,s6⟩
  go_simp
  with_reducible rfl
 rotate_left
 ·simp only [Act.put,List.setIfInBounds_toArray,List.set_cons_zero,List.set_cons_succ,Za,gb]
  rfl
 refine Jd (i:=5) (N:=some 31) (v:=?_) (a':=?_) #[true,true,true,true,true,true,false,false,true,true,true,false,true,false,false,false,false,false,false,false] rfl rfl (by kernel_rfl) (fun _ _ _ h=>h) (Or.inl ⟨by rfl,?_⟩) hHeld ?_ ?_
 rotate_left
 ·rintro w' ⟨s0,s1,s2,s3,s4,s5,s6⟩
  go_simp
  with_reducible rfl
 rotate_left
 ·simp only [Act.put,List.setIfInBounds_toArray,List.set_cons_zero,List.set_cons_succ,Za,gb]
  rfl
 refine Nb (i:=6) (N:=some 32) (v:=?_) (a':=?_) #[true,true,true,true,true,true,true,false,true,true,true,false,true,false,false,false,false,false,false,false] rfl rfl (by kernel_rfl) (fun _ _ _ h=>h) (Or.inl ⟨by rfl,?_⟩) ?_ ?_
 rotate_left
 ·intro w'
  go_simp
  with_reducible rfl
 rotate_left
 ·simp only [Act.put,List.setIfInBounds_toArray,List.set_cons_zero,List.set_cons_succ,Za,gb]
  rfl
 refine Jd (i:=7) (N:=some 33) (v:=?_) (a':=?_) #[true,true,true,true,true,true,true,true,true,true,true,false,true,false,false,false,false,false,false,false] rfl rfl (by kernel_rfl) (fun _ _ _ h=>h) (Or.inl ⟨by rfl,?_⟩) hHeld ?_ ?_
 rotate_left
 ·rintro w' ⟨s0,s1,s2,s3,s4,s5,s6⟩
  go_simp
  with_reducible rfl
 rotate_left
 ·simp only [Act.put,List.setIfInBounds_toArray,List.set_cons_zero,List.set_cons_succ,Za,gb]
  rfl
 refine Jd (i:=11) (N:=some 37) (v:=?_) (a':=?_) #[true,true,true,true,true,true,true,true,true,true,true,true,true,false,false,false,false,false,false,false] rfl rfl (by kernel_rfl) (fun _ _ _ h=>h) (Or.inl ⟨by rfl,?_⟩) hHeld ?_ ?_
 rotate_left
 ·rintro w' ⟨s0,s1,s2,s3,s4,s5,s6⟩
  go_simp
  with_reducible rfl
 rotate_left
 ·simp only [Act.put,List.setIfInBounds_toArray,List.set_cons_zero,List.set_cons_succ,Za,gb]
  rfl
 refine Jd (i:=13) (N:=some 39) (v:=?_) (a':=?_) #[true,true,true,true,true,true,true,true,true,true,true,true,true,true,false,false,false,false,false,false] rfl rfl (by kernel_rfl) (fun _ _ _ h=>h) (Or.inl ⟨by rfl,?_⟩) hHeld ?_ ?_
 rotate_left
 ·rintro w' ⟨s0,s1,s2,s3,s4,s5,s6⟩
  go_simp
  with_reducible rfl
 rotate_left
 ·simp only [Act.put,List.setIfInBounds_toArray,List.set_cons_zero,List.set_cons_succ,Za,gb]
  rfl
 refine Nb (i:=14) (N:=some 40) (v:=?_) (a':=?_) #[true,true,true,true,true,true,true,true,true,true,true,true,true,true,true,false,false,false,false,false] rfl rfl (by kernel_rfl) (fun _ _ _ h=>h) (Or.inl ⟨by rfl,?_⟩) ?_ ?_
 rotate_left
 ·intro w'
  go_simp
  with_reducible rfl
 rotate_left
 ·simp only [Act.put,List.setIfInBounds_toArray,List.set_cons_zero,List.set_cons_succ,Za,gb]
  rfl
 refine Jd (i:=15) (N:=some 41) (v:=?_) (a':=?_) #[true,true,true,true,true,true,true,true,true,true,true,true,true,true,true,true,false,false,false,false] rfl rfl (by kernel_rfl) (fun _ _ _ h=>h) (Or.inl ⟨by rfl,?_⟩) hHeld ?_ ?_
 rotate_left
 ·rintro w' ⟨s0,s1,s2,s3,s4,s5,s6⟩
  go_simp
  with_reducible rfl
 rotate_left
 ·simp only [Act.put,List.setIfInBounds_toArray,List.set_cons_zero,List.set_cons_succ,Za,gb]
  rfl
 refine Gr (σ:=Nat × Nat) 2 #[true,true,true,true,true,true,true,true,true,true,true,true,true,true,true,true,true,true,false,false] (fun s=>[(5,.pointer (some ⟨s.1,0,none⟩)),(6,.pointer (some ⟨s.2,0,none⟩))]) (fun s w'=>w' = (W1.drew.alloc (.cells #[.int .i64 0,.int .i64 0] 79 (0,0))).alloc (.cells #[.int .i64 0,.int .i64 0] 79 (0,0))∧((s.1=W1.heap.size∧s.2=W1.heap.size + 1) ∨ (s.1=W1.heap.size + 1∧s.2=W1.heap.size))) ?_ ?_
 rotate_left
 ·intro yh
  refine uy (i:=16) (j:=17) (Ni:=some 5) (Nj:=some 6) #[true,true,true,true,true,true,true,true,true,true,true,true,true,true,true,true,true,false,false,false] #[true,true,true,true,true,true,true,true,true,true,true,true,true,true,true,true,false,true,false,false] rfl rfl rfl rfl (by kernel_rfl) (by decide) (by decide) (fun K hK=>?_) (fun K hK=>?_)
  ·skip
   refine jf (w1:=?_) (v:=?_) (by rfl) rfl ?_ ?_
   rotate_left 2
   ·go_simp
    constructor
    ·rfl
    ·rfl
   refine hK.out _ _ ⟨(HG.out _ (ia Gd.out _)).1,(HG.out _ (ia Gd.out _)).2.1,(HG.out _ (ia Gd.out _)).2.2.1,(HG.out _ (ia Gd.out _)).2.2.2.1,(HG.out _ (ia Gd.out _)).2.2.2.2.1,(HG.out _ (ia Gd.out _)).2.2.2.2.2.1,(HG.out _ (ia Gd.out _)).2.2.2.2.2.2⟩ (fun hHeld=>?_)
   clear hK K
   refine Xd (a':=?_) ?_ ?_
   rotate_left
   ·show Act.put _ (some 5) _=_
    simp only [Act.put,List.setIfInBounds_toArray,List.set_cons_zero,List.set_cons_succ,Za,gb]
    rfl
   refine gh (i:=17) (N:=some 6) #[true,true,true,true,true,true,true,true,true,true,true,true,true,true,true,true,true,true,false,false] rfl rfl (by kernel_rfl) (by decide) (fun K hK=>?_)
   refine jf (w1:=?_) (v:=?_) (by rfl) rfl ?_ ?_
   rotate_left 2
   ·go_simp
    constructor
    ·rfl
    ·rfl
   refine hK.out _ _ ⟨(HG.out _ (ia (ia Gd.out _) _)).1,(HG.out _ (ia (ia Gd.out _) _)).2.1,(HG.out _ (ia (ia Gd.out _) _)).2.2.1,(HG.out _ (ia (ia Gd.out _) _)).2.2.2.1,(HG.out _ (ia (ia Gd.out _) _)).2.2.2.2.1,(HG.out _ (ia (ia Gd.out _) _)).2.2.2.2.2.1,(HG.out _ (ia (ia Gd.out _) _)).2.2.2.2.2.2⟩ (fun hHeld=>?_)
   clear hK K
   refine Xd (a':=?_) ?_ ?_
   rotate_left
   ·show Act.put _ (some 6) _=_
    simp only [Act.put,List.setIfInBounds_toArray,List.set_cons_zero,List.set_cons_succ,Za,gb]
    rfl
   exact Xd (by simp only [Kf,Act.put,List.setIfInBounds_toArray,List.set_cons_zero,List.set_cons_succ]) (yh (W1.heap.size,W1.heap.size + 1) _ ⟨rfl,Or.inl ⟨rfl,rfl⟩⟩)
  ·skip
   refine jf (w1:=?_) (v:=?_) (by rfl) rfl ?_ ?_
   rotate_left 2
   ·go_simp
    constructor
    ·rfl
    ·rfl
   refine hK.out _ _ ⟨(HG.out _ (ia Gd.out _)).1,(HG.out _ (ia Gd.out _)).2.1,(HG.out _ (ia Gd.out _)).2.2.1,(HG.out _ (ia Gd.out _)).2.2.2.1,(HG.out _ (ia Gd.out _)).2.2.2.2.1,(HG.out _ (ia Gd.out _)).2.2.2.2.2.1,(HG.out _ (ia Gd.out _)).2.2.2.2.2.2⟩ (fun hHeld=>?_)
   clear hK K
   refine Xd (a':=?_) ?_ ?_
   rotate_left
   ·show Act.put _ (some 6) _=_
    simp only [Act.put,List.setIfInBounds_toArray,List.set_cons_zero,List.set_cons_succ,Za,gb]
    rfl
   refine gh (i:=16) (N:=some 5) #[true,true,true,true,true,true,true,true,true,true,true,true,true,true,true,true,true,true,false,false] rfl rfl (by kernel_rfl) (by decide) (fun K hK=>?_)
   refine jf (w1:=?_) (v:=?_) (by rfl) rfl ?_ ?_
   rotate_left 2
   ·go_simp
    constructor
    ·rfl
    ·rfl
   refine hK.out _ _ ⟨(HG.out _ (ia (ia Gd.out _) _)).1,(HG.out _ (ia (ia Gd.out _) _)).2.1,(HG.out _ (ia (ia Gd.out _) _)).2.2.1,(HG.out _ (ia (ia Gd.out _) _)).2.2.2.1,(HG.out _ (ia (ia Gd.out _) _)).2.2.2.2.1,(HG.out _ (ia (ia Gd.out _) _)).2.2.2.2.2.1,(HG.out _ (ia (ia Gd.out _) _)).2.2.2.2.2.2⟩ (fun hHeld=>?_)
   clear hK K
   refine Xd (a':=?_) ?_ ?_
   rotate_left
   ·show Act.put _ (some 5) _=_
    simp only [Act.put,List.setIfInBounds_toArray,List.set_cons_zero,List.set_cons_succ,Za,gb]
    rfl
   exact Xd (by simp only [Kf,Act.put,List.setIfInBounds_toArray,List.set_cons_zero,List.set_cons_succ]) (yh (W1.heap.size + 1,W1.heap.size) _ ⟨rfl,Or.inr ⟨rfl,rfl⟩⟩)
 rintro ⟨s1,s2⟩ W3 ⟨Ak,hs⟩
 simp only at hs
 have hne:s1 ≠ s2:=by omega
 have zk:W1.heap.size ≤ s1:=by omega
 have xk:W1.heap.size ≤ s2:=by omega
 have Hp:Below W1.heap.size W1 W3:=by rw [Ak];exact ia (ia Gd.out _) _
 have AA:W3.heap.size=W1.heap.size + 2:=by rw [Ak];simp
 have qn:W3.heap[s1]? = some (.cells #[.int .i64 0,.int .i64 0] 79 (0,0)):=by
  rw [Ak]
  rcases hs with ⟨e,_⟩|⟨e,_⟩
  ·rw [e];exact Da (Yc W1.drew _) _
  ·rw [e];have:=Yc (W1.drew.alloc (.cells #[.int .i64 0,.int .i64 0] 79 (0,0))) (.cells #[.int .i64 0,.int .i64 0] 79 (0,0));simpa using this
 have hn2:W3.heap[s2]? = some (.cells #[.int .i64 0,.int .i64 0] 79 (0,0)):=by
  rw [Ak]
  rcases hs with ⟨_,e⟩|⟨_,e⟩
  ·rw [e];have:=Yc (W1.drew.alloc (.cells #[.int .i64 0,.int .i64 0] 79 (0,0))) (.cells #[.int .i64 0,.int .i64 0] 79 (0,0));simpa using this
  ·rw [e];exact Da (Yc W1.drew _) _
 clear Ak hs
 have tu:=qa.mk Hp
 have hHeld:=HG.out W3 Hp
 have Yi:=qa.mk qn
 have ru:=qa.mk hn2
 clear Hp qn hn2
 refine Xd (a':=?_) ?_ ?_
 rotate_left
 ·simp only [Kf,Act.put,List.setIfInBounds_toArray,List.set_cons_zero,List.set_cons_succ]
  rfl
 refine gh (i:=18) (N:=none) #[true,true,true,true,true,true,true,true,true,true,true,true,true,true,true,true,true,true,true,false] rfl rfl (by kernel_rfl) (by decide) (fun K hK=>?_)
 have Gp:=(ga Yi.out 0).trans rfl
 have Fp:=(ga Yi.out 1).trans rfl
 have Bp:=aa Yi.out 0
 have Ap:=aa Yi.out 1
 refine si (w1:=?_) (by rfl) rfl ?_ ?_
 rotate_left
 ·go_simp
  rfl
 have Og:=qa.mk (show Below W1.heap.size W1 ((W3.setCell ⟨s1,0,none⟩ (.int .i64 (Ta xs a).f0)).setCell ⟨s1,1,none⟩ (.int .i64 (Ta xs a).f1)) from (tu.out.setCell zk _).setCell zk _)
 have su:=qa.mk (Db (cs:=#[.int .i64 (Ta xs a).f0,.int .i64 0]) (Db (cs:=#[.int .i64 0,.int .i64 0]) Yi.out 0 (.int .i64 (Ta xs a).f0) rfl) 1 (.int .i64 (Ta xs a).f1) rfl)
 have Zi:=qa.mk (Rb (p:=⟨s1,1,none⟩) (Rb (p:=⟨s1,0,none⟩) ru.out (Ne.symm hne) (.int .i64 (Ta xs a).f0)) (Ne.symm hne) (.int .i64 (Ta xs a).f1))
 clear Gp Fp Bp Ap
 refine hK.out _ _ ⟨(HG.out _ Og.out).1,(HG.out _ Og.out).2.1,(HG.out _ Og.out).2.2.1,(HG.out _ Og.out).2.2.2.1,(HG.out _ Og.out).2.2.2.2.1,(HG.out _ Og.out).2.2.2.2.2.1,(HG.out _ Og.out).2.2.2.2.2.2⟩ (fun hHeld=>?_)
 clear hK K
 refine Wq (i:=19) (N:=none) #[true,true,true,true,true,true,true,true,true,true,true,true,true,true,true,true,true,true,true,true] rfl rfl (by kernel_rfl) (by decide) (fun K hK=>?_)
 have Ep:=(ga Zi.out 0).trans rfl
 have Dp:=(ga Zi.out 1).trans rfl
 have zp:=aa Zi.out 0
 have yp:=aa Zi.out 1
 refine si (w1:=?_) (by rfl) rfl ?_ ?_
 rotate_left
 ·go_simp
  rfl
 refine hK.out _ _ ?_
 clear hK K
 refine Yh (by kernel_rfl) ?_
 obtain ⟨W5,hW5⟩:∃ W5,W5=(((W3.setCell ⟨s1,0,none⟩ (.int .i64 (Ta xs a).f0)).setCell ⟨s1,1,none⟩ (.int .i64 (Ta xs a).f1)).setCell ⟨s2,0,none⟩ (.int .i64 (Ta xs b).f0)).setCell ⟨s2,1,none⟩ (.int .i64 (Ta xs b).f1):=⟨_,rfl⟩
 rw [← hW5]
 have Ti:Below W1.heap.size W1 W5:=by rw [hW5];exact (Og.out.setCell xk _).setCell xk _
 have ju:W5.heap[s1]? = some (.cells #[.int .i64 (Ta xs a).f0,.int .i64 (Ta xs a).f1] 79 (0,0)):=by rw [hW5];exact Rb (p:=⟨s2,1,none⟩) (Rb (p:=⟨s2,0,none⟩) su.out hne _) hne _
 have hm2:W5.heap[s2]? = some (.cells #[.int .i64 (Ta xs b).f0,.int .i64 (Ta xs b).f1] 79 (0,0)):=by rw [hW5];exact Db (cs:=#[.int .i64 (Ta xs b).f0,.int .i64 0]) (Db (cs:=#[.int .i64 0,.int .i64 0]) Zi.out 0 _ rfl) 1 _ rfl
 clear hW5 su Zi Yi ru Ep Dp zp yp Og tu hd1 Cp hd3 Lg Kg Wg Vg hx0 hx1 Gk Fk qm vp om hr0 En Fj Ej nr hk1 Jr HG Gd AA
 have HR:=qa.mk (Wa HR.out Ti)
 have HX:=qa.mk (Wa HX.out Ti)
 have We:=qa.mk (Wa We.out Ti)
 have DA:=Ti.size
 have HB:=qa.mk (Pa HB.out Ti)
 clear Ti
 have hk1:=(ga We.out 1).trans rfl
 have Jr:=aa We.out 1
 have hr0:=(ga HR.out 0).trans rfl
 have En:=(ga HR.out 1).trans rfl
 have Fj:=aa HR.out 0
 have Ej:=aa HR.out 1
 have om:=(ga HX.out 6).trans rfl
 have KA:=(ga ju 0).trans rfl
 have JA:=(ga ju 1).trans rfl
 have IA:=(ga hm2 0).trans rfl
 have GA:=(ga hm2 1).trans rfl
 go_wp2_with (first|(go_at_call 119;(with_reducible refine (Il _ _ _ _).mono ?_);rintro e w1 ⟨rfl,⟨k1,rfl⟩⟩))
 all_goals
  have hz:=HZ.out
  refine bodyPost_ret (results_cell_row rfl _ _ (W.heap.size + 1) 79 #[.int .i64 nx,.int .i64 0] (0,0) _ rfl ?_ Try.underlying79 rfl (by kernel_rfl)) rfl ?_
  ·exact Db (cs:=#[.int .i64 nx,.int .i64 0]) (Db (cs:=#[.int .i64 0,.int .i64 0]) (Rb (by (with_reducible repeat (first|refine Ea ?_ _|refine Ga ?_|refine Da ?_ _));exact HR.out) (by simp;omega) _) 0 _ rfl) 1 _ rfl
  ·exact ⟨rfl,Jn hB kB.out HN.out (by (with_reducible repeat (first|refine Kept.drewN ?_ _|refine Kept.drew ?_|refine Kept.alloc ?_ _));exact Kept.vk HB.out _) (by (with_reducible repeat (first|refine Ea ?_ _|refine Ga ?_|refine Da ?_ _));exact We.out) (by repeat (first|exact HB.out.mono (Nat.le_of_lt hlt)|apply ja|apply za|refine Below.alloc ?_ (by simp;omega) _)) (Nat.le_succ _) hlt⟩
theorem Wj {x:Jh} {r:Ko} (hk:KV W B kb v xs nx) (h:Calls Try.prog 92 #[.pointer (some ⟨kb,0,none⟩),.agg #[.int .i64 x.f0,.int .i64 x.f1,.int .i64 x.f2,.int .i64 x.f3,.int .i64 x.f4,.int .i64 x.f5,.string x.f6]] W fun e w'=>e = .returned (.agg #[.int .i64 r.f0,.int .i64 r.f1])∧Below W.heap.size W w') :
  Calls Try.prog 92 #[.pointer (some ⟨kb,0,none⟩),.agg #[.int .i64 x.f0,.int .i64 x.f1,.int .i64 x.f2,.int .i64 x.f3,.int .i64 x.f4,.int .i64 x.f5,.string x.f6]] W fun e w'=>e = .returned (.agg #[.int .i64 r.f0,.int .i64 r.f1])∧KV w' B kb v xs nx∧Kept W w' (fun k=>k=kb)∧Below kb W w':=by
 have hlt:kb < W.heap.size:=Ac hk.2.1
 exact h.mono fun e w' ⟨he,hb⟩=>⟨he,hk.below hb,Kept.vk hb _,hb.mono (Nat.le_of_lt hlt)⟩
theorem tG (hk:KV W B kb v xs nx) (hn0:0 ≤ nx) (qn:nx ≤ 1000000000) (x:Jh) (h1:x.f0=1→0 ≤ x.f2∧x.f2 < xs.length) (h2:x.f0=2→(0 ≤ x.f2∧x.f2 < xs.length)∧(0 ≤ x.f3∧x.f3 < xs.length)) :
  Calls Try.prog 92 #[.pointer (some ⟨kb,0,none⟩),.agg #[.int .i64 x.f0,.int .i64 x.f1,.int .i64 x.f2,.int .i64 x.f3,.int .i64 x.f4,.int .i64 x.f5,.string x.f6]] W fun e w'=>e = .returned (.agg #[.int .i64 (Sk xs nx x).1.f0,.int .i64 (Sk xs nx x).1.f1])∧KV w' B kb v xs (Sk xs nx x).2∧Kept W w' (fun k=>k=kb)∧Below kb W w':=by
 unfold Sk
 by_cases o0:x.f0=0
 ·rw [if_pos o0]
  refine Wj (r:=⟨-1,x.f5⟩) hk ?_
  rw [o0]
  exact XJ hk _ _ _ _ _ _
 rw [if_neg o0]
 by_cases o1:x.f0=1
 ·rw [if_pos o1]
  refine Wj (r:=Ta xs x.f2) hk ?_
  rw [o1]
  exact WJ hk _ _ _ _ _ _ (h1 o1).1 (h1 o1).2
 rw [if_neg o1]
 by_cases o2:x.f0=2
 ·rw [if_pos o2]
  obtain ⟨⟨a0,a1⟩,b0,b1⟩:=h2 o2
  unfold AG
  by_cases hA:(Ta xs x.f2).f0 = -1
  ·by_cases hB:(Ta xs x.f3).f0 = -1
   ·rw [if_pos ⟨hA,hB⟩]
    refine Wj (r:=⟨-1,YA x.f6 (Ta xs x.f2).f1 (Ta xs x.f3).f1⟩) hk ?_
    rw [o2]
    exact pH hk _ _ _ _ _ _ a0 a1 b0 b1 (by simpa using hA) (by simpa using hB)
   ·rw [if_neg (fun h=>hB h.2)]
    by_cases hp:x.f6.toList=[43]
    ·rw [if_pos ⟨hp,hA⟩]
     refine Wj (r:=⟨(Ta xs x.f3).f0,wrap64 ((Ta xs x.f2).f1 + (Ta xs x.f3).f1)⟩) hk ?_
     rw [o2]
     exact oH hk _ _ _ _ _ _ a0 a1 b0 b1 (by simpa using hA) (by simpa using hB) (by simpa using hp)
    ·rw [if_neg (fun h=>hp h.1),if_neg (fun h=>hp h.1),if_neg (fun h=>hB h.2)]
     rw [if_neg (fun (h:x.f6.toList=[45]∧(Ta xs x.f2).f0=(Ta xs x.f3).f0)=>hB (h.2 ▸ hA))]
     rw [o2]
     by_cases hm:x.f6.toList=[45]
     ·exact jA hk hn0 qn _ _ _ _ _ _ a0 a1 b0 b1 (by simpa using hB) (by simpa using hp) (by simpa using hm) (by have h_:¬ (Ta xs x.f2).f0=(Ta xs x.f3).f0:=fun e=>hB (e ▸ hA);simpa using h_)
     ·exact jH hk hn0 qn _ _ _ _ _ _ a0 a1 b0 b1 (by simpa using hA) (by simpa using hB) (by simpa using hp) (by simpa using hm)
  ·rw [if_neg (fun h=>hA h.1),if_neg (fun h=>hA h.2)]
   by_cases hB:(Ta xs x.f3).f0 = -1
   ·by_cases hp:x.f6.toList=[43]
    ·rw [if_pos ⟨hp,hB⟩]
     refine Wj (r:=⟨(Ta xs x.f2).f0,wrap64 ((Ta xs x.f2).f1 + (Ta xs x.f3).f1)⟩) hk ?_
     rw [o2]
     exact nH hk _ _ _ _ _ _ a0 a1 b0 b1 (by simpa using hA) (by simpa using hB) (by simpa using hp)
    ·rw [if_neg (fun h=>hp h.1)]
     by_cases hm:x.f6.toList=[45]
     ·rw [if_pos ⟨hm,hB⟩]
      refine Wj (r:=⟨(Ta xs x.f2).f0,wrap64 ((Ta xs x.f2).f1 - (Ta xs x.f3).f1)⟩) hk ?_
      rw [o2]
      exact mH hk _ _ _ _ _ _ a0 a1 b0 b1 (by simpa using hA) (by simpa using hB) (by simpa using hp) (by simpa using hm)
     ·rw [if_neg (fun h=>hm h.1),if_neg (fun h=>hm h.1),o2]
      exact kA hk hn0 qn _ _ _ _ _ _ a0 a1 b0 b1 (by simpa using hA) (by simpa using hp) (by simpa using hm)
   ·rw [if_neg (fun h=>hB h.2),if_neg (fun h=>hB h.2)]
    by_cases hp:x.f6.toList=[43]
    ·have hm:¬ x.f6.toList=[45]:=by rw [hp];decide
     rw [if_neg (fun h=>hm h.1),o2]
     exact kH hk hn0 qn _ _ _ _ _ _ a0 a1 b0 b1 (by simpa using hA) (by simpa using hB) (by simpa using hp) (by simpa using hm)
    ·by_cases hm:x.f6.toList=[45]
     ·by_cases hE:(Ta xs x.f2).f0=(Ta xs x.f3).f0
      ·rw [if_pos ⟨hm,hE⟩]
       refine Wj (r:=⟨-1,wrap64 ((Ta xs x.f2).f1 - (Ta xs x.f3).f1)⟩) hk ?_
       rw [o2]
       exact lH hk _ _ _ _ _ _ a0 a1 b0 b1 (by simpa using hA) (by simpa using hB) (by simpa using hp) (by simpa using hm) (by simpa using hE)
      ·rw [if_neg (fun h=>hE h.2),o2]
       exact jA hk hn0 qn _ _ _ _ _ _ a0 a1 b0 b1 (by simpa using hB) (by simpa using hp) (by simpa using hm) (by simpa using hE)
     ·rw [if_neg (fun h=>hm h.1),o2]
      exact kA hk hn0 qn _ _ _ _ _ _ a0 a1 b0 b1 (by simpa using hA) (by simpa using hp) (by simpa using hm)
 rw [if_neg o2]
 exact VJ hk hn0 qn _ _ _ _ _ _ x.f0 (beq_eq_false_iff_ne.mpr o0) (beq_eq_false_iff_ne.mpr o1) (beq_eq_false_iff_ne.mpr o2)
end
end Go.Proofs.Ytmifdccaajngcaa.P
