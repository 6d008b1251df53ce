import Derived.Shelf.Abstract
import Derived.Outline
import Derived.RegionTactic
import Derived.Test.YtmifdccaajngcaaQKnown1
import Derived.Test.YtmifdccaajngcaaQKnown6
import Derived.Deep.QuietTactic
import Derived.BigQuiet
import Derived.Test.YtmifdccaajngcaaQKnown2
import Derived.Test.YtmifdccaajngcaaQKnown3
section
namespace Go.Proofs.Ytmifdccaajngcaa.P
open Go.RowKit Go.Proofs.Na.mc Go.Proofs.Na.jf Go.Proofs.Na.xg
set_option linter.unusedVariables false
set_option linter.unusedSimpArgs false
def lE (t:ByteArray) (a b:Int):Int:=(Xo.f t a b).getD 0
theorem JC (t:ByteArray) (a b:Int):Xo.f t a b=some (lE t a b):=by
 unfold lE Xo.f
 repeat' split
 all_goals rfl
theorem Gl (t:ByteArray) (a b:Int) (w:World):Calls Try.prog 119 #[.string t,.int .i64 a,.int .i64 b] w fun e w'=>e = .returned (.int .i64 (lE t a b))∧uc w w':=Xo.calls t a b _ w (JC t a b)
def Wv (t:ByteArray) (a b:dm):Option dm :=
 if a.f0 = -1∧b.f0 = -1 then some ⟨-1,lE t a.f1 b.f1⟩
 else if t.toList=[43]∧a.f0 = -1 then some ⟨b.f0,wrap64 (a.f1 + b.f1)⟩
 else if t.toList=[43]∧b.f0 = -1 then some ⟨a.f0,wrap64 (a.f1 + b.f1)⟩
 else if t.toList=[45]∧b.f0 = -1 then some ⟨a.f0,wrap64 (a.f1 - b.f1)⟩
 else if t.toList=[45]∧a.f0=b.f0 then some ⟨-1,wrap64 (a.f1 - b.f1)⟩
 else none
def ym (xs:List dm) (nx:Int) (x:Bf):dm × Int :=
 if x.f0=0 then (⟨-1,x.f5⟩,nx)
 else if x.f0=1 then (Bc xs x.f2,nx)
 else if x.f0=2 then
  match Wv x.f6 (Bc xs x.f2) (Bc xs x.f3) with
  | some s=>(s,nx)
  | none=>(⟨nx,0⟩,nx + 1)
 else (⟨nx,0⟩,nx + 1)
section
variable {W:World} {B kb:Nat} {v:Value} {xs:List dm} {nx:Int}
set_option maxHeartbeats 2000000 in
set_option maxRecDepth 100000 in
theorem iM (hk:KV W B kb v xs nx) (d a b c n:Int) (t:ByteArray) :
  Calls Try.prog 92 #[.pointer (some ⟨kb,0,none⟩),.agg #[.int .i64 0,.int .i64 d,.int .i64 a,.int .i64 b,.int .i64 c,.int .i64 n,.string t]] W fun e w'=>e = .returned (.agg #[.int .i64 (-1),.int .i64 n])∧Below W.heap.size W w':=by
 obtain ⟨hB,h2,h3⟩:=hk
 have XL:=ja.mk h2
 have hlt:=Lc h2
 obtain ⟨W1,hW1⟩:∃ W1,W1=(W.alloc (.cells #[.int .i64 0,.int .i64 d,.int .i64 a,.int .i64 b,.int .i64 c,.int .i64 n,.string t] 70 (0,0))).alloc (.cells #[.int .i64 0,.int .i64 0] 79 (0,0)):=⟨_,rfl⟩
 have HW:=ja.mk hW1
 have Hr:Below W.heap.size W W1:=by rw [hW1];exact qa (qa (Below.refl _ _) _) _
 have hz:W1.heap.size=W.heap.size + 2:=by rw [hW1];simp
 have Yg:=ja.mk (gb h2 Hr)
 have yT:=(ga Yg.out 0).trans rfl
 have hk1:=(ga Yg.out 1).trans rfl
 have nX:=aa Yg.out 1
 have Vu:W1.heap[W.heap.size + 1]? = some (.cells #[.int .i64 0,.int .i64 0] 79 (0,0)):=by rw [hW1];have:=wh (W.alloc (.cells #[.int .i64 0,.int .i64 d,.int .i64 a,.int .i64 b,.int .i64 c,.int .i64 n,.string t] 70 (0,0))) (.cells #[.int .i64 0,.int .i64 0] 79 (0,0));simpa using this
 have Rj:W1.heap[W.heap.size]? = some (.cells #[.int .i64 0,.int .i64 d,.int .i64 a,.int .i64 b,.int .i64 c,.int .i64 n,.string t] 70 (0,0)):=by rw [hW1];exact Ca (wh _ _) _
 have HR:=ja.mk Vu
 have HX:=ja.mk Rj
 have hr0:=(ga Vu 0).trans rfl
 have aC:=(ga Vu 1).trans rfl
 have SJ:=aa Vu 0
 have RJ:=aa Vu 1
 have hx0:=(ga Rj 0).trans rfl
 have hx1:=(ga Rj 1).trans rfl
 have Oq:=(ga Rj 2).trans rfl
 have Nq:=(ga Rj 3).trans rfl
 have rq:=(ga Rj 4).trans rfl
 have Zz:=(ga Rj 5).trans rfl
 have Yv:=(ga Rj 6).trans rfl
 have HB:=ja.mk Hr
 have xT:kb ≠ W1.heap.size:=by omega
 have wT:kb ≠ W1.heap.size + 1:=by omega
 have hw1:W.heap.size ≠ W1.heap.size:=by omega
 have hw2:W.heap.size ≠ W1.heap.size + 1:=by omega
 have hw3:W.heap.size + 1 ≠ W1.heap.size:=by omega
 have hw4:W.heap.size + 1 ≠ W1.heap.size + 1:=by omega
 have HZ:=ja.mk hz
 clear hW1 Vu Rj h2 h3 Hr hz
 go_enter Try.func92,Try.ntmps92
 go_upto_region 1 with (fail)
 rw [← HW.out]
 clear HW
 go_wp2
 have hz:=HZ.out
 refine bodyPost_ret (results_cell_row rfl _ _ (W.heap.size + 1) 79 #[.int .i64 (-1),.int .i64 n] (0,0) _ rfl ?_ Try.underlying79 rfl (by kernel_rfl)) rfl ?_
 ·exact Wb (cs:=#[.int .i64 (-1),.int .i64 0]) (Wb (cs:=#[.int .i64 0,.int .i64 0]) HR.out 0 _ rfl) 1 _ rfl
 ·exact ⟨rfl,by repeat (first|exact HB.out|apply ia|apply ua|apply qa|refine Aa ?_ (by first|omega|(simp;done)|(simp;omega)))⟩
set_option maxHeartbeats 2000000 in
set_option maxRecDepth 100000 in
theorem gM (hk:KV W B kb v xs nx) (d a b c n:Int) (t:ByteArray) (ha0:0 ≤ a) (ha1:a < xs.length) :
  Calls Try.prog 92 #[.pointer (some ⟨kb,0,none⟩),.agg #[.int .i64 1,.int .i64 d,.int .i64 a,.int .i64 b,.int .i64 c,.int .i64 n,.string t]] W fun e w'=>e = .returned (.agg #[.int .i64 (Bc xs a).f0,.int .i64 (Bc xs a).f1])∧Below W.heap.size W w':=by
 obtain ⟨hB,h2,h3⟩:=hk
 have XL:=ja.mk h2
 have hlt:=Lc h2
 obtain ⟨W1,hW1⟩:∃ W1,W1=(W.alloc (.cells #[.int .i64 1,.int .i64 d,.int .i64 a,.int .i64 b,.int .i64 c,.int .i64 n,.string t] 70 (0,0))).alloc (.cells #[.int .i64 0,.int .i64 0] 79 (0,0)):=⟨_,rfl⟩
 have HW:=ja.mk hW1
 have Hr:Below W.heap.size W W1:=by rw [hW1];exact qa (qa (Below.refl _ _) _) _
 have hz:W1.heap.size=W.heap.size + 2:=by rw [hW1];simp
 have Yg:=ja.mk (gb h2 Hr)
 have yT:=(ga Yg.out 0).trans rfl
 have hk1:=(ga Yg.out 1).trans rfl
 have nX:=aa Yg.out 1
 have Vu:W1.heap[W.heap.size + 1]? = some (.cells #[.int .i64 0,.int .i64 0] 79 (0,0)):=by rw [hW1];have:=wh (W.alloc (.cells #[.int .i64 1,.int .i64 d,.int .i64 a,.int .i64 b,.int .i64 c,.int .i64 n,.string t] 70 (0,0))) (.cells #[.int .i64 0,.int .i64 0] 79 (0,0));simpa using this
 have Rj:W1.heap[W.heap.size]? = some (.cells #[.int .i64 1,.int .i64 d,.int .i64 a,.int .i64 b,.int .i64 c,.int .i64 n,.string t] 70 (0,0)):=by rw [hW1];exact Ca (wh _ _) _
 have HR:=ja.mk Vu
 have HX:=ja.mk Rj
 have hr0:=(ga Vu 0).trans rfl
 have aC:=(ga Vu 1).trans rfl
 have SJ:=aa Vu 0
 have RJ:=aa Vu 1
 have hx0:=(ga Rj 0).trans rfl
 have hx1:=(ga Rj 1).trans rfl
 have Oq:=(ga Rj 2).trans rfl
 have Nq:=(ga Rj 3).trans rfl
 have rq:=(ga Rj 4).trans rfl
 have Zz:=(ga Rj 5).trans rfl
 have Yv:=(ga Rj 6).trans rfl
 have HB:=ja.mk Hr
 obtain ⟨A,cc,rfl,_,hC⟩:=Kd.jq (Kd.Ce h3 Hr)
 have zV:=hC.2.1
 obtain ⟨ad,e1,II,GI⟩:=qB hC a ha0 ha1
 cases e1
 obtain ⟨g,rfl⟩:=Kd.sE h3
 have pX:g < W.heap.size:=by
  obtain ⟨inner,hi⟩:=Kd.Ky h3
  exact uD hi g (by simp [Value.ownBlock])
 have DB:g ≠ W1.heap.size:=by omega
 have QE:g ≠ W1.heap.size + 1:=by omega
 simp only [add_plain] at II GI
 clear hC
 have xT:kb ≠ W1.heap.size:=by omega
 have wT:kb ≠ W1.heap.size + 1:=by omega
 have hw1:W.heap.size ≠ W1.heap.size:=by omega
 have hw2:W.heap.size ≠ W1.heap.size + 1:=by omega
 have hw3:W.heap.size + 1 ≠ W1.heap.size:=by omega
 have hw4:W.heap.size + 1 ≠ W1.heap.size + 1:=by omega
 have HZ:=ja.mk hz
 clear hW1 Vu Rj h2 h3 Hr hz
 go_enter Try.func92,Try.ntmps92
 go_upto_region 1 with (fail)
 rw [← HW.out]
 clear HW
 go_wp2
 go_region
 all_goals go_wp2
 have hz:=HZ.out
 refine bodyPost_ret (results_cell_row rfl _ _ (W.heap.size + 1) 79 #[.int .i64 (Bc xs a).f0,.int .i64 (Bc xs a).f1] (0,0) _ rfl ?_ Try.underlying79 rfl (by kernel_rfl)) rfl ?_
 ·exact Wb (cs:=#[.int .i64 (Bc xs a).f0,.int .i64 0]) (Wb (cs:=#[.int .i64 0,.int .i64 0]) HR.out 0 _ rfl) 1 _ rfl
 ·exact ⟨rfl,by repeat (first|exact HB.out|apply ia|apply ua|apply qa|refine Aa ?_ (by first|omega|(simp;done)|(simp;omega)))⟩
theorem KV.upd {W':World} {vM:Int} (hB:B ≤ kb) (h2:W.heap[kb]? = some (.cells #[v,.int .i64 nx] 74 (0,0))) (h3:Kd.R xM 79 W B (fun _=>True) v xs) (hk:Kept W W' (fun k=>k=kb)) (h4:W'.heap[kb]? = some (.cells #[v,.int .i64 vM] 74 (0,0))):KV W' B kb v xs vM :=
 ⟨hB,h4,Kd.Oe (Kd.Qs (Kd.xo h3 h2 (by decide)) hk (fun k hk' e=>hk'.2 e)) (fun _ _=>trivial)⟩
theorem Kl {W2:World} {r:Nat} {u0 u1:Value} {vM:Int} (hB:B ≤ kb) (h2:W.heap[kb]? = some (.cells #[v,.int .i64 nx] 74 (0,0))) (h3:Kd.R xM 79 W B (fun _=>True) v xs) (hK:Kept W W2 (fun k=>k=kb)) (h4:W2.heap[kb]? = some (.cells #[v,.int .i64 nx] 74 (0,0))) (hl:Below kb W W2) (hr:W.heap.size ≤ r) (hlt:kb < W.heap.size) :
  KV (((W2.setCell ⟨kb,1,none⟩ (.int .i64 vM)).setCell ⟨r,0,none⟩ u0).setCell ⟨r,1,none⟩ u1) B kb v xs vM∧Kept W (((W2.setCell ⟨kb,1,none⟩ (.int .i64 vM)).setCell ⟨r,0,none⟩ u0).setCell ⟨r,1,none⟩ u1) (fun k=>k=kb)∧Below kb W (((W2.setCell ⟨kb,1,none⟩ (.int .i64 vM)).setCell ⟨r,0,none⟩ u0).setCell ⟨r,1,none⟩ u1):=by
 have hkk:Kept W (((W2.setCell ⟨kb,1,none⟩ (.int .i64 vM)).setCell ⟨r,0,none⟩ u0).setCell ⟨r,1,none⟩ u1) (fun k=>k=kb) :=
  Kept.setCell (p:=⟨r,1,none⟩) (Kept.setCell (p:=⟨r,0,none⟩) (Kept.setCell (p:=⟨kb,1,none⟩) hK (Or.inl rfl) _) (Or.inr hr) _) (Or.inr hr) _
 refine ⟨KV.upd hB h2 h3 hkk (jd (jd (Wb (cs:=#[v,.int .i64 nx]) h4 1 _ rfl) (by simp;omega) _) (by simp;omega) _),hkk,?_⟩
 exact Below.setCell (p:=⟨r,1,none⟩) (Below.setCell (p:=⟨r,0,none⟩) (Below.setCell (p:=⟨kb,1,none⟩) hl (Nat.le_refl _) _) (by simp;omega) _) (by simp;omega) _
set_option maxHeartbeats 2000000 in
set_option maxRecDepth 100000 in
theorem eM (hk:KV W B kb v xs nx) (hn0:0 ≤ nx) (aJ:nx ≤ 1000000000) (d a b c n:Int) (t:ByteArray) (o:Int) (Zm:(o == 0)=false) (ho1:(o == 1)=false) (E7:(o == 2)=false) :
  Calls Try.prog 92 #[.pointer (some ⟨kb,0,none⟩),.agg #[.int .i64 o,.int .i64 d,.int .i64 a,.int .i64 b,.int .i64 c,.int .i64 n,.string t]] W fun e w'=>e = .returned (.agg #[.int .i64 nx,.int .i64 0])∧KV w' B kb v xs (nx + 1)∧Kept W w' (fun k=>k=kb)∧Below kb W w':=by
 obtain ⟨hB,h2,h3⟩:=hk
 have WL:=ja.mk h3
 have XL:=ja.mk h2
 have hlt:=Lc h2
 obtain ⟨W1,hW1⟩:∃ W1,W1=(W.alloc (.cells #[.int .i64 o,.int .i64 d,.int .i64 a,.int .i64 b,.int .i64 c,.int .i64 n,.string t] 70 (0,0))).alloc (.cells #[.int .i64 0,.int .i64 0] 79 (0,0)):=⟨_,rfl⟩
 have HW:=ja.mk hW1
 have Hr:Below W.heap.size W W1:=by rw [hW1];exact qa (qa (Below.refl _ _) _) _
 have hz:W1.heap.size=W.heap.size + 2:=by rw [hW1];simp
 have Yg:=ja.mk (gb h2 Hr)
 have yT:=(ga Yg.out 0).trans rfl
 have hk1:=(ga Yg.out 1).trans rfl
 have nX:=aa Yg.out 1
 have Vu:W1.heap[W.heap.size + 1]? = some (.cells #[.int .i64 0,.int .i64 0] 79 (0,0)):=by rw [hW1];have:=wh (W.alloc (.cells #[.int .i64 o,.int .i64 d,.int .i64 a,.int .i64 b,.int .i64 c,.int .i64 n,.string t] 70 (0,0))) (.cells #[.int .i64 0,.int .i64 0] 79 (0,0));simpa using this
 have Rj:W1.heap[W.heap.size]? = some (.cells #[.int .i64 o,.int .i64 d,.int .i64 a,.int .i64 b,.int .i64 c,.int .i64 n,.string t] 70 (0,0)):=by rw [hW1];exact Ca (wh _ _) _
 have HR:=ja.mk Vu
 have HX:=ja.mk Rj
 have hr0:=(ga Vu 0).trans rfl
 have aC:=(ga Vu 1).trans rfl
 have SJ:=aa Vu 0
 have RJ:=aa Vu 1
 have hx0:=(ga Rj 0).trans rfl
 have hx1:=(ga Rj 1).trans rfl
 have Oq:=(ga Rj 2).trans rfl
 have Nq:=(ga Rj 3).trans rfl
 have rq:=(ga Rj 4).trans rfl
 have Zz:=(ga Rj 5).trans rfl
 have Yv:=(ga Rj 6).trans rfl
 have HB:=ja.mk Hr
 have xT:kb ≠ W1.heap.size:=by omega
 have wT:kb ≠ W1.heap.size + 1:=by omega
 have hw1:W.heap.size ≠ W1.heap.size:=by omega
 have hw2:W.heap.size ≠ W1.heap.size + 1:=by omega
 have hw3:W.heap.size + 1 ≠ W1.heap.size:=by omega
 have hw4:W.heap.size + 1 ≠ W1.heap.size + 1:=by omega
 have HZ:=ja.mk hz
 clear hW1 Vu Rj h2 h3 Hr hz
 go_enter Try.func92,Try.ntmps92
 go_upto_region 1 with (fail)
 rw [← HW.out]
 clear HW
 go_wp2
 all_goals
  have hz:=HZ.out
  refine bodyPost_ret (results_cell_row rfl _ _ (W.heap.size + 1) 79 #[.int .i64 nx,.int .i64 0] (0,0) _ rfl ?_ Try.underlying79 rfl (by kernel_rfl)) rfl ?_
  ·exact Wb (cs:=#[.int .i64 nx,.int .i64 0]) (Wb (cs:=#[.int .i64 0,.int .i64 0]) (jd (by (with_reducible repeat (first|refine Da ?_ _|refine Ga ?_|refine Ca ?_ _));exact HR.out) (by simp;omega) _) 0 _ rfl) 1 _ rfl
  ·exact ⟨rfl,Kl hB XL.out WL.out (by (with_reducible repeat (first|refine Kept.drewN ?_ _|refine Kept.drew ?_|refine Kept.alloc ?_ _));exact Kept.Ji HB.out _) (by (with_reducible repeat (first|refine Da ?_ _|refine Ga ?_|refine Ca ?_ _));exact Yg.out) (by repeat (first|exact HB.out.mono (Nat.le_of_lt hlt)|apply ia|apply ua|refine Below.alloc ?_ (by simp;omega) _)) (Nat.le_succ _) hlt⟩
def UC (t:ByteArray) (A B:dm) (nx:Int):dm × Int:=match Wv t A B with
 | some s=>(s,nx)
 | none=>(⟨nx,0⟩,nx + 1)
theorem mW {t:ByteArray} {A B:dm} {nx:Int} (h1:A.f0 = -1) (h2:B.f0 = -1):UC t A B nx=(⟨-1,lE t A.f1 B.f1⟩,nx):=by
 unfold UC Wv
 rw [if_pos ⟨h1,h2⟩]
theorem lW {t:ByteArray} {A B:dm} {nx:Int} (h1:A.f0 = -1) (h2:¬ B.f0 = -1) (h3:t.toList=[43]):UC t A B nx=(⟨B.f0,wrap64 (A.f1 + B.f1)⟩,nx):=by
 unfold UC Wv
 rw [if_neg (fun h=>h2 h.2),if_pos ⟨h3,h1⟩]
theorem kW {t:ByteArray} {A B:dm} {nx:Int} (h1:¬ A.f0 = -1) (h2:B.f0 = -1) (h3:t.toList=[43]):UC t A B nx=(⟨A.f0,wrap64 (A.f1 + B.f1)⟩,nx):=by
 unfold UC Wv
 rw [if_neg (fun h=>h1 h.1),if_neg (fun h=>h1 h.2),if_pos ⟨h3,h2⟩]
theorem jW {t:ByteArray} {A B:dm} {nx:Int} (h1:¬ A.f0 = -1) (h2:B.f0 = -1) (h3:¬ t.toList=[43]) (h4:t.toList=[45]):UC t A B nx=(⟨A.f0,wrap64 (A.f1 - B.f1)⟩,nx):=by
 unfold UC Wv
 rw [if_neg (fun h=>h1 h.1),if_neg (fun h=>h1 h.2),if_neg (fun h=>h3 h.1),if_pos ⟨h4,h2⟩]
theorem iW {t:ByteArray} {A B:dm} {nx:Int} (h1:¬ A.f0 = -1) (h2:¬ B.f0 = -1) (h4:t.toList=[45]) (h5:A.f0=B.f0):UC t A B nx=(⟨-1,wrap64 (A.f1 - B.f1)⟩,nx):=by
 unfold UC Wv
 rw [if_neg (fun h=>h1 h.1),if_neg (fun h=>h1 h.2),if_neg (fun h=>h2 h.2),if_neg (fun h=>h2 h.2),if_pos ⟨h4,h5⟩]
theorem xz {t:ByteArray} {A B:dm} {nx:Int} (h1:¬ (A.f0 = -1∧B.f0 = -1)) (h2:¬ (t.toList=[43]∧A.f0 = -1)) (h3:¬ (t.toList=[43]∧B.f0 = -1)) (h4:¬ (t.toList=[45]∧B.f0 = -1)) (h5:¬ (t.toList=[45]∧A.f0=B.f0)):UC t A B nx=(⟨nx,0⟩,nx + 1):=by
 unfold UC Wv
 rw [if_neg h1,if_neg h2,if_neg h3,if_neg h4,if_neg h5]
theorem Ss {e e0:Ending} {w':World} (hk:KV W B kb v xs nx) (he:e=e0) (hb:Below W.heap.size W w'):e=e0∧KV w' B kb v xs nx∧Kept W w' (fun k=>k=kb)∧Below kb W w':=⟨he,hk.below hb,Kept.Ji hb _,hb.mono (Nat.le_of_lt (Lc hk.2.1))⟩
set_option maxHeartbeats 2000000 in
set_option maxRecDepth 100000 in
theorem fM (hk:KV W B kb v xs nx) (hn0:0 ≤ nx) (aJ:nx ≤ 1000000000) (d a b c n:Int) (t:ByteArray) (ha0:0 ≤ a) (ha1:a < xs.length) (hb0:0 ≤ b) (hb1:b < xs.length) :
  Calls Try.prog 92 #[.pointer (some ⟨kb,0,none⟩),.agg #[.int .i64 2,.int .i64 d,.int .i64 a,.int .i64 b,.int .i64 c,.int .i64 n,.string t]] W fun e w'=>e = .returned (.agg #[.int .i64 (UC t (Bc xs a) (Bc xs b) nx).1.f0,.int .i64 (UC t (Bc xs a) (Bc xs b) nx).1.f1])∧KV w' B kb v xs (UC t (Bc xs a) (Bc xs b) nx).2∧Kept W w' (fun k=>k=kb)∧Below kb W w':=by
 obtain ⟨⟨⟨r0,r1⟩,vM⟩,hr⟩:∃ r,r=UC t (Bc xs a) (Bc xs b) nx:=⟨_,rfl⟩
 rw [← hr]
 have Vy:=ja.mk hr
 have P5:=ja.mk hk
 clear hr
 obtain ⟨hB,h2,h3⟩:=hk
 have WL:=ja.mk h3
 have XL:=ja.mk h2
 have hlt:=Lc h2
 obtain ⟨W1,hW1⟩:∃ W1,W1=(W.alloc (.cells #[.int .i64 2,.int .i64 d,.int .i64 a,.int .i64 b,.int .i64 c,.int .i64 n,.string t] 70 (0,0))).alloc (.cells #[.int .i64 0,.int .i64 0] 79 (0,0)):=⟨_,rfl⟩
 have HW:=ja.mk hW1
 have Hr:Below W.heap.size W W1:=by rw [hW1];exact qa (qa (Below.refl _ _) _) _
 have hz:W1.heap.size=W.heap.size + 2:=by rw [hW1];simp
 have Yg:=ja.mk (gb h2 Hr)
 have yT:=(ga Yg.out 0).trans rfl
 have hk1:=(ga Yg.out 1).trans rfl
 have nX:=aa Yg.out 1
 have Vu:W1.heap[W.heap.size + 1]? = some (.cells #[.int .i64 0,.int .i64 0] 79 (0,0)):=by rw [hW1];have:=wh (W.alloc (.cells #[.int .i64 2,.int .i64 d,.int .i64 a,.int .i64 b,.int .i64 c,.int .i64 n,.string t] 70 (0,0))) (.cells #[.int .i64 0,.int .i64 0] 79 (0,0));simpa using this
 have Rj:W1.heap[W.heap.size]? = some (.cells #[.int .i64 2,.int .i64 d,.int .i64 a,.int .i64 b,.int .i64 c,.int .i64 n,.string t] 70 (0,0)):=by rw [hW1];exact Ca (wh _ _) _
 have HR:=ja.mk Vu
 have HX:=ja.mk Rj
 have hr0:=(ga Vu 0).trans rfl
 have aC:=(ga Vu 1).trans rfl
 have SJ:=aa Vu 0
 have RJ:=aa Vu 1
 have hx0:=(ga Rj 0).trans rfl
 have hx1:=(ga Rj 1).trans rfl
 have Oq:=(ga Rj 2).trans rfl
 have Nq:=(ga Rj 3).trans rfl
 have rq:=(ga Rj 4).trans rfl
 have Zz:=(ga Rj 5).trans rfl
 have Yv:=(ga Rj 6).trans rfl
 have HB:=ja.mk Hr
 obtain ⟨A,cc,rfl,_,hC⟩:=Kd.jq (Kd.Ce h3 Hr)
 have zV:=hC.2.1
 obtain ⟨ad,e1,II,GI⟩:=qB hC a ha0 ha1
 cases e1
 obtain ⟨ad_,e1,zM,yM⟩:=qB hC b hb0 hb1
 cases e1
 obtain ⟨g,rfl⟩:=Kd.sE h3
 have pX:g < W.heap.size:=by
  obtain ⟨inner,hi⟩:=Kd.Ky h3
  exact uD hi g (by simp [Value.ownBlock])
 have DB:g ≠ W1.heap.size:=by omega
 have QE:g ≠ W1.heap.size + 1:=by omega
 simp only [add_plain] at II GI zM yM
 clear hC
 have xT:kb ≠ W1.heap.size:=by omega
 have wT:kb ≠ W1.heap.size + 1:=by omega
 have hw1:W.heap.size ≠ W1.heap.size:=by omega
 have hw2:W.heap.size ≠ W1.heap.size + 1:=by omega
 have hw3:W.heap.size + 1 ≠ W1.heap.size:=by omega
 have hw4:W.heap.size + 1 ≠ W1.heap.size + 1:=by omega
 have HZ:=ja.mk hz
 clear hW1 Vu Rj h2 h3 Hr hz
 go_enter Try.func92,Try.ntmps92
 go_upto_region 1 with (fail)
 rw [← HW.out]
 clear HW
 go_upto_region 7 with (fail)
 have Rs:=ja.mk (ua (Below.refl W1.heap.size W1))
 have hd1:W1.cell? ⟨kb,0,none⟩=some (.slice (some ⟨g,0,none⟩) xs.length cc):=yT
 have hd2:W1.cell? ⟨W.heap.size,2,none⟩=some (.int .i64 a):=Oq
 have hd3:W1.cell? ⟨W.heap.size,3,none⟩=some (.int .i64 b):=Nq
 have HG:=ja.mk (fun (W3:World) (h:Below W1.heap.size W1 W3)=>(⟨Hg h hd1,Hg h hd2,Hg h hd3,Hg h II,Hg h GI,Hg h zM,Hg h yM⟩:W3.cell? ⟨kb,0,none⟩=some (.slice (some ⟨g,0,none⟩) xs.length cc)∧W3.cell? ⟨W.heap.size,2,none⟩=some (.int .i64 a)∧W3.cell? ⟨W.heap.size,3,none⟩=some (.int .i64 b)∧W3.cell? ⟨g,a.toNat * 2,none⟩=some (.int .i64 (Bc xs a).f0)∧W3.cell? ⟨g,a.toNat * 2 + 1,none⟩=some (.int .i64 (Bc xs a).f1)∧W3.cell? ⟨g,b.toNat * 2,none⟩=some (.int .i64 (Bc xs b).f0)∧W3.cell? ⟨g,b.toNat * 2 + 1,none⟩=some (.int .i64 (Bc xs b).f1)))
 refine Xj (n:=20) (S:=fun w'=>w'.cell? ⟨kb,0,none⟩=some (.slice (some ⟨g,0,none⟩) xs.length cc)∧w'.cell? ⟨W.heap.size,2,none⟩=some (.int .i64 a)∧w'.cell? ⟨W.heap.size,3,none⟩=some (.int .i64 b)∧w'.cell? ⟨g,a.toNat * 2,none⟩=some (.int .i64 (Bc xs a).f0)∧w'.cell? ⟨g,a.toNat * 2 + 1,none⟩=some (.int .i64 (Bc xs a).f1)∧w'.cell? ⟨g,b.toNat * 2,none⟩=some (.int .i64 (Bc xs b).f0)∧w'.cell? ⟨g,b.toNat * 2 + 1,none⟩=some (.int .i64 (Bc xs b).f1)) (ds:=[19]) #[false,false,false,false,false,false,false,false,false,false,false,false,false,false,false,false,false,false,false,false] (by kernel_rfl) rfl rfl ⟨hd1,hd2,hd3,II,GI,zM,yM⟩ (fun hHeld=>?_)
 refine qd (i:=0) (N:=some 26) (v:=?_) (a':=?_) #[true,false,false,false,false,false,false,false,false,false,false,false,false,false,false,false,false,false,false,false] rfl rfl (by kernel_rfl) (fun _ _ _ h=>h) (Or.inl ⟨by rfl,?_⟩) ?_ ?_
 rotate_left
 ·intro w'
  go_simp
  with_reducible rfl
 rotate_left
 ·simp only [Act.put,List.setIfInBounds_toArray,List.set_cons_zero,List.set_cons_succ,Ib,Jb]
  rfl
 refine qd (i:=1) (N:=some 27) (v:=?_) (a':=?_) #[true,true,false,false,false,false,false,false,false,false,false,false,false,false,false,false,false,false,false,false] rfl rfl (by kernel_rfl) (fun _ _ _ h=>h) (Or.inl ⟨by rfl,?_⟩) ?_ ?_
 rotate_left
 ·intro w'
  go_simp
  with_reducible rfl
 rotate_left
 ·simp only [Act.put,List.setIfInBounds_toArray,List.set_cons_zero,List.set_cons_succ,Ib,Jb]
  rfl
 refine qd (i:=2) (N:=some 28) (v:=?_) (a':=?_) #[true,true,true,false,false,false,false,false,false,false,false,false,false,false,false,false,false,false,false,false] rfl rfl (by kernel_rfl) (fun _ _ _ h=>h) (Or.inl ⟨by rfl,?_⟩) ?_ ?_
 rotate_left
 ·intro w'
  go_simp
  with_reducible rfl
 rotate_left
 ·simp only [Act.put,List.setIfInBounds_toArray,List.set_cons_zero,List.set_cons_succ,Ib,Jb]
  rfl
 refine qd (i:=4) (N:=some 30) (v:=?_) (a':=?_) #[true,true,true,false,true,false,false,false,false,false,false,false,false,false,false,false,false,false,false,false] rfl rfl (by kernel_rfl) (fun _ _ _ h=>h) (Or.inl ⟨by rfl,?_⟩) ?_ ?_
 rotate_left
 ·intro w'
  go_simp
  with_reducible rfl
 rotate_left
 ·simp only [Act.put,List.setIfInBounds_toArray,List.set_cons_zero,List.set_cons_succ,Ib,Jb]
  rfl
 refine qd (i:=8) (N:=some 34) (v:=?_) (a':=?_) #[true,true,true,false,true,false,false,false,true,false,false,false,false,false,false,false,false,false,false,false] rfl rfl (by kernel_rfl) (fun _ _ _ h=>h) (Or.inl ⟨by rfl,?_⟩) ?_ ?_
 rotate_left
 ·intro w'
  go_simp
  with_reducible rfl
 rotate_left
 ·simp only [Act.put,List.setIfInBounds_toArray,List.set_cons_zero,List.set_cons_succ,Ib,Jb]
  rfl
 refine qd (i:=9) (N:=some 35) (v:=?_) (a':=?_) #[true,true,true,false,true,false,false,false,true,true,false,false,false,false,false,false,false,false,false,false] rfl rfl (by kernel_rfl) (fun _ _ _ h=>h) (Or.inl ⟨by rfl,?_⟩) ?_ ?_
 rotate_left
 ·intro w'
  go_simp
  with_reducible rfl
 rotate_left
 ·simp only [Act.put,List.setIfInBounds_toArray,List.set_cons_zero,List.set_cons_succ,Ib,Jb]
  rfl
 refine qd (i:=10) (N:=some 36) (v:=?_) (a':=?_) #[true,true,true,false,true,false,false,false,true,true,true,false,false,false,false,false,false,false,false,false] rfl rfl (by kernel_rfl) (fun _ _ _ h=>h) (Or.inl ⟨by rfl,?_⟩) ?_ ?_
 rotate_left
 ·intro w'
  go_simp
  with_reducible rfl
 rotate_left
 ·simp only [Act.put,List.setIfInBounds_toArray,List.set_cons_zero,List.set_cons_succ,Ib,Jb]
  rfl
 refine qd (i:=12) (N:=some 38) (v:=?_) (a':=?_) #[true,true,true,false,true,false,false,false,true,true,true,false,true,false,false,false,false,false,false,false] rfl rfl (by kernel_rfl) (fun _ _ _ h=>h) (Or.inl ⟨by rfl,?_⟩) ?_ ?_
 rotate_left
 ·intro w'
  go_simp
  with_reducible rfl
 rotate_left
 ·simp only [Act.put,List.setIfInBounds_toArray,List.set_cons_zero,List.set_cons_succ,Ib,Jb]
  rfl
 refine sg (i:=3) (N:=some 29) (v:=?_) (a':=?_) #[true,true,true,true,true,false,false,false,true,true,true,false,true,false,false,false,false,false,false,false] rfl rfl (by kernel_rfl) (fun _ _ _ h=>h) (Or.inl ⟨by rfl,?_⟩) hHeld ?_ ?_
 rotate_left
 ·rintro w' ⟨s0,s1,s2,s3,s4,s5,s6⟩
  go_simp
  with_reducible rfl
 rotate_left
 ·simp only [Act.put,List.setIfInBounds_toArray,List.set_cons_zero,List.set_cons_succ,Ib,Jb]
  rfl
 refine sg (i:=5) (N:=some 31) (v:=?_) (a':=?_) #[true,true,true,true,true,true,false,false,true,true,true,false,true,false,false,false,false,false,false,false] rfl rfl (by kernel_rfl) (fun _ _ _ h=>h) (Or.inl ⟨by rfl,?_⟩) hHeld ?_ ?_
 rotate_left
 ·rintro w' ⟨s0,s1,s2,s3,s4,s5,s6⟩
  go_simp
  with_reducible rfl
 rotate_left
 ·simp only [Act.put,List.setIfInBounds_toArray,List.set_cons_zero,List.set_cons_succ,Ib,Jb]
  rfl
 refine qd (i:=6) (N:=some 32) (v:=?_) (a':=?_) #[true,true,true,true,true,true,true,false,true,true,true,false,true,false,false,false,false,false,false,false] rfl rfl (by kernel_rfl) (fun _ _ _ h=>h) (Or.inl ⟨by rfl,?_⟩) ?_ ?_
 rotate_left
 ·intro w'
  go_simp
  with_reducible rfl
 rotate_left
 ·simp only [Act.put,List.setIfInBounds_toArray,List.set_cons_zero,List.set_cons_succ,Ib,Jb]
  rfl
 refine sg (i:=7) (N:=some 33) (v:=?_) (a':=?_) #[true,true,true,true,true,true,true,true,true,true,true,false,true,false,false,false,false,false,false,false] rfl rfl (by kernel_rfl) (fun _ _ _ h=>h) (Or.inl ⟨by rfl,?_⟩) hHeld ?_ ?_
 rotate_left
 ·rintro w' ⟨s0,s1,s2,s3,s4,s5,s6⟩
  go_simp
  with_reducible rfl
 rotate_left
 ·simp only [Act.put,List.setIfInBounds_toArray,List.set_cons_zero,List.set_cons_succ,Ib,Jb]
  rfl
 refine sg (i:=11) (N:=some 37) (v:=?_) (a':=?_) #[true,true,true,true,true,true,true,true,true,true,true,true,true,false,false,false,false,false,false,false] rfl rfl (by kernel_rfl) (fun _ _ _ h=>h) (Or.inl ⟨by rfl,?_⟩) hHeld ?_ ?_
 rotate_left
 ·rintro w' ⟨s0,s1,s2,s3,s4,s5,s6⟩
  go_simp
  with_reducible rfl
 rotate_left
 ·simp only [Act.put,List.setIfInBounds_toArray,List.set_cons_zero,List.set_cons_succ,Ib,Jb]
  rfl
 refine sg (i:=13) (N:=some 39) (v:=?_) (a':=?_) #[true,true,true,true,true,true,true,true,true,true,true,true,true,true,false,false,false,false,false,false] rfl rfl (by kernel_rfl) (fun _ _ _ h=>h) (Or.inl ⟨by rfl,?_⟩) hHeld ?_ ?_
 rotate_left
 ·rintro w' ⟨s0,s1,s2,s3,s4,s5,s6⟩
  go_simp
  with_reducible rfl
 rotate_left
 ·simp only [Act.put,List.setIfInBounds_toArray,List.set_cons_zero,List.set_cons_succ,Ib,Jb]
  rfl
 refine qd (i:=14) (N:=some 40) (v:=?_) (a':=?_) #[true,true,true,true,true,true,true,true,true,true,true,true,true,true,true,false,false,false,false,false] rfl rfl (by kernel_rfl) (fun _ _ _ h=>h) (Or.inl ⟨by rfl,?_⟩) ?_ ?_
 rotate_left
 ·intro w'
  go_simp
  with_reducible rfl
 rotate_left
 ·simp only [Act.put,List.setIfInBounds_toArray,List.set_cons_zero,List.set_cons_succ,Ib,Jb]
  rfl
 refine sg (i:=15) (N:=some 41) (v:=?_) (a':=?_) #[true,true,true,true,true,true,true,true,true,true,true,true,true,true,true,true,false,false,false,false] rfl rfl (by kernel_rfl) (fun _ _ _ h=>h) (Or.inl ⟨by rfl,?_⟩) hHeld ?_ ?_
 rotate_left
 ·rintro w' ⟨s0,s1,s2,s3,s4,s5,s6⟩
  go_simp
  with_reducible rfl
 rotate_left
 ·simp only [Act.put,List.setIfInBounds_toArray,List.set_cons_zero,List.set_cons_succ,Ib,Jb]
  rfl
 refine nW (σ:=Nat × Nat) 2 #[true,true,true,true,true,true,true,true,true,true,true,true,true,true,true,true,true,true,false,false] (fun s=>[(5,.pointer (some ⟨s.1,0,none⟩)),(6,.pointer (some ⟨s.2,0,none⟩))]) (fun s w'=>w' = (W1.drew.alloc (.cells #[.int .i64 0,.int .i64 0] 79 (0,0))).alloc (.cells #[.int .i64 0,.int .i64 0] 79 (0,0))∧((s.1=W1.heap.size∧s.2=W1.heap.size + 1) ∨ (s.1=W1.heap.size + 1∧s.2=W1.heap.size))) ?_ ?_
 rotate_left
 ·intro DR
  refine sae (i:=16) (j:=17) (Ni:=some 5) (Nj:=some 6) #[true,true,true,true,true,true,true,true,true,true,true,true,true,true,true,true,true,false,false,false] #[true,true,true,true,true,true,true,true,true,true,true,true,true,true,true,true,false,true,false,false] rfl rfl rfl rfl (by kernel_rfl) (by decide) (by decide) (fun K hK=>?_) (fun K hK=>?_)
  ·skip
   refine Qz (w1:=?_) (v:=?_) (by rfl) rfl ?_ ?_
   rotate_left 2
   ·go_simp
    constructor
    ·rfl
    ·rfl
   refine hK.out _ _ ⟨(HG.out _ (qa Rs.out _)).1,(HG.out _ (qa Rs.out _)).2.1,(HG.out _ (qa Rs.out _)).2.2.1,(HG.out _ (qa Rs.out _)).2.2.2.1,(HG.out _ (qa Rs.out _)).2.2.2.2.1,(HG.out _ (qa Rs.out _)).2.2.2.2.2.1,(HG.out _ (qa Rs.out _)).2.2.2.2.2.2⟩ (fun hHeld=>?_)
   clear hK K
   refine Vj (a':=?_) ?_ ?_
   rotate_left
   ·show Act.put _ (some 5) _=_
    simp only [Act.put,List.setIfInBounds_toArray,List.set_cons_zero,List.set_cons_succ,Ib,Jb]
    rfl
   refine Vo (i:=17) (N:=some 6) #[true,true,true,true,true,true,true,true,true,true,true,true,true,true,true,true,true,true,false,false] rfl rfl (by kernel_rfl) (by decide) (fun K hK=>?_)
   refine Qz (w1:=?_) (v:=?_) (by rfl) rfl ?_ ?_
   rotate_left 2
   ·go_simp
    constructor
    ·rfl
    ·rfl
   refine hK.out _ _ ⟨(HG.out _ (qa (qa Rs.out _) _)).1,(HG.out _ (qa (qa Rs.out _) _)).2.1,(HG.out _ (qa (qa Rs.out _) _)).2.2.1,(HG.out _ (qa (qa Rs.out _) _)).2.2.2.1,(HG.out _ (qa (qa Rs.out _) _)).2.2.2.2.1,(HG.out _ (qa (qa Rs.out _) _)).2.2.2.2.2.1,(HG.out _ (qa (qa Rs.out _) _)).2.2.2.2.2.2⟩ (fun hHeld=>?_)
   clear hK K
   refine Vj (a':=?_) ?_ ?_
   rotate_left
   ·show Act.put _ (some 6) _=_
    simp only [Act.put,List.setIfInBounds_toArray,List.set_cons_zero,List.set_cons_succ,Ib,Jb]
    rfl
   exact Vj (by simp only [Ru,Act.put,List.setIfInBounds_toArray,List.set_cons_zero,List.set_cons_succ]) (DR (W1.heap.size,W1.heap.size + 1) _ ⟨rfl,Or.inl ⟨rfl,rfl⟩⟩)
  ·skip
   refine Qz (w1:=?_) (v:=?_) (by rfl) rfl ?_ ?_
   rotate_left 2
   ·go_simp
    constructor
    ·rfl
    ·rfl
   refine hK.out _ _ ⟨(HG.out _ (qa Rs.out _)).1,(HG.out _ (qa Rs.out _)).2.1,(HG.out _ (qa Rs.out _)).2.2.1,(HG.out _ (qa Rs.out _)).2.2.2.1,(HG.out _ (qa Rs.out _)).2.2.2.2.1,(HG.out _ (qa Rs.out _)).2.2.2.2.2.1,(HG.out _ (qa Rs.out _)).2.2.2.2.2.2⟩ (fun hHeld=>?_)
   clear hK K
   refine Vj (a':=?_) ?_ ?_
   rotate_left
   ·show Act.put _ (some 6) _=_
    simp only [Act.put,List.setIfInBounds_toArray,List.set_cons_zero,List.set_cons_succ,Ib,Jb]
    rfl
   refine Vo (i:=16) (N:=some 5) #[true,true,true,true,true,true,true,true,true,true,true,true,true,true,true,true,true,true,false,false] rfl rfl (by kernel_rfl) (by decide) (fun K hK=>?_)
   refine Qz (w1:=?_) (v:=?_) (by rfl) rfl ?_ ?_
   rotate_left 2
   ·go_simp
    constructor
    ·rfl
    ·rfl
   refine hK.out _ _ ⟨(HG.out _ (qa (qa Rs.out _) _)).1,(HG.out _ (qa (qa Rs.out _) _)).2.1,(HG.out _ (qa (qa Rs.out _) _)).2.2.1,(HG.out _ (qa (qa Rs.out _) _)).2.2.2.1,(HG.out _ (qa (qa Rs.out _) _)).2.2.2.2.1,(HG.out _ (qa (qa Rs.out _) _)).2.2.2.2.2.1,(HG.out _ (qa (qa Rs.out _) _)).2.2.2.2.2.2⟩ (fun hHeld=>?_)
   clear hK K
   refine Vj (a':=?_) ?_ ?_
   rotate_left
   ·show Act.put _ (some 5) _=_
    simp only [Act.put,List.setIfInBounds_toArray,List.set_cons_zero,List.set_cons_succ,Ib,Jb]
    rfl
   exact Vj (by simp only [Ru,Act.put,List.setIfInBounds_toArray,List.set_cons_zero,List.set_cons_succ]) (DR (W1.heap.size + 1,W1.heap.size) _ ⟨rfl,Or.inr ⟨rfl,rfl⟩⟩)
 rintro ⟨s1,s2⟩ W3 ⟨T1,hs⟩
 simp only at hs
 have hne:s1 ≠ s2:=by omega
 have mX:W1.heap.size ≤ s1:=by omega
 have lX:W1.heap.size ≤ s2:=by omega
 have hB3:Below W1.heap.size W1 W3:=by rw [T1];exact qa (qa Rs.out _) _
 have hz3:W3.heap.size=W1.heap.size + 2:=by rw [T1];simp
 have aJ:W3.heap[s1]? = some (.cells #[.int .i64 0,.int .i64 0] 79 (0,0)):=by
  rw [T1]
  rcases hs with ⟨e,_⟩|⟨e,_⟩
  ·rw [e];exact Ca (wh W1.drew _) _
  ·rw [e];have:=wh (W1.drew.alloc (.cells #[.int .i64 0,.int .i64 0] 79 (0,0))) (.cells #[.int .i64 0,.int .i64 0] 79 (0,0));simpa using this
 have hn2:W3.heap[s2]? = some (.cells #[.int .i64 0,.int .i64 0] 79 (0,0)):=by
  rw [T1]
  rcases hs with ⟨_,e⟩|⟨_,e⟩
  ·rw [e];have:=wh (W1.drew.alloc (.cells #[.int .i64 0,.int .i64 0] 79 (0,0))) (.cells #[.int .i64 0,.int .i64 0] 79 (0,0));simpa using this
  ·rw [e];exact Ca (wh W1.drew _) _
 clear T1 hs
 have vS:=ja.mk hB3
 have hHeld:=HG.out W3 hB3
 have EV:=ja.mk aJ
 have HN2:=ja.mk hn2
 clear hB3 aJ hn2
 refine Vj (a':=?_) ?_ ?_
 rotate_left
 ·simp only [Ru,Act.put,List.setIfInBounds_toArray,List.set_cons_zero,List.set_cons_succ]
  rfl
 refine Vo (i:=18) (N:=none) #[true,true,true,true,true,true,true,true,true,true,true,true,true,true,true,true,true,true,true,false] rfl rfl (by kernel_rfl) (by decide) (fun K hK=>?_)
 have uag:=(ga EV.out 0).trans rfl
 have sag:=(ga EV.out 1).trans rfl
 have Saf:=aa EV.out 0
 have Raf:=aa EV.out 1
 refine NB (w1:=?_) (by rfl) rfl ?_ ?_
 rotate_left
 ·go_simp
  rfl
 have Kx:=ja.mk (show Below W1.heap.size W1 ((W3.setCell ⟨s1,0,none⟩ (.int .i64 (Bc xs a).f0)).setCell ⟨s1,1,none⟩ (.int .i64 (Bc xs a).f1)) from (vS.out.setCell mX _).setCell mX _)
 have HM1:=ja.mk (Wb (cs:=#[.int .i64 (Bc xs a).f0,.int .i64 0]) (Wb (cs:=#[.int .i64 0,.int .i64 0]) EV.out 0 (.int .i64 (Bc xs a).f0) rfl) 1 (.int .i64 (Bc xs a).f1) rfl)
 have FV:=ja.mk (jd (p:=⟨s1,1,none⟩) (jd (p:=⟨s1,0,none⟩) HN2.out (Ne.symm hne) (.int .i64 (Bc xs a).f0)) (Ne.symm hne) (.int .i64 (Bc xs a).f1))
 clear uag sag Saf Raf
 refine hK.out _ _ ⟨(HG.out _ Kx.out).1,(HG.out _ Kx.out).2.1,(HG.out _ Kx.out).2.2.1,(HG.out _ Kx.out).2.2.2.1,(HG.out _ Kx.out).2.2.2.2.1,(HG.out _ Kx.out).2.2.2.2.2.1,(HG.out _ Kx.out).2.2.2.2.2.2⟩ (fun hHeld=>?_)
 clear hK K
 refine WQ (i:=19) (N:=none) #[true,true,true,true,true,true,true,true,true,true,true,true,true,true,true,true,true,true,true,true] rfl rfl (by kernel_rfl) (by decide) (fun K hK=>?_)
 have rag:=(ga FV.out 0).trans rfl
 have qag:=(ga FV.out 1).trans rfl
 have Qaf:=aa FV.out 0
 have Paf:=aa FV.out 1
 refine NB (w1:=?_) (by rfl) rfl ?_ ?_
 rotate_left
 ·go_simp
  rfl
 refine hK.out _ _ ?_
 clear hK K
 refine wm (by kernel_rfl) ?_
 obtain ⟨W5,hW5⟩:∃ W5,W5=(((W3.setCell ⟨s1,0,none⟩ (.int .i64 (Bc xs a).f0)).setCell ⟨s1,1,none⟩ (.int .i64 (Bc xs a).f1)).setCell ⟨s2,0,none⟩ (.int .i64 (Bc xs b).f0)).setCell ⟨s2,1,none⟩ (.int .i64 (Bc xs b).f1):=⟨_,rfl⟩
 rw [← hW5]
 have XI:Below W1.heap.size W1 W5:=by rw [hW5];exact (Kx.out.setCell lX _).setCell lX _
 have hm1:W5.heap[s1]? = some (.cells #[.int .i64 (Bc xs a).f0,.int .i64 (Bc xs a).f1] 79 (0,0)):=by rw [hW5];exact jd (p:=⟨s2,1,none⟩) (jd (p:=⟨s2,0,none⟩) HM1.out hne _) hne _
 have hm2:W5.heap[s2]? = some (.cells #[.int .i64 (Bc xs b).f0,.int .i64 (Bc xs b).f1] 79 (0,0)):=by rw [hW5];exact Wb (cs:=#[.int .i64 (Bc xs b).f0,.int .i64 0]) (Wb (cs:=#[.int .i64 0,.int .i64 0]) FV.out 0 _ rfl) 1 _ rfl
 clear hW5 HM1 FV EV HN2 rag qag Qaf Paf Kx vS hd1 hd2 hd3 II GI zM yM hx0 hx1 Oq Nq rq Zz Yv hr0 aC SJ RJ yT hk1 nX HG Rs hz3
 have HR:=ja.mk (gb HR.out XI)
 have HX:=ja.mk (gb HX.out XI)
 have Yg:=ja.mk (gb Yg.out XI)
 have gam:=XI.size
 have HB:=ja.mk (Qa HB.out XI)
 clear XI
 have hk1:=(ga Yg.out 1).trans rfl
 have nX:=aa Yg.out 1
 have hr0:=(ga HR.out 0).trans rfl
 have aC:=(ga HR.out 1).trans rfl
 have SJ:=aa HR.out 0
 have RJ:=aa HR.out 1
 have Yv:=(ga HX.out 6).trans rfl
 have Cam:=(ga hm1 0).trans rfl
 have Bam:=(ga hm1 1).trans rfl
 have Aam:=(ga hm2 0).trans rfl
 have zam:=(ga hm2 1).trans rfl
 by_cases hA:(Bc xs a).f0 = -1
 ·by_cases hB:(Bc xs b).f0 = -1
  ·have bA:((Bc xs a).f0 == -1)=true:=beq_iff_eq.2 hA
   have bB:((Bc xs b).f0 == -1)=true:=beq_iff_eq.2 hB
   rw [mW hA hB] at Vy
   clear hA hB
   go_wp2_with (first|(go_at_call 119;(with_reducible refine (Gl _ _ _ _).mono ?_);rintro e w1 ⟨rfl,⟨k1,rfl⟩⟩))
   all_goals
    have hz:=HZ.out
    cases Vy.out
    refine bodyPost_ret (results_cell_row rfl _ _ (W.heap.size + 1) 79 #[.int .i64 (-1),.int .i64 (lE t (Bc xs a).f1 (Bc xs b).f1)] (0,0) _ rfl ?_ Try.underlying79 rfl (by kernel_rfl)) rfl ?_
    ·exact Wb (cs:=#[.int .i64 (-1),.int .i64 0]) (Wb (cs:=#[.int .i64 0,.int .i64 0]) (by (with_reducible repeat (first|refine Da ?_ _|refine Ga ?_|refine Ca ?_ _));exact HR.out) 0 _ rfl) 1 _ rfl
    ·exact Ss P5.out rfl (by repeat (first|exact HB.out|apply ia|apply ua|apply qa|refine Aa ?_ (by first|omega|(simp;done)|(simp;omega))))
  ·by_cases hP:t.toList=[43]
   ·have bA:((Bc xs a).f0 == -1)=true:=beq_iff_eq.2 hA
    have bB:((Bc xs b).f0 == -1)=false:=beq_eq_false_iff_ne.2 hB
    have bP:(t.toList == [43])=true:=beq_iff_eq.2 hP
    rw [lW hA hB hP] at Vy
    clear hA hB hP
    go_wp2_with (first|(go_at_call 119;(with_reducible refine (Gl _ _ _ _).mono ?_);rintro e w1 ⟨rfl,⟨k1,rfl⟩⟩))
    all_goals
     have hz:=HZ.out
     cases Vy.out
     refine bodyPost_ret (results_cell_row rfl _ _ (W.heap.size + 1) 79 #[.int .i64 (Bc xs b).f0,.int .i64 (wrap64 ((Bc xs a).f1 + (Bc xs b).f1))] (0,0) _ rfl ?_ Try.underlying79 rfl (by kernel_rfl)) rfl ?_
     ·exact Wb (cs:=#[.int .i64 (Bc xs b).f0,.int .i64 0]) (Wb (cs:=#[.int .i64 0,.int .i64 0]) (by (with_reducible repeat (first|refine Da ?_ _|refine Ga ?_|refine Ca ?_ _));exact HR.out) 0 _ rfl) 1 _ rfl
     ·exact Ss P5.out rfl (by repeat (first|exact HB.out|apply ia|apply ua|apply qa|refine Aa ?_ (by first|omega|(simp;done)|(simp;omega))))
   ·by_cases hM:t.toList=[45]
    ·by_cases hE:(Bc xs a).f0=(Bc xs b).f0
     ·exact absurd (hE ▸ hA) hB
     ·have bA:((Bc xs a).f0 == -1)=true:=beq_iff_eq.2 hA
      have bB:((Bc xs b).f0 == -1)=false:=beq_eq_false_iff_ne.2 hB
      have bP:(t.toList == [43])=false:=beq_eq_false_iff_ne.2 hP
      have bM:(t.toList == [45])=true:=beq_iff_eq.2 hM
      have bE:((Bc xs a).f0 == (Bc xs b).f0)=false:=beq_eq_false_iff_ne.2 hE
      rw [xz (fun h=>hB h.2) (fun h=>hP h.1) (fun h=>hB h.2) (fun h=>hB h.2) (fun h=>hE h.2)] at Vy
      clear hA hB hP hM hE
      go_wp2_with (first|(go_at_call 119;(with_reducible refine (Gl _ _ _ _).mono ?_);rintro e w1 ⟨rfl,⟨k1,rfl⟩⟩))
      all_goals
       have hz:=HZ.out
       cases Vy.out
       refine bodyPost_ret (results_cell_row rfl _ _ (W.heap.size + 1) 79 #[.int .i64 nx,.int .i64 0] (0,0) _ rfl ?_ Try.underlying79 rfl (by kernel_rfl)) rfl ?_
       ·exact Wb (cs:=#[.int .i64 nx,.int .i64 0]) (Wb (cs:=#[.int .i64 0,.int .i64 0]) (jd (by (with_reducible repeat (first|refine Da ?_ _|refine Ga ?_|refine Ca ?_ _));exact HR.out) (by simp;omega) _) 0 _ rfl) 1 _ rfl
       ·exact ⟨rfl,Kl hB XL.out WL.out (by (with_reducible repeat (first|refine Kept.drewN ?_ _|refine Kept.drew ?_|refine Kept.alloc ?_ _));exact Kept.Ji HB.out _) (by (with_reducible repeat (first|refine Da ?_ _|refine Ga ?_|refine Ca ?_ _));exact Yg.out) (by repeat (first|exact HB.out.mono (Nat.le_of_lt hlt)|apply ia|apply ua|refine Below.alloc ?_ (by simp;omega) _)) (Nat.le_succ _) hlt⟩
    ·have bA:((Bc xs a).f0 == -1)=true:=beq_iff_eq.2 hA
     have bB:((Bc xs b).f0 == -1)=false:=beq_eq_false_iff_ne.2 hB
     have bP:(t.toList == [43])=false:=beq_eq_false_iff_ne.2 hP
     have bM:(t.toList == [45])=false:=beq_eq_false_iff_ne.2 hM
     rw [xz (fun h=>hB h.2) (fun h=>hP h.1) (fun h=>hB h.2) (fun h=>hM h.1) (fun h=>hM h.1)] at Vy
     clear hA hB hP hM
     go_wp2_with (first|(go_at_call 119;(with_reducible refine (Gl _ _ _ _).mono ?_);rintro e w1 ⟨rfl,⟨k1,rfl⟩⟩))
     all_goals
      have hz:=HZ.out
      cases Vy.out
      refine bodyPost_ret (results_cell_row rfl _ _ (W.heap.size + 1) 79 #[.int .i64 nx,.int .i64 0] (0,0) _ rfl ?_ Try.underlying79 rfl (by kernel_rfl)) rfl ?_
      ·exact Wb (cs:=#[.int .i64 nx,.int .i64 0]) (Wb (cs:=#[.int .i64 0,.int .i64 0]) (jd (by (with_reducible repeat (first|refine Da ?_ _|refine Ga ?_|refine Ca ?_ _));exact HR.out) (by simp;omega) _) 0 _ rfl) 1 _ rfl
      ·exact ⟨rfl,Kl hB XL.out WL.out (by (with_reducible repeat (first|refine Kept.drewN ?_ _|refine Kept.drew ?_|refine Kept.alloc ?_ _));exact Kept.Ji HB.out _) (by (with_reducible repeat (first|refine Da ?_ _|refine Ga ?_|refine Ca ?_ _));exact Yg.out) (by repeat (first|exact HB.out.mono (Nat.le_of_lt hlt)|apply ia|apply ua|refine Below.alloc ?_ (by simp;omega) _)) (Nat.le_succ _) hlt⟩
 ·by_cases hB:(Bc xs b).f0 = -1
  ·by_cases hP:t.toList=[43]
   ·have bA:((Bc xs a).f0 == -1)=false:=beq_eq_false_iff_ne.2 hA
    have bB:((Bc xs b).f0 == -1)=true:=beq_iff_eq.2 hB
    have bP:(t.toList == [43])=true:=beq_iff_eq.2 hP
    rw [kW hA hB hP] at Vy
    clear hA hB hP
    go_wp2_with (first|(go_at_call 119;(with_reducible refine (Gl _ _ _ _).mono ?_);rintro e w1 ⟨rfl,⟨k1,rfl⟩⟩))
    all_goals
     have hz:=HZ.out
     cases Vy.out
     refine bodyPost_ret (results_cell_row rfl _ _ (W.heap.size + 1) 79 #[.int .i64 (Bc xs a).f0,.int .i64 (wrap64 ((Bc xs a).f1 + (Bc xs b).f1))] (0,0) _ rfl ?_ Try.underlying79 rfl (by kernel_rfl)) rfl ?_
     ·exact Wb (cs:=#[.int .i64 (Bc xs a).f0,.int .i64 0]) (Wb (cs:=#[.int .i64 0,.int .i64 0]) (by (with_reducible repeat (first|refine Da ?_ _|refine Ga ?_|refine Ca ?_ _));exact HR.out) 0 _ rfl) 1 _ rfl
     ·exact Ss P5.out rfl (by repeat (first|exact HB.out|apply ia|apply ua|apply qa|refine Aa ?_ (by first|omega|(simp;done)|(simp;omega))))
   ·by_cases hM:t.toList=[45]
    ·have bA:((Bc xs a).f0 == -1)=false:=beq_eq_false_iff_ne.2 hA
     have bB:((Bc xs b).f0 == -1)=true:=beq_iff_eq.2 hB
     have bP:(t.toList == [43])=false:=beq_eq_false_iff_ne.2 hP
     have bM:(t.toList == [45])=true:=beq_iff_eq.2 hM
     rw [jW hA hB hP hM] at Vy
     clear hA hB hP hM
     go_wp2_with (first|(go_at_call 119;(with_reducible refine (Gl _ _ _ _).mono ?_);rintro e w1 ⟨rfl,⟨k1,rfl⟩⟩))
     all_goals
      have hz:=HZ.out
      cases Vy.out
      refine bodyPost_ret (results_cell_row rfl _ _ (W.heap.size + 1) 79 #[.int .i64 (Bc xs a).f0,.int .i64 (wrap64 ((Bc xs a).f1 - (Bc xs b).f1))] (0,0) _ rfl ?_ Try.underlying79 rfl (by kernel_rfl)) rfl ?_
      ·exact Wb (cs:=#[.int .i64 (Bc xs a).f0,.int .i64 0]) (Wb (cs:=#[.int .i64 0,.int .i64 0]) (by (with_reducible repeat (first|refine Da ?_ _|refine Ga ?_|refine Ca ?_ _));exact HR.out) 0 _ rfl) 1 _ rfl
      ·exact Ss P5.out rfl (by repeat (first|exact HB.out|apply ia|apply ua|apply qa|refine Aa ?_ (by first|omega|(simp;done)|(simp;omega))))
    ·have bA:((Bc xs a).f0 == -1)=false:=beq_eq_false_iff_ne.2 hA
     have bB:((Bc xs b).f0 == -1)=true:=beq_iff_eq.2 hB
     have bP:(t.toList == [43])=false:=beq_eq_false_iff_ne.2 hP
     have bM:(t.toList == [45])=false:=beq_eq_false_iff_ne.2 hM
     rw [xz (fun h=>hA h.1) (fun h=>hP h.1) (fun h=>hP h.1) (fun h=>hM h.1) (fun h=>hM h.1)] at Vy
     clear hA hB hP hM
     go_wp2_with (first|(go_at_call 119;(with_reducible refine (Gl _ _ _ _).mono ?_);rintro e w1 ⟨rfl,⟨k1,rfl⟩⟩))
     all_goals
      have hz:=HZ.out
      cases Vy.out
      refine bodyPost_ret (results_cell_row rfl _ _ (W.heap.size + 1) 79 #[.int .i64 nx,.int .i64 0] (0,0) _ rfl ?_ Try.underlying79 rfl (by kernel_rfl)) rfl ?_
      ·exact Wb (cs:=#[.int .i64 nx,.int .i64 0]) (Wb (cs:=#[.int .i64 0,.int .i64 0]) (jd (by (with_reducible repeat (first|refine Da ?_ _|refine Ga ?_|refine Ca ?_ _));exact HR.out) (by simp;omega) _) 0 _ rfl) 1 _ rfl
      ·exact ⟨rfl,Kl hB XL.out WL.out (by (with_reducible repeat (first|refine Kept.drewN ?_ _|refine Kept.drew ?_|refine Kept.alloc ?_ _));exact Kept.Ji HB.out _) (by (with_reducible repeat (first|refine Da ?_ _|refine Ga ?_|refine Ca ?_ _));exact Yg.out) (by repeat (first|exact HB.out.mono (Nat.le_of_lt hlt)|apply ia|apply ua|refine Below.alloc ?_ (by simp;omega) _)) (Nat.le_succ _) hlt⟩
  ·by_cases hP:t.toList=[43]
   ·have hM:¬ t.toList=[45]:=fun h=>absurd (hP.symm.trans h) (by decide)
    have bA:((Bc xs a).f0 == -1)=false:=beq_eq_false_iff_ne.2 hA
    have bB:((Bc xs b).f0 == -1)=false:=beq_eq_false_iff_ne.2 hB
    have bP:(t.toList == [43])=true:=beq_iff_eq.2 hP
    have bM:(t.toList == [45])=false:=beq_eq_false_iff_ne.2 hM
    rw [xz (fun h=>hA h.1) (fun h=>hA h.2) (fun h=>hB h.2) (fun h=>hB h.2) (fun h=>hM h.1)] at Vy
    clear hA hB hP hM
    go_wp2_with (first|(go_at_call 119;(with_reducible refine (Gl _ _ _ _).mono ?_);rintro e w1 ⟨rfl,⟨k1,rfl⟩⟩))
    all_goals
     have hz:=HZ.out
     cases Vy.out
     refine bodyPost_ret (results_cell_row rfl _ _ (W.heap.size + 1) 79 #[.int .i64 nx,.int .i64 0] (0,0) _ rfl ?_ Try.underlying79 rfl (by kernel_rfl)) rfl ?_
     ·exact Wb (cs:=#[.int .i64 nx,.int .i64 0]) (Wb (cs:=#[.int .i64 0,.int .i64 0]) (jd (by (with_reducible repeat (first|refine Da ?_ _|refine Ga ?_|refine Ca ?_ _));exact HR.out) (by simp;omega) _) 0 _ rfl) 1 _ rfl
     ·exact ⟨rfl,Kl hB XL.out WL.out (by (with_reducible repeat (first|refine Kept.drewN ?_ _|refine Kept.drew ?_|refine Kept.alloc ?_ _));exact Kept.Ji HB.out _) (by (with_reducible repeat (first|refine Da ?_ _|refine Ga ?_|refine Ca ?_ _));exact Yg.out) (by repeat (first|exact HB.out.mono (Nat.le_of_lt hlt)|apply ia|apply ua|refine Below.alloc ?_ (by simp;omega) _)) (Nat.le_succ _) hlt⟩
   ·by_cases hM:t.toList=[45]
    ·by_cases hE:(Bc xs a).f0=(Bc xs b).f0
     ·have bA:((Bc xs a).f0 == -1)=false:=beq_eq_false_iff_ne.2 hA
      have bB:((Bc xs b).f0 == -1)=false:=beq_eq_false_iff_ne.2 hB
      have bP:(t.toList == [43])=false:=beq_eq_false_iff_ne.2 hP
      have bM:(t.toList == [45])=true:=beq_iff_eq.2 hM
      have bE:((Bc xs a).f0 == (Bc xs b).f0)=true:=beq_iff_eq.2 hE
      rw [iW hA hB hM hE] at Vy
      clear hA hB hP hM hE
      go_wp2_with (first|(go_at_call 119;(with_reducible refine (Gl _ _ _ _).mono ?_);rintro e w1 ⟨rfl,⟨k1,rfl⟩⟩))
      all_goals
       have hz:=HZ.out
       cases Vy.out
       refine bodyPost_ret (results_cell_row rfl _ _ (W.heap.size + 1) 79 #[.int .i64 (-1),.int .i64 (wrap64 ((Bc xs a).f1 - (Bc xs b).f1))] (0,0) _ rfl ?_ Try.underlying79 rfl (by kernel_rfl)) rfl ?_
       ·exact Wb (cs:=#[.int .i64 (-1),.int .i64 0]) (Wb (cs:=#[.int .i64 0,.int .i64 0]) (by (with_reducible repeat (first|refine Da ?_ _|refine Ga ?_|refine Ca ?_ _));exact HR.out) 0 _ rfl) 1 _ rfl
       ·exact Ss P5.out rfl (by repeat (first|exact HB.out|apply ia|apply ua|apply qa|refine Aa ?_ (by first|omega|(simp;done)|(simp;omega))))
     ·have bA:((Bc xs a).f0 == -1)=false:=beq_eq_false_iff_ne.2 hA
      have bB:((Bc xs b).f0 == -1)=false:=beq_eq_false_iff_ne.2 hB
      have bP:(t.toList == [43])=false:=beq_eq_false_iff_ne.2 hP
      have bM:(t.toList == [45])=true:=beq_iff_eq.2 hM
      have bE:((Bc xs a).f0 == (Bc xs b).f0)=false:=beq_eq_false_iff_ne.2 hE
      rw [xz (fun h=>hA h.1) (fun h=>hA h.2) (fun h=>hB h.2) (fun h=>hB h.2) (fun h=>hE h.2)] at Vy
      clear hA hB hP hM hE
      go_wp2_with (first|(go_at_call 119;(with_reducible refine (Gl _ _ _ _).mono ?_);rintro e w1 ⟨rfl,⟨k1,rfl⟩⟩))
      all_goals
       have hz:=HZ.out
       cases Vy.out
       refine bodyPost_ret (results_cell_row rfl _ _ (W.heap.size + 1) 79 #[.int .i64 nx,.int .i64 0] (0,0) _ rfl ?_ Try.underlying79 rfl (by kernel_rfl)) rfl ?_
       ·exact Wb (cs:=#[.int .i64 nx,.int .i64 0]) (Wb (cs:=#[.int .i64 0,.int .i64 0]) (jd (by (with_reducible repeat (first|refine Da ?_ _|refine Ga ?_|refine Ca ?_ _));exact HR.out) (by simp;omega) _) 0 _ rfl) 1 _ rfl
       ·exact ⟨rfl,Kl hB XL.out WL.out (by (with_reducible repeat (first|refine Kept.drewN ?_ _|refine Kept.drew ?_|refine Kept.alloc ?_ _));exact Kept.Ji HB.out _) (by (with_reducible repeat (first|refine Da ?_ _|refine Ga ?_|refine Ca ?_ _));exact Yg.out) (by repeat (first|exact HB.out.mono (Nat.le_of_lt hlt)|apply ia|apply ua|refine Below.alloc ?_ (by simp;omega) _)) (Nat.le_succ _) hlt⟩
    ·have bA:((Bc xs a).f0 == -1)=false:=beq_eq_false_iff_ne.2 hA
     have bB:((Bc xs b).f0 == -1)=false:=beq_eq_false_iff_ne.2 hB
     have bP:(t.toList == [43])=false:=beq_eq_false_iff_ne.2 hP
     have bM:(t.toList == [45])=false:=beq_eq_false_iff_ne.2 hM
     rw [xz (fun h=>hA h.1) (fun h=>hA h.2) (fun h=>hB h.2) (fun h=>hB h.2) (fun h=>hM h.1)] at Vy
     clear hA hB hP hM
     go_wp2_with (first|(go_at_call 119;(with_reducible refine (Gl _ _ _ _).mono ?_);rintro e w1 ⟨rfl,⟨k1,rfl⟩⟩))
     all_goals
      have hz:=HZ.out
      cases Vy.out
      refine bodyPost_ret (results_cell_row rfl _ _ (W.heap.size + 1) 79 #[.int .i64 nx,.int .i64 0] (0,0) _ rfl ?_ Try.underlying79 rfl (by kernel_rfl)) rfl ?_
      ·exact Wb (cs:=#[.int .i64 nx,.int .i64 0]) (Wb (cs:=#[.int .i64 0,.int .i64 0]) (jd (by (with_reducible repeat (first|refine Da ?_ _|refine Ga ?_|refine Ca ?_ _));exact HR.out) (by simp;omega) _) 0 _ rfl) 1 _ rfl
      ·exact ⟨rfl,Kl hB XL.out WL.out (by (with_reducible repeat (first|refine Kept.drewN ?_ _|refine Kept.drew ?_|refine Kept.alloc ?_ _));exact Kept.Ji HB.out _) (by (with_reducible repeat (first|refine Da ?_ _|refine Ga ?_|refine Ca ?_ _));exact Yg.out) (by repeat (first|exact HB.out.mono (Nat.le_of_lt hlt)|apply ia|apply ua|refine Below.alloc ?_ (by simp;omega) _)) (Nat.le_succ _) hlt⟩
theorem qz {x:Bf} {r:dm} (hk:KV W B kb v xs nx) (h:Calls Try.prog 92 #[.pointer (some ⟨kb,0,none⟩),.agg #[.int .i64 x.f0,.int .i64 x.f1,.int .i64 x.f2,.int .i64 x.f3,.int .i64 x.f4,.int .i64 x.f5,.string x.f6]] W fun e w'=>e = .returned (.agg #[.int .i64 r.f0,.int .i64 r.f1])∧Below W.heap.size W w') :
  Calls Try.prog 92 #[.pointer (some ⟨kb,0,none⟩),.agg #[.int .i64 x.f0,.int .i64 x.f1,.int .i64 x.f2,.int .i64 x.f3,.int .i64 x.f4,.int .i64 x.f5,.string x.f6]] W fun e w'=>e = .returned (.agg #[.int .i64 r.f0,.int .i64 r.f1])∧KV w' B kb v xs nx∧Kept W w' (fun k=>k=kb)∧Below kb W w':=by
 have hlt:kb < W.heap.size:=Lc hk.2.1
 exact h.mono fun e w' ⟨he,hb⟩=>⟨he,hk.below hb,Kept.Ji hb _,hb.mono (Nat.le_of_lt hlt)⟩
theorem lI (hk:KV W B kb v xs nx) (hn0:0 ≤ nx) (aJ:nx ≤ 1000000000) (x:Bf) (h1:x.f0=1→0 ≤ x.f2∧x.f2 < xs.length) (h2:x.f0=2→(0 ≤ x.f2∧x.f2 < xs.length)∧(0 ≤ x.f3∧x.f3 < xs.length)) :
  Calls Try.prog 92 #[.pointer (some ⟨kb,0,none⟩),.agg #[.int .i64 x.f0,.int .i64 x.f1,.int .i64 x.f2,.int .i64 x.f3,.int .i64 x.f4,.int .i64 x.f5,.string x.f6]] W fun e w'=>e = .returned (.agg #[.int .i64 (ym xs nx x).1.f0,.int .i64 (ym xs nx x).1.f1])∧KV w' B kb v xs (ym xs nx x).2∧Kept W w' (fun k=>k=kb)∧Below kb W w':=by
 unfold ym
 by_cases o0:x.f0=0
 ·rw [if_pos o0]
  refine qz (r:=⟨-1,x.f5⟩) hk ?_
  rw [o0]
  exact iM hk _ _ _ _ _ _
 rw [if_neg o0]
 by_cases o1:x.f0=1
 ·rw [if_pos o1]
  refine qz (r:=Bc xs x.f2) hk ?_
  rw [o1]
  exact gM hk _ _ _ _ _ _ (h1 o1).1 (h1 o1).2
 rw [if_neg o1]
 by_cases o2:x.f0=2
 ·rw [if_pos o2]
  obtain ⟨⟨a0,a1⟩,b0,b1⟩:=h2 o2
  rw [o2]
  exact fM hk hn0 aJ _ _ _ _ _ _ a0 a1 b0 b1
 rw [if_neg o2]
 exact eM hk hn0 aJ _ _ _ _ _ _ x.f0 (beq_eq_false_iff_ne.mpr o0) (beq_eq_false_iff_ne.mpr o1) (beq_eq_false_iff_ne.mpr o2)
end
end Go.Proofs.Ytmifdccaajngcaa.P
end
section
namespace Go.Proofs.Ytmifdccaajngcaa.P
open Go.RowKit Go.Proofs.Na.mc Go.Proofs.Na.jf Go.Proofs.Na.xg
set_option linter.unusedVariables false
set_option linter.unusedSimpArgs false
def Wf (x:Bf):Int:=if x.f0=4 then -1 else if x.f0=6 then -1 else x.f1
theorem wz (x:Bf) (w:World):Calls Try.prog 91 #[.agg #[.int .i64 x.f0,.int .i64 x.f1,.int .i64 x.f2,.int .i64 x.f3,.int .i64 x.f4,.int .i64 x.f5,.string x.f6]] w fun e w'=>e = .returned (.int .i64 (Wf x))∧Below w.heap.size w w' :=
 yp.calls _ _ _ _ _ _ _ _ w (by
  unfold yp.f Wf
  split
  ·rfl
  ·split <;> rfl)
def tj (xs:List dm) (nx:Int) (x:Bf):List dm × Int :=
 if 0 ≤ Wf x then (xs.set (Wf x).toNat (ym xs nx x).1,(ym xs nx x).2) else (xs,nx)
section
variable {W:World} {B kb:Nat} {xs:List dm} {nx:Int}
def KT (W:World) (k:Nat):Prop:=∃ cells t,W.heap[k]? = some (.cells cells t (0,0))∧(t=74 ∨ t=79)
set_option maxHeartbeats 2000000 in
set_option maxRecDepth 100000 in
theorem nI (hk:KS W B kb xs nx) (hn0:0 ≤ nx) (aJ:nx ≤ 1000000000) (x:Bf) (h1:x.f0=1→0 ≤ x.f2∧x.f2 < xs.length) (h2:x.f0=2→(0 ≤ x.f2∧x.f2 < xs.length)∧(0 ≤ x.f3∧x.f3 < xs.length)) (h3:Wf x < xs.length) :
  Calls Try.prog 60 #[.pointer (some ⟨kb,0,none⟩),.agg #[.int .i64 x.f0,.int .i64 x.f1,.int .i64 x.f2,.int .i64 x.f3,.int .i64 x.f4,.int .i64 x.f5,.string x.f6]] W fun e w'=>e = .returned (.tuple #[])∧KS w' B kb (tj xs nx x).1 (tj xs nx x).2∧Below B W w'∧Kept W w' (KT W):=by
 obtain ⟨W1,hW1⟩:∃ W1,W1=W.alloc (.cells #[.int .i64 x.f0,.int .i64 x.f1,.int .i64 x.f2,.int .i64 x.f3,.int .i64 x.f4,.int .i64 x.f5,.string x.f6] 70 (0,0)):=⟨_,rfl⟩
 have HW:=ja.mk hW1
 have Hr:Below W.heap.size W W1:=by rw [hW1];exact qa (Below.refl _ _) _
 have Rj:W1.heap[W.heap.size]? = some (.cells #[.int .i64 x.f0,.int .i64 x.f1,.int .i64 x.f2,.int .i64 x.f3,.int .i64 x.f4,.int .i64 x.f5,.string x.f6] 70 (0,0)):=by rw [hW1];exact wh _ _
 obtain ⟨v,hk⟩:=hk
 have hk1:=hk.below Hr
 have iU:B ≤ W.heap.size:=by
  obtain ⟨hB,hh,_⟩:=hk
  have:=Lc hh
  omega
 have HKT:=ja.mk (show KT W kb from ⟨_,_,hk.2.1,Or.inl rfl⟩)
 have HRT:=ja.mk (Kd.Hx hk.2.2)
 have mV:=ja.mk (Kept.Ji Hr (KT W))
 have HB:=ja.mk (Hr.mono iU)
 have HK:=ja.mk hk1
 have HX:=ja.mk Rj
 have hx0:=(ga Rj 0).trans rfl
 have hx1:=(ga Rj 1).trans rfl
 have Oq:=(ga Rj 2).trans rfl
 have Nq:=(ga Rj 3).trans rfl
 have rq:=(ga Rj 4).trans rfl
 have Zz:=(ga Rj 5).trans rfl
 have Yv:=(ga Rj 6).trans rfl
 clear hW1 Rj hk1 Hr hk
 unfold tj
 by_cases hm:0 ≤ Wf x
 ·rw [if_pos hm]
  have hmb:decide (Wf x ≥ 0)=true:=decide_eq_true hm
  go_enter Try.func60,Try.ntmps60
  go_upto_region 1 with (fail)
  rw [← HW.out]
  clear HW
  go_upto_region 3 with (first|(go_at_call 91;(with_reducible refine (wz x _).mono ?_);rintro e w1 ⟨rfl,hb⟩;have Qy:=ja.mk hb;clear hb))
  have HX:=ja.mk (Ga (gb HX.out Qy.out))
  have HB:=ja.mk (ua (HB.out.trans (Qy.out.mono (Nat.le_trans iU HB.out.size))))
  have hkv:=(HK.out.below Qy.out).below (Nn (Below.refl _ _))
  have mV:=ja.mk ((mV.out.below Qy.out).drew)
  have HK:=ja.mk hkv
  clear hkv hx0 hx1 Oq Nq rq Zz Yv
  obtain ⟨A,cc,rfl,_,hC⟩:=Kd.jq HK.out.2.2
  have zV:=hC.2.1
  obtain ⟨ad,c9,e1,CH,hcK,QD⟩:=Kd.Ry hC yV (Wf x) hm h3
  cases e1
  obtain ⟨g,rfl⟩:=Kd.sE HK.out.2.2
  have HGT:=ja.mk (show KT W g by obtain ⟨cells,hc⟩:=HRT.out g rfl;exact ⟨_,_,hc,Or.inr rfl⟩)
  clear hC
  refine Xj (n:=10) (S:=fun w'=>w'.cell? ⟨kb,0,none⟩=some (.slice (some ⟨g,0,none⟩) xs.length cc)∧w'.cell? ⟨W.heap.size,0,none⟩=some (.int .i64 x.f0)∧w'.cell? ⟨W.heap.size,1,none⟩=some (.int .i64 x.f1)∧w'.cell? ⟨W.heap.size,2,none⟩=some (.int .i64 x.f2)∧w'.cell? ⟨W.heap.size,3,none⟩=some (.int .i64 x.f3)∧w'.cell? ⟨W.heap.size,4,none⟩=some (.int .i64 x.f4)∧w'.cell? ⟨W.heap.size,5,none⟩=some (.int .i64 x.f5)∧w'.cell? ⟨W.heap.size,6,none⟩=some (.string x.f6)) (ds:=[9]) #[false,false,false,false,false,false,false,false,false,false] (by kernel_rfl) rfl rfl ⟨(ga HK.out.2.1 0).trans rfl,(ga HX.out 0).trans rfl,(ga HX.out 1).trans rfl,(ga HX.out 2).trans rfl,(ga HX.out 3).trans rfl,(ga HX.out 4).trans rfl,(ga HX.out 5).trans rfl,(ga HX.out 6).trans rfl⟩ (fun hHeld=>?_)
  generalize w1.drew=w2 at HX HB HK mV hHeld ⊢
  refine qd (i:=0) (N:=some 9) (v:=?_) (a':=?_) #[true,false,false,false,false,false,false,false,false,false] rfl rfl (by kernel_rfl) (fun _ _ _ h=>h) (Or.inl ⟨by rfl,?_⟩) ?_ ?_
  rotate_left
  ·intro w'
   go_simp
   with_reducible rfl
  rotate_left
  ·simp only [Act.put,List.setIfInBounds_toArray,List.set_cons_zero,List.set_cons_succ,Ib,Jb]
   rfl
  refine qd (i:=1) (N:=some 10) (v:=?_) (a':=?_) #[true,true,false,false,false,false,false,false,false,false] rfl rfl (by kernel_rfl) (fun _ _ _ h=>h) (Or.inl ⟨by rfl,?_⟩) ?_ ?_
  rotate_left
  ·intro w'
   go_simp
   with_reducible rfl
  rotate_left
  ·simp only [Act.put,List.setIfInBounds_toArray,List.set_cons_zero,List.set_cons_succ,Ib,Jb]
   rfl
  refine qd (i:=2) (N:=some 11) (v:=?_) (a':=?_) #[true,true,true,false,false,false,false,false,false,false] rfl rfl (by kernel_rfl) (fun _ _ _ h=>h) (Or.inl ⟨by rfl,?_⟩) ?_ ?_
  rotate_left
  ·intro w'
   go_simp
   with_reducible rfl
  rotate_left
  ·simp only [Act.put,List.setIfInBounds_toArray,List.set_cons_zero,List.set_cons_succ,Ib,Jb]
   rfl
  refine qd (i:=4) (N:=some 13) (v:=?_) (a':=?_) #[true,true,true,false,true,false,false,false,false,false] rfl rfl (by kernel_rfl) (fun _ _ _ h=>h) (Or.inl ⟨by rfl,?_⟩) ?_ ?_
  rotate_left
  ·intro w'
   go_simp
   with_reducible rfl
  rotate_left
  ·simp only [Act.put,List.setIfInBounds_toArray,List.set_cons_zero,List.set_cons_succ,Ib,Jb]
   rfl
  refine qd (i:=5) (N:=some 14) (v:=?_) (a':=?_) #[true,true,true,false,true,true,false,false,false,false] rfl rfl (by kernel_rfl) (fun _ _ _ h=>h) (Or.inl ⟨by rfl,?_⟩) ?_ ?_
  rotate_left
  ·intro w'
   go_simp
   with_reducible rfl
  rotate_left
  ·simp only [Act.put,List.setIfInBounds_toArray,List.set_cons_zero,List.set_cons_succ,Ib,Jb]
   rfl
  refine sg (i:=3) (N:=some 12) (v:=?_) (a':=?_) #[true,true,true,true,true,true,false,false,false,false] rfl rfl (by kernel_rfl) (fun _ _ _ h=>h) (Or.inl ⟨by rfl,?_⟩) hHeld ?_ ?_
  rotate_left
  ·rintro w' ⟨s0,s1,s2,s3,s4,s5,s6,s7⟩
   go_simp
   with_reducible rfl
  rotate_left
  ·simp only [Act.put,List.setIfInBounds_toArray,List.set_cons_zero,List.set_cons_succ,Ib,Jb]
   rfl
  refine sg (i:=6) (N:=some 15) (v:=?_) (a':=?_) #[true,true,true,true,true,true,true,false,false,false] rfl rfl (by kernel_rfl) (fun _ _ _ h=>h) (Or.inl ⟨by rfl,?_⟩) hHeld ?_ ?_
  rotate_left
  ·rintro w' ⟨s0,s1,s2,s3,s4,s5,s6,s7⟩
   go_simp
   with_reducible rfl
  rotate_left
  ·simp only [Act.put,List.setIfInBounds_toArray,List.set_cons_zero,List.set_cons_succ,Ib,Jb]
   rfl
  refine Vo (i:=7) (N:=some 16) #[true,true,true,true,true,true,true,true,false,false] rfl rfl (by kernel_rfl) (by decide) (fun K hK=>?_)
  refine Kn Try.func92 (by kernel_rfl) rfl #[.pointer (some ⟨kb,0,none⟩),.agg #[.int .i64 x.f0,.int .i64 x.f1,.int .i64 x.f2,.int .i64 x.f3,.int .i64 x.f4,.int .i64 x.f5,.string x.f6]] (by rfl) rfl rfl (by simp only [List.map_toArray,List.map_cons,List.map_nil];rfl) ?_
  with_reducible refine (lI HK.out hn0 aJ x h1 h2).mono ?_
  rintro e w3 ⟨rfl,hkv,hkk,hbv⟩
  refine ⟨_,rfl,?_⟩
  have HX:=ja.mk (bk HX.out hkk (by obtain ⟨_,q,_⟩:=HK.out;intro e;rw [← e,HX.out] at q;simp at q))
  have HB:=ja.mk (HB.out.trans (hbv.mono HK.out.1))
  have HK:=ja.mk hkv
  have mV:=ja.mk (mV.out.Ox hkk (fun k_ e=>Or.inl (by rw [e];exact HKT.out)))
  clear hkv hkk hbv
  refine hK.out _ _ ⟨(ga HK.out.2.1 0).trans rfl,(ga HX.out 0).trans rfl,(ga HX.out 1).trans rfl,(ga HX.out 2).trans rfl,(ga HX.out 3).trans rfl,(ga HX.out 4).trans rfl,(ga HX.out 5).trans rfl,(ga HX.out 6).trans rfl⟩ (fun hHeld=>?_)
  clear hK K
  refine Vj (a':=?_) ?_ ?_
  rotate_left
  ·show Act.put _ (some 16) _=_
   simp only [Act.put,List.setIfInBounds_toArray,List.set_cons_zero,List.set_cons_succ,Ib,Jb]
   rfl
  refine qd (i:=8) (N:=some 17) (v:=?_) (a':=?_) #[true,true,true,true,true,true,true,true,true,false] rfl rfl (by kernel_rfl) (fun _ _ _ h=>h) (Or.inl ⟨by rfl,?_⟩) ?_ ?_
  rotate_left
  ·intro w'
   go_simp
   with_reducible rfl
  rotate_left
  ·simp only [Act.put,List.setIfInBounds_toArray,List.set_cons_zero,List.set_cons_succ,Ib,Jb]
   rfl
  refine WQ (i:=9) (N:=none) #[true,true,true,true,true,true,true,true,true,true] rfl rfl (by kernel_rfl) (by decide) (fun K hK=>?_)
  obtain ⟨c3,P1,R1,mQ,eU⟩:=Kd.ah HK.out.2.2 yV (Wf x) hm h3
  obtain rfl:=RB (Kd.K_of_M _ R1)
  have hs0:w3.cell? ⟨g,(Wf x).toNat * 2,none⟩=some (.int .i64 (xs.getD (Wf x).toNat yV).f0):=mQ 0 _ rfl
  have hs1:w3.cell? ⟨g,(Wf x).toNat * 2 + 1,none⟩=some (.int .i64 (xs.getD (Wf x).toNat yV).f1):=mQ 1 _ rfl
  have hf0:w3.frozen? ⟨g,(Wf x).toNat * 2,none⟩=false:=eU 0
  have hf1:w3.frozen? ⟨g,(Wf x).toNat * 2 + 1,none⟩=false:=eU 1
  have bah:=ja.mk (Kd.Pn HK.out.2.2 (Wf x) hm h3 P1 mQ (seg:=[.int .i64 (ym xs nx x).1.f0,.int .i64 (ym xs nx x).1.f1]) (j:=0) (show 0 + 2 ≤ 2 from by decide) (x':=(ym xs nx x).1) (vp:=fun _=>False) (PE _ _ _ _) (fun _ hk=>hk.elim)).1
  have hneg:kb ≠ g:=fun e=>Kd.Ly HK.out.2.2 HK.out.2.1 (by decide) (by rw [e];rfl)
  have hBg:B ≤ g:=by
   obtain ⟨inner,hi⟩:=Kd.Ky HK.out.2.2
   exact uq hi g rfl
  clear P1 R1 mQ eU
  refine NB (w1:=?_) (by rfl) rfl ?_ ?_
  rotate_left
  ·go_simp
   rfl
  refine hK.out _ _ ?_
  clear hK K
  refine wm (by kernel_rfl) ?_
  go_wp2
  refine bodyPost_end (v:=.tuple #[]) ?_ rfl ?_
  ·kernel_rfl
  exact ⟨rfl,⟨_,HK.out.1,jd (p:=⟨g,(Wf x).toNat * 2 + 1,none⟩) (jd (p:=⟨g,(Wf x).toNat * 2,none⟩) HK.out.2.1 hneg _) hneg _,bah.out⟩,(HB.out.setCell hBg _).setCell hBg _,Kept.setCell (p:=⟨g,(Wf x).toNat * 2 + 1,none⟩) (Kept.setCell (p:=⟨g,(Wf x).toNat * 2,none⟩) mV.out (Or.inl HGT.out) _) (Or.inl HGT.out) _⟩
 ·rw [if_neg hm]
  have hmb:decide (Wf x ≥ 0)=false:=decide_eq_false hm
  clear hm
  go_enter Try.func60,Try.ntmps60
  go_upto_region 1 with (fail)
  rw [← HW.out]
  clear HW
  go_wp2_with (first|(go_at_call 91;(with_reducible refine (wz x _).mono ?_);rintro e w1 ⟨rfl,hb⟩;have Qy:=ja.mk hb;clear hb))
  refine bodyPost_end (v:=.tuple #[]) ?_ rfl ?_
  ·kernel_rfl
  exact ⟨rfl,⟨_,HK.out.below Qy.out⟩,HB.out.trans (Qy.out.mono (Nat.le_trans iU HB.out.size)),mV.out.below Qy.out⟩
theorem MB (hk:KS W B kb xs nx) (hn0:0 ≤ nx) (aJ:nx ≤ 1000000000) (x:Bf) (h1:x.f0=1→0 ≤ x.f2∧x.f2 < xs.length) (h2:x.f0=2→(0 ≤ x.f2∧x.f2 < xs.length)∧(0 ≤ x.f3∧x.f3 < xs.length)) (h3:Wf x < xs.length) :
  Calls Try.prog 60 #[.pointer (some ⟨kb,0,none⟩),.agg #[.int .i64 x.f0,.int .i64 x.f1,.int .i64 x.f2,.int .i64 x.f3,.int .i64 x.f4,.int .i64 x.f5,.string x.f6]] W fun e w'=>e = .returned (.tuple #[])∧KS w' B kb (tj xs nx x).1 (tj xs nx x).2∧Below B W w' :=
 (nI hk hn0 aJ x h1 h2 h3).mono fun _ _ ⟨a,b,c,_⟩=>⟨a,b,c⟩
end
end Go.Proofs.Ytmifdccaajngcaa.P
end
section
namespace Go.Proofs.Ytmifdccaajngcaa.P
open Go.RowKit Go.Proofs.Na.mc Go.Proofs.Na.jf Go.Proofs.Na.xg
set_option linter.unusedVariables false
set_option linter.unusedSimpArgs false
def Aq (s:Int) (x:Bf):Bool:=(!(x.f0 == 1) || Pj s x.f2) && (!(x.f0 == 2) || (Pj s x.f2 && Pj s x.f3)) && decide (Wf x < s)
def yq (s:Int) (code:List Bf):Bool:=decide (0 ≤ s) && decide (s ≤ 1000) && decide (code.length ≤ 1048576) && code.all (Aq s)
def Zg (xs:List dm) (nx:Int) (code:List Bf):List dm × Int:=code.foldl (fun p x=>tj p.1 p.2 x) (xs,nx)
theorem sI (xs:List dm) (nx:Int) (x:Bf):nx ≤ (ym xs nx x).2∧(ym xs nx x).2 ≤ nx + 1:=by
 unfold ym
 repeat' split
 all_goals simp only
 all_goals omega
theorem wD (xs:List dm) (nx:Int) (x:Bf):nx ≤ (tj xs nx x).2∧(tj xs nx x).2 ≤ nx + 1∧(tj xs nx x).1.length=xs.length:=by
 unfold tj
 have:=sI xs nx x
 split
 ·exact ⟨this.1,this.2,List.length_set⟩
 ·exact ⟨Int.le_refl _,by simp only;omega,rfl⟩
theorem En (code:List Bf):∀ (xs:List dm) (nx:Int),nx ≤ (Zg xs nx code).2∧(Zg xs nx code).2 ≤ nx + code.length∧(Zg xs nx code).1.length=xs.length:=by
 induction code with
 | nil=>intro xs nx;simp [Zg]
 | cons x l ih =>
  intro xs nx
  have h:=ih (tj xs nx x).1 (tj xs nx x).2
  have h2:=wD xs nx x
  have e:Zg xs nx (x :: l)=Zg (tj xs nx x).1 (tj xs nx x).2 l:=rfl
  rw [e,List.length_cons]
  omega
theorem Hs (code:List Bf) (xs:List dm) (nx:Int) (i:Nat) (h:i < code.length):Zg xs nx (code.take (i + 1))=tj (Zg xs nx (code.take i)).1 (Zg xs nx (code.take i)).2 code[i]:=by
 unfold Zg
 rw [List.take_succ_eq_append_getElem h,List.foldl_append]
 rfl
def Kk.f (k:Nat) (Ta:List Int) (Ma:Int) (Oa:Int) (Pa:Int) (Sa:List (gh)) (a1:Int):Option Int :=
 (zb.f k Ta Ma Oa Pa Sa).bind fun t =>
  if t=true then
   if Qj a1 0 ((Sa.length:Int) - 1)=true then
    if yq Pa (Xa Sa a1).f0=true then some ((Zg (idents Pa.toNat) Pa (Xa Sa a1).f0).2 - Pa) else none
   else some (-1)
  else some (-1)
theorem Kk.mono:∀ a0 a1 a2 a3 a4 a5 k,Lb (Kk.f k a0 a1 a2 a3 a4 a5) (Kk.f (k + 1) a0 a1 a2 a3 a4 a5):=by
 intro a0 a1 a2 a3 a4 a5 k
 unfold Kk.f
 repeat' first
   | (with_reducible exact zb.mono _ _ _ _ _ _)
   | (with_reducible exact Lb.refl _)
   | (with_reducible exact Lb.none _)
   | (with_reducible apply Lb.bind)
   | split
   | (intro _)
theorem bt {s:Int} {x:Bf} {n:Nat} (hn:s=(n:Int)) (h:Aq s x=true):(x.f0=1→0 ≤ x.f2∧x.f2 < (n:Int))∧(x.f0=2→(0 ≤ x.f2∧x.f2 < (n:Int))∧(0 ≤ x.f3∧x.f3 < (n:Int)))∧Wf x < (n:Int):=by
 subst hn
 unfold Aq Pj at h
 simp only [Bool.and_eq_true,Bool.or_eq_true,Bool.not_eq_true',beq_eq_false_iff_ne,decide_eq_true_eq] at h
 obtain ⟨⟨h1,h2⟩,h3⟩:=h
 exact ⟨fun e=>h1.resolve_left (fun hne=>hne e),fun e=>h2.resolve_left (fun hne=>hne e),h3⟩
set_option maxHeartbeats 2000000 in
set_option maxRecDepth 100000 in
theorem Kk.calls (k:Nat) (Cb:Option Addr) (Bb:Nat) (Ta:List Int) (Ma:Int) (Oa:Int) (Pa:Int) (yc:Option Addr) (Xb:Nat) (Sa:List (gh)) (a1:Int) (r:Int) (w:World) (Rf:Kd.C (Kd.int .i64) w Cb Ta.length Ta) (Pf:Ta.length ≤ Bb) (Bg:Kd.C Wo w yc Sa.length Sa) (Eg:Sa.length ≤ Xb) (h:Kk.f k Ta Ma Oa Pa Sa a1=some r) :
  Calls Try.prog 16 #[.agg #[.slice Cb Ta.length Bb,.int .i64 Ma,.int .i64 Oa,.int .i64 Pa,.slice yc Sa.length Xb],.int .i64 a1] w fun e w'=>e = .returned (.int .i64 r)∧Below w.heap.size w w':=by
 unfold Kk.f at h
 obtain ⟨t,ht,h⟩:=Option.bind_eq_some_iff.mp h
 have HT:=ja.mk ht
 have hm4:=Bg.2.1
 obtain ⟨W1,hW1⟩:∃ W1,W1=w.alloc (.cells #[.slice Cb Ta.length Bb,.int .i64 Ma,.int .i64 Oa,.int .i64 Pa,.slice yc Sa.length Xb] 30 (0,0)):=⟨_,rfl⟩
 have HW:=ja.mk hW1
 have Hr:Below w.heap.size w W1:=by rw [hW1];exact qa (Below.refl _ _) _
 have Rj:W1.heap[w.heap.size]? = some (.cells #[.slice Cb Ta.length Bb,.int .i64 Ma,.int .i64 Oa,.int .i64 Pa,.slice yc Sa.length Xb] 30 (0,0)):=by rw [hW1];exact wh _ _
 have HB:=ja.mk Hr
 have HX:=ja.mk Rj
 have dw:=ja.mk Rf
 have WC:=ja.mk Bg
 have fI:=ja.mk Pf
 have eI:=ja.mk Eg
 have hx0:=(ga Rj 0).trans rfl
 have hx1:=(ga Rj 1).trans rfl
 have Oq:=(ga Rj 2).trans rfl
 have Nq:=(ga Rj 3).trans rfl
 have rq:=(ga Rj 4).trans rfl
 clear hW1 Hr Rj Rf Bg ht Pf Eg
 have HH:=ja.mk h
 clear h
 cases t with
 | false =>
  have h:=HH.out
  rw [if_neg (by simp)] at h
  cases h
  go_enter Try.func16,Try.ntmps16
  go_upto_region 1 with (fail)
  rw [← HW.out]
  clear HW
  go_wp2_with (first|(go_at_call 57;(with_reducible refine (zb.calls k Cb Bb Ta Ma Oa Pa yc Xb Sa false W1 (Kd.Mb dw.out HB.out) fI.out (Kd.Mb WC.out HB.out) eI.out HT.out).mono ?_);rintro e w2 ⟨rfl,hb⟩;have Ro:=ja.mk (Qa HB.out hb);clear hb))
  all_goals
   go_ret
   exact ⟨rfl,Ro.out⟩
 | true =>
  have h:=HH.out
  rw [if_pos rfl] at h
  cases hb:Qj a1 0 ((Sa.length:Int) - 1) with
  | false =>
   rw [hb,if_neg (by simp)] at h
   cases h
   go_enter Try.func16,Try.ntmps16
   go_upto_region 1 with (fail)
   rw [← HW.out]
   clear HW
   go_wp2_with (first|(go_at_call 57;(with_reducible refine (zb.calls k Cb Bb Ta Ma Oa Pa yc Xb Sa true W1 (Kd.Mb dw.out HB.out) fI.out (Kd.Mb WC.out HB.out) eI.out HT.out).mono ?_);rintro e w2 ⟨rfl,hb⟩;have Ro:=ja.mk (Qa HB.out hb);have rq:=(ga (gb HX.out hb) 4).trans rfl;clear hb)|(go_at_call 58;(with_reducible refine (Ri _ _ _ _).mono ?_);rintro e w3 ⟨rfl,⟨n2,rfl⟩⟩))
   all_goals
    go_ret
    exact ⟨rfl,ia Ro.out _⟩
  | true =>
   rw [hb,if_pos rfl] at h
   by_cases hok:yq Pa (Xa Sa a1).f0=true
   ·rw [if_pos hok] at h
    have hr:=Option.some.inj h
    unfold yq at hok
    simp only [Bool.and_eq_true,decide_eq_true_eq,List.all_eq_true] at hok
    obtain ⟨⟨⟨hs0,hs1⟩,CH⟩,hall⟩:=hok
    obtain ⟨n,rfl⟩:∃ n:Nat,Pa=(n:Int):=⟨Pa.toNat,by omega⟩
    rw [Int.toNat_natCast] at hr
    have HR:=ja.mk hr
    have HA:=ja.mk hall
    have hq:0 ≤ a1∧a1 < (Sa.length:Int):=by simp [Qj] at hb;omega
    obtain ⟨q1,q2⟩:=hq
    clear h hr hall
    go_enter Try.func16,Try.ntmps16
    go_upto_region 1 with (fail)
    rw [← HW.out]
    clear HW
    go_upto_region 4 with (first|(go_at_call 57;(with_reducible refine (zb.calls k Cb Bb Ta Ma Oa (n:Int) yc Xb Sa true W1 (Kd.Mb dw.out HB.out) fI.out (Kd.Mb WC.out HB.out) eI.out HT.out).mono ?_);rintro e w2 ⟨rfl,gy⟩;have Ro:=ja.mk (Qa HB.out gy);have QC:=ja.mk (gb HX.out gy);have hy0:=(ga QC.out 0).trans rfl;have hy1:=(ga QC.out 1).trans rfl;have hy2:=(ga QC.out 2).trans rfl;have hy3:=(ga QC.out 3).trans rfl;have D7:=(ga QC.out 4).trans rfl;clear gy)|(go_at_call 58;(with_reducible refine (Ri _ _ _ _).mono ?_);rintro e w3 ⟨rfl,⟨n2,rfl⟩⟩)|(go_at_call 59;(with_reducible refine (xq Cb yc Bb Xb Ta.length Sa.length Ma Oa n (by omega) _).mono ?_);rintro e w4 ⟨kb,rfl,hks,gy⟩;have Kx:=ja.mk (Qa (ia Ro.out n2) gy);have BQ:=ja.mk (gb (Da QC.out n2) gy);have GV:=ja.mk hks;have HS4:=ja.mk (Lc QC.out);clear hks gy hy0 hy1 hy2 hy3 D7))
    have hz4:=(ga BQ.out 4).trans rfl
    obtain ⟨ad,A5,c5,e1,hb0,_,_,_,_,S1,hU⟩:=cg WC.out a1 q1 q2
    cases e1
    have MV:=ja.mk hU
    have N7:=hU.2.1
    replace hb0:=(Kx.out.cell (World.block_lt_of_cell? w _ hb0)).trans hb0
    clear hU
    generalize (Xa Sa a1).f0=code at hb0 MV S1 N7 HR HA CH
    go_wp2
    go_loopg [29] code.length (fun gg v29 wr=>∃ j:Nat,j ≤ code.length∧code.length - j ≤ gg∧v29 = .int .i64 j∧ja (KS wr w2.heap.size kb (Zg (idents n) (n:Int) (code.take j)).1 (Zg (idents n) (n:Int) (code.take j)).2)∧ja (Below w.heap.size w wr)∧ja (wr.heap[w.heap.size]? = some (.cells #[.slice Cb Ta.length Bb,.int .i64 Ma,.int .i64 Oa,.int .i64 n,.slice (some ad) Sa.length Xb] 30 (0,0))))
    case atStart=>exact ⟨0,Nat.zero_le _,by omega,rfl,⟨GV.out⟩,Kx,BQ⟩
    case round =>
     clear GV Kx BQ hz4 hb0 hx0 hx1 Oq Nq rq
     (try clear HK)
     (try clear HB)
     (try clear HX)
     obtain ⟨j,hj,hg,rfl,HK,HB,HX⟩:=hrel
     obtain ⟨b1,b2,b3⟩:=En (code.take j) (idents n) (n:Int)
     rw [jh] at b3
     have hjl:(code.take j).length ≤ code.length:=by rw [List.length_take];omega
     by_cases hlt:j < code.length
     ·have p1:0 ≤ (j:Int):=by omega
      have p2:(j:Int) < (code.length:Int):=by omega
      have BD:decide ((j:Int) < (code.length:Int))=true:=decide_eq_true p2
      obtain ⟨ad7,e2,y0,y1,y2,y3,y4,y5,y6⟩:=tf (Kd.Mb MV.out HB.out) (j:Int) p1 p2
      cases e2
      have hx:Ja code (j:Int)=code[j]:=by simp [Ja,List.getD_eq_getElem?_getD,hlt]
      have HI:=ja.mk (bt rfl (HA.out _ (List.getElem_mem hlt)))
      rw [hx] at y0 y1 y2 y3 y4 y5 y6
      have I5:=ja.mk (fun (W3:World) (oX:KS W3 w2.heap.size kb (Zg (idents n) (n:Int) (code.take j)).1 (Zg (idents n) (n:Int) (code.take j)).2)=>MB oX (by omega) (by omega) code[j] (by rw [b3];exact HI.out.1) (by rw [b3];exact HI.out.2.1) (by rw [b3];exact HI.out.2.2))
      rw [← Hs code (idents n) (n:Int) j hlt] at I5
      simp only [Int.toNat_natCast] at y0 y1 y2 y3 y4 y5 y6
      clear hx b1 b2 b3 hjl
      go_wp2_with (first|(go_at_call 60;(with_reducible refine (I5.out _ (HK.out.alloc _)).mono ?_);rintro e w5 ⟨rfl,hks,gy⟩;have HK5:=ja.mk hks;have XI:=ja.mk ((qa HB.out _).trans (gy.mono (Nat.le_of_lt HS4.out)));have HX5:=ja.mk ((gy.block _ HS4.out).trans (Ca HX.out _));clear hks gy))
      go_roundg (code.length - (j + 1))
      case measure=>omega
      case rel=>exact ⟨j + 1,by omega,by omega,by go_num,HK5,XI,HX5⟩
     ·have BD:decide ((j:Int) < (code.length:Int))=false:=decide_eq_false (by omega)
      obtain rfl:j=code.length:=by omega
      rw [List.take_length] at HK b1 b2
      obtain ⟨v,hk1,hk2,oX⟩:=HK.out
      have VL:=(ga hk2 1).trans rfl
      have VC:=(ga HX.out 3).trans rfl
      clear HK hk1 hk2 oX
      go_wp2
      go_quiet (fail)
      go_wp2
      go_ret
      refine ⟨?_,ia HB.out _⟩
      rw [← HR.out]
      congr 2
   ·rw [if_neg hok] at h
    cases h
theorem Ev.pos {α:Type} {c:Prop} [Decidable c] {f g:Nat→Option α} {r:α} (h:c) (k:Ev f r):Ev (fun n=>if c then f n else g n) r:=Ev.congr (fun n=>if_pos h) k
theorem Ev.neg {α:Type} {c:Prop} [Decidable c] {f g:Nat→Option α} {r:α} (h:¬ c) (k:Ev g r):Ev (fun n=>if c then f n else g n) r:=Ev.congr (fun n=>if_neg h) k
theorem Ev.val {α β:Type} {a:α} {f:Nat→α→Option β} {r:β} (k:Ev (fun n=>f n a) r):Ev (fun n=>(some a).bind (f n)) r:=Ev.congr (fun n=>rfl) k
theorem Ev.here {α:Type} {o:Option α} {r:α} (h:o=some r):Ev (fun _=>o) r:=Ev.congr (fun n=>h) (Ev.now r)
theorem Ig {x:Int} (h:-9223372036854775808 ≤ x) (h':x ≤ 9223372036854775807):wrap64 x=x:=by
 unfold wrap64
 omega
theorem ng {i n:Nat} (h:i < n) (hn:n ≤ 9223372036854775807):wrap64 ((i:Int) + 1)=((i + 1:Nat):Int):=by
 rw [Ig (by omega) (by omega)]
 omega
theorem Hi {ρ:Type} {n:Nat} {r:ρ} (P:Nat→Prop) (hend:P n) (hstep:∀ i,i < n→P (i + 1)→P i):∀ i,i ≤ n→P i:=by
 have key:∀ d i,i + d=n→P i:=by
  intro d
  induction d with
  | zero =>
   intro i hi
   have:i=n:=by omega
   exact this ▸ hend
  | succ d ih =>
   intro i hi
   exact hstep i (by omega) (ih (i + 1) (by omega))
 intro i hi
 exact key (n - i) i (by omega)
theorem ry {α:Type} {m:List α} {z:α} {i:Nat} (h:i < m.length):(m.take i ++ List.replicate (m.length - i) z).set i (m.getD i z)=m.take (i + 1) ++ List.replicate (m.length - (i + 1)) z:=by
 rw [List.set_append_right _ _ (by rw [List.length_take];omega),List.length_take,Nat.min_eq_left (by omega),Nat.sub_self]
 rw [show m.length - i=(m.length - (i + 1)) + 1 from by omega,List.replicate_succ,List.set_cons_zero,List.take_succ_eq_append_getElem h,List.append_assoc]
 simp [List.getD_eq_getElem?_getD,List.getElem?_eq_getElem h]
theorem Cz {α:Type} {m:List α} {z:α}:m.take 0 ++ List.replicate (m.length - 0) z=List.replicate m.length z:=by simp
theorem sy {α:Type} {m:List α} {z:α}:m.take m.length ++ List.replicate (m.length - m.length) z=m:=by simp
theorem mJ (l:List Int) (i:Nat):rd l (i:Int)=l.getD i 0:=rfl
def iota (m:Int) (n:Nat):List Int:=(List.range n).map fun (j:Nat)=>m + (j:Int)
theorem Kj (m:Int) (n:Nat):(iota m n).length=n:=by simp [iota]
theorem yz {m:Int} {n i:Nat} (h:i < n):(iota m n).getD i 0=m + i:=by simp [iota,List.getD_eq_getElem?_getD,h]
theorem OB {α:Type} {m l:List α} {z:α} {i:Nat} (hl:l.length=m.length) (h:i < m.length):(m.take i ++ l.drop i).set i (m.getD i z)=m.take (i + 1) ++ l.drop (i + 1):=by
 rw [List.set_append_right _ _ (by rw [List.length_take];omega),List.length_take,Nat.min_eq_left (by omega),Nat.sub_self]
 rw [List.drop_eq_getElem_cons (by omega),List.set_cons_zero,List.take_succ_eq_append_getElem h,List.append_assoc]
 simp [List.getD_eq_getElem?_getD,List.getElem?_eq_getElem h]
theorem WB (a b c:Int):Hh.f a b c=some (Qj a b c):=by
 unfold Hh.f Qj
 by_cases h:a ≥ b
 ·rw [if_pos h]
  have h':b ≤ a:=h
  simp [h']
 ·rw [if_neg h]
  have h':¬ b ≤ a:=h
  simp [h']
theorem NI (l:List Int) (hl:l.length ≤ 35184372088832):Ev (fun k=>Rd.f k l) l:=by
 refine Ev.congr (f:=fun k=>Rd.l0 k l (List.replicate l.length 0) 0) (fun k=>?_) ?_
 ·unfold Rd.f
  rw [if_pos (by omega),if_pos (by omega)]
  rfl
 ·have key:=Hi (r:=l) (n:=l.length) (fun i=>Ev (fun k=>Rd.l0 k l (l.take i ++ List.replicate (l.length - i) 0) (i:Int)) l) ?_ ?_ 0 (by omega)
  ·simpa using key
  ·refine Ev.step (fun k=>by rw [Rd.l0]) ?_
   refine Ev.neg (by omega) ?_
   rw [sy]
   exact Ev.now l
  ·intro i hi h
   refine Ev.step (fun k=>by rw [Rd.l0]) ?_
   refine Ev.pos (by omega) (Ev.pos (by omega) (Ev.pos (by simp;omega) ?_))
   rw [ng hi (by omega),mJ,Int.toNat_natCast,ry hi]
   exact h
theorem Ez (l:List Int) (hl:l.length ≤ 9223372036854775807):Ev (fun k=>Yc.f k l l) true:=by
 refine Ev.congr (f:=fun k=>Yc.l0 k l l 0) (fun k=>?_) ?_
 ·unfold Yc.f
  rw [if_pos rfl]
 ·refine Hi (r:=true) (n:=l.length) (fun i=>Ev (fun k=>Yc.l0 k l l (i:Int)) true) ?_ ?_ 0 (by omega)
  ·refine Ev.step (fun k=>by rw [Yc.l0]) ?_
   exact Ev.neg (by omega) (Ev.now _)
  ·intro i hi h
   refine Ev.step (fun k=>by rw [Yc.l0]) ?_
   refine Ev.pos (by omega) (Ev.pos (by omega) (Ev.pos (by omega) (Ev.pos rfl ?_)))
   rw [ng hi hl]
   exact h
theorem kM (l:List Int) (a:Int) (ha:0 ≤ a) (ha':a ≤ 1048576) (hl:l.length ≤ 9223372036854775807):∃ t,ni.f l a=some t∧t ≤ a∧(0 ≤ t→t + l.length=a):=by
 unfold ni.f
 rw [Ig (by omega) (by omega)]
 split
 ·exact ⟨-1,rfl,by omega,by omega⟩
 ·exact ⟨_,rfl,by omega,by omega⟩
def Nl (x:gm):Bf:=⟨x.f0,x.f1,x.f2,x.f3,x.f4,x.f5,x.f6⟩
theorem sC (l:List gm) (hl:l.length ≤ 4398046511104):Ev (fun k=>Tc.f k l) (l.map Nl):=by
 refine Ev.congr (f:=fun k=>Tc.l0 k l (List.replicate l.length Fq) 0) (fun k=>?_) ?_
 ·unfold Tc.f
  rw [if_pos (by omega),if_pos (by omega)]
  rfl
 ·have key:=Hi (r:=l.map Nl) (n:=l.length) (fun i=>Ev (fun k=>Tc.l0 k l ((l.map Nl).take i ++ List.replicate ((l.map Nl).length - i) Fq) (i:Int)) (l.map Nl)) ?_ ?_ 0 (by omega)
  ·rw [Cz,List.length_map] at key
   exact key
  ·refine Ev.step (fun k=>by rw [Tc.l0]) ?_
   refine Ev.neg (by omega) ?_
   have e:=sy (m:=l.map Nl) (z:=Fq)
   rw [List.length_map] at e
   rw [List.length_map,e]
   exact Ev.now _
  ·intro i hi h
   refine Ev.step (fun k=>by rw [Tc.l0]) ?_
   refine Ev.pos (by omega) (Ev.pos (by omega) ?_)
   unfold Sk.f
   refine Ev.val (Ev.pos (by simp;omega) ?_)
   have hc:Nl (xd l (i:Int))=(l.map Nl).getD i Fq:=by
    simp [xd,List.getD_eq_getElem?_getD,hi]
   have hf:=ry (m:=l.map Nl) (z:=Fq) (i:=i) (by rw [List.length_map];exact hi)
   rw [← hc] at hf
   rw [ng hi (by omega),Int.toNat_natCast]
   have e:=hf ▸ h
   exact e
theorem yC (l:List Bf) (hl:l.length ≤ 9223372036854775807):Ev (fun k=>Nb.f k l l) true:=by
 refine Ev.congr (f:=fun k=>Nb.l0 k l l 0) (fun k=>?_) ?_
 ·unfold Nb.f
  rw [if_pos rfl]
 ·refine Hi (r:=true) (n:=l.length) (fun i=>Ev (fun k=>Nb.l0 k l l (i:Int)) true) ?_ ?_ 0 (by omega)
  ·refine Ev.step (fun k=>by rw [Nb.l0]) ?_
   exact Ev.neg (by omega) (Ev.now _)
  ·intro i hi h
   refine Ev.step (fun k=>by rw [Nb.l0]) ?_
   refine Ev.pos (by omega) (Ev.pos (by omega) (Ev.pos (by omega) ?_))
   unfold Oj.f
   simp only [if_true]
   refine Ev.val (Ev.pos rfl ?_)
   rw [ng hi hl]
   exact h
def Nu (l:List gm):Nat:=(l.map fun x=>x.f6.size).sum
def mI (l:List gm):Nat:=l.length + Nu l
def MS (l:List Lk):Nat:=l.length + (l.map fun x=>mI x.f0).sum
theorem Yr {l:List gm} {i:Nat} (h:i < l.length):xd l (i:Int)=l[i]:=by simp [xd,List.getD_eq_getElem?_getD,h]
theorem Ao {l:List Lk} {i:Nat} (h:i < l.length):Ae l (i:Int)=l[i]:=by simp [Ae,List.getD_eq_getElem?_getD,h]
theorem uC (l:List gm) (a:Int) (ha:0 ≤ a) (ha':a ≤ 1048576) (hl:l.length ≤ 9223372036854775807) (ht:∀ x ∈ l,x.f6.size ≤ 9223372036854775807) :
  ∃ t,Ev (fun k=>Wc.f k l a) t∧t ≤ a∧(0 ≤ t→t + mI l=a):=by
 have key:=Hi (ρ:=Unit) (r:=()) (n:=l.length) (fun i=>∀ a:Int,0 ≤ a→a ≤ 1048576→∃ t,Ev (fun k=>Wc.l0 k l a (i:Int)) t∧t ≤ a∧(0 ≤ t→t + Nu (l.drop i)=a)) ?_ ?_ 0 (by omega)
 ·unfold Wc.f
  rw [Ig (by omega) (by omega)]
  by_cases h:a - (l.length:Int) < 0
  ·exact ⟨-1,Ev.pos h (Ev.now _),by omega,by omega⟩
  ·obtain ⟨t,e1,e2,e3⟩:=key (a - l.length) (by omega) (by omega)
   refine ⟨t,Ev.neg h e1,by omega,fun h0=>?_⟩
   have:=e3 h0
   rw [List.drop_zero] at this
   unfold mI
   omega
 ·intro a h0 h1
  refine ⟨a,?_,by omega,?_⟩
  ·refine Ev.step (fun k=>by rw [Wc.l0]) ?_
   exact Ev.neg (by omega) (Ev.now _)
  ·intro _
   rw [List.drop_length]
   simp [Nu]
 ·intro i hi ih a h0 h1
  have hx:=ht l[i] (List.getElem_mem hi)
  have hd:Nu (l.drop i)=l[i].f6.size + Nu (l.drop (i + 1)):=by
   rw [List.drop_eq_getElem_cons hi]
   simp only [Nu,List.map_cons,List.sum_cons]
  by_cases h:a - (l[i].f6.size:Int) < 0
  ·refine ⟨-1,?_,by omega,by omega⟩
   refine Ev.step (fun k=>by rw [Wc.l0]) ?_
   refine Ev.pos (by omega) (Ev.pos (by omega) ?_)
   rw [Yr hi]
   unfold Qi.f
   rw [Ig (by omega) (by omega),if_pos h]
   exact Ev.val (Ev.pos (by decide) (Ev.now _))
  ·obtain ⟨t,e1,e2,e3⟩:=ih (a - l[i].f6.size) (by omega) (by omega)
   refine ⟨t,?_,by omega,fun hh=>by have:=e3 hh;omega⟩
   refine Ev.step (fun k=>by rw [Wc.l0]) ?_
   refine Ev.pos (by omega) (Ev.pos (by omega) ?_)
   rw [Yr hi]
   unfold Qi.f
   rw [Ig (by omega) (by omega),if_neg h]
   refine Ev.val (Ev.neg (by omega) ?_)
   rw [ng hi hl]
   exact e1
theorem vC (l:List Lk) (a:Int) (ha:0 ≤ a) (ha':a ≤ 1048576) (hl:l.length ≤ 9223372036854775807) (ht:∀ x ∈ l,x.f0.length ≤ 9223372036854775807∧∀ y ∈ x.f0,y.f6.size ≤ 9223372036854775807) :
  ∃ t,Ev (fun k=>Uc.f k l a) t∧t ≤ a∧(0 ≤ t→t + MS l=a):=by
 have key:=Hi (ρ:=Unit) (r:=()) (n:=l.length) (fun i=>∀ a:Int,0 ≤ a→a ≤ 1048576→∃ t,Ev (fun k=>Uc.l0 k l a (i:Int)) t∧t ≤ a∧(0 ≤ t→t + ((l.drop i).map fun x=>mI x.f0).sum=a)) ?_ ?_ 0 (by omega)
 ·unfold Uc.f
  rw [Ig (by omega) (by omega)]
  by_cases h:a - (l.length:Int) < 0
  ·exact ⟨-1,Ev.pos h (Ev.now _),by omega,by omega⟩
  ·obtain ⟨t,e1,e2,e3⟩:=key (a - l.length) (by omega) (by omega)
   refine ⟨t,Ev.neg h e1,by omega,fun h0=>?_⟩
   have:=e3 h0
   rw [List.drop_zero] at this
   unfold MS
   omega
 ·intro a h0 h1
  refine ⟨a,?_,by omega,?_⟩
  ·refine Ev.step (fun k=>by rw [Uc.l0]) ?_
   exact Ev.neg (by omega) (Ev.now _)
  ·intro _
   rw [List.drop_length]
   simp
 ·intro i hi ih a h0 h1
  have hx:=ht l[i] (List.getElem_mem hi)
  have hd:((l.drop i).map fun x=>mI x.f0).sum=mI l[i].f0 + ((l.drop (i + 1)).map fun x=>mI x.f0).sum:=by
   rw [List.drop_eq_getElem_cons hi]
   simp only [List.map_cons,List.sum_cons]
  obtain ⟨u,f1,f2,f3⟩:=uC l[i].f0 a h0 h1 hx.1 hx.2
  by_cases h:u < 0
  ·refine ⟨-1,?_,by omega,by omega⟩
   refine Ev.step (fun k=>by rw [Uc.l0]) ?_
   refine Ev.pos (by omega) (Ev.pos (by omega) ?_)
   rw [Ao hi]
   unfold Mf.f
   refine Ev.bind (Ev.bind f1 (Ev.pos h (Ev.now _))) ?_
   exact Ev.pos (by decide) (Ev.now _)
  ·obtain ⟨t,e1,e2,e3⟩:=ih u (by omega) (by omega)
   have:=f3 (by omega)
   refine ⟨t,?_,by omega,fun hh=>by have:=e3 hh;omega⟩
   refine Ev.step (fun k=>by rw [Uc.l0]) ?_
   refine Ev.pos (by omega) (Ev.pos (by omega) ?_)
   rw [Ao hi]
   unfold Mf.f
   refine Ev.bind (Ev.bind f1 (Ev.neg h (Ev.now _))) ?_
   refine Ev.neg (by omega) ?_
   rw [ng hi hl]
   exact e1
theorem Yx {l:List Nat} {n:Nat} (h:n ∈ l):n ≤ l.sum:=by
 induction l with
 | nil=>cases h
 | cons a l ih =>
  rw [List.sum_cons]
  cases h with
  | head=>omega
  | tail _ h=>have:=ih h;omega
theorem LB {l:List Lk} {n:Nat} (h:MS l ≤ n):l.length ≤ n∧∀ x ∈ l,x.f0.length ≤ n:=by
 unfold MS at h
 refine ⟨by omega,fun x hx=>?_⟩
 have:mI x.f0 ≤ (l.map fun x=>mI x.f0).sum:=Yx (List.mem_map.mpr ⟨x,hx,rfl⟩)
 unfold mI at this h
 omega
theorem VD (x0:List Int) (x1 x2 x3:Int) (x4:List Lk) (a:Int) (ha:0 ≤ a) (ha':a ≤ 1048576) (h0:x0.length ≤ 9223372036854775807) (hl:x4.length ≤ 9223372036854775807) (ht:∀ x ∈ x4,x.f0.length ≤ 9223372036854775807∧∀ y ∈ x.f0,y.f6.size ≤ 9223372036854775807) :
  ∃ t,Ev (fun k=>zg.f k x0 x1 x2 x3 x4 a) t∧t ≤ a∧(0 ≤ t→t + x0.length + MS x4=a):=by
 obtain ⟨t,e1,e2,e3⟩:=kM x0 a ha ha' h0
 unfold zg.f
 rw [e1]
 simp only [Option.bind_some]
 by_cases ht':t < 0
 ·exact ⟨-1,Ev.pos ht' (Ev.now _),by omega,by omega⟩
 ·obtain ⟨u,f1,f2,f3⟩:=vC x4 t (by omega) (by omega) hl ht
  by_cases hu:u < 0
  ·exact ⟨-1,Ev.neg ht' (Ev.bind f1 (Ev.pos hu (Ev.now _))),by omega,by omega⟩
  ·exact ⟨u,Ev.neg ht' (Ev.bind f1 (Ev.neg hu (Ev.now _))),by omega,fun _=>by have:=e3 (by omega);have:=f3 (by omega);omega⟩
def yg (x:Lk):gh:=⟨x.f0.map Nl,x.f1,x.f2,x.f3,x.f4⟩
theorem tC (l:List Lk) (hl:l.length ≤ 1048576) (hb:∀ x ∈ l,x.f0.length ≤ 1048576):Ev (fun k=>Mc.f k l) (l.map yg):=by
 refine Ev.congr (f:=fun k=>Mc.l0 k l (List.replicate l.length CB) 0) (fun k=>?_) ?_
 ·unfold Mc.f
  rw [if_pos (by omega),if_pos (by omega)]
  rfl
 ·have key:=Hi (r:=l.map yg) (n:=l.length) (fun i=>Ev (fun k=>Mc.l0 k l ((l.map yg).take i ++ List.replicate ((l.map yg).length - i) CB) (i:Int)) (l.map yg)) ?_ ?_ 0 (by omega)
  ·rw [Cz,List.length_map] at key
   exact key
  ·refine Ev.step (fun k=>by rw [Mc.l0]) ?_
   refine Ev.neg (by omega) ?_
   have e:=sy (m:=l.map yg) (z:=CB)
   rw [List.length_map] at e
   rw [List.length_map,e]
   exact Ev.now _
  ·intro i hi h
   refine Ev.step (fun k=>by rw [Mc.l0]) ?_
   refine Ev.pos (by omega) (Ev.pos (by omega) ?_)
   unfold pg.f
   have hx:=hb l[i] (List.getElem_mem hi)
   rw [Ao hi]
   refine Ev.bind (Ev.bind (sC l[i].f0 (by omega)) (Ev.now _)) ?_
   refine Ev.pos (by simp;omega) ?_
   have hc:yg l[i]=(l.map yg).getD i CB:=by
    simp [List.getD_eq_getElem?_getD,hi]
   have hf:=ry (m:=l.map yg) (z:=CB) (i:=i) (by rw [List.length_map];exact hi)
   rw [← hc] at hf
   rw [ng hi (by omega),Int.toNat_natCast]
   have e:=hf ▸ h
   exact e
theorem Ol {l:List gh} {i:Nat} (h:i < l.length):Xa l (i:Int)=l[i]:=by simp [Xa,List.getD_eq_getElem?_getD,h]
theorem bz {l:List Bf} {i:Nat} (h:i < l.length):Ja l (i:Int)=l[i]:=by simp [Ja,List.getD_eq_getElem?_getD,h]
theorem zC (l:List gh) (hl:l.length ≤ 9223372036854775807) (hb:∀ x ∈ l,x.f0.length ≤ 9223372036854775807):Ev (fun k=>Qb.f k l l) true:=by
 refine Ev.congr (f:=fun k=>Qb.l0 k l l 0) (fun k=>?_) ?_
 ·unfold Qb.f
  rw [if_pos rfl]
 ·refine Hi (r:=true) (n:=l.length) (fun i=>Ev (fun k=>Qb.l0 k l l (i:Int)) true) ?_ ?_ 0 (by omega)
  ·refine Ev.step (fun k=>by rw [Qb.l0]) ?_
   exact Ev.neg (by omega) (Ev.now _)
  ·intro i hi h
   refine Ev.step (fun k=>by rw [Qb.l0]) ?_
   refine Ev.pos (by omega) (Ev.pos (by omega) (Ev.pos (by omega) ?_))
   unfold Yf.f
   rw [Ol hi]
   refine Ev.bind (Ev.bind (yC l[i].f0 (hb _ (List.getElem_mem hi))) (Ev.pos rfl (Ev.pos rfl (Ev.pos rfl (Ev.pos rfl (Ev.pos rfl (Ev.now _))))))) (Ev.pos rfl ?_)
   rw [ng hi hl]
   exact h
theorem UD (x0:List Int) (x1 x2 x3:Int) (x4:List Lk) (h0:x0.length ≤ 1048576) (hl:x4.length ≤ 1048576) (hb:∀ x ∈ x4,x.f0.length ≤ 1048576):Ev (fun k=>Xf.f k x0 x1 x2 x3 x4) (x0,x1,x2,x3,x4.map yg):=by
 unfold Xf.f
 exact Ev.bind (NI x0 (by omega)) (Ev.bind (tC x4 hl hb) (Ev.now _))
theorem YD (x0:List Int) (x1 x2 x3:Int) (x4:List gh) (h0:x0.length ≤ 9223372036854775807) (hl:x4.length ≤ 9223372036854775807) (hb:∀ x ∈ x4,x.f0.length ≤ 9223372036854775807):Ev (fun k=>Jg.f k x0 x1 x2 x3 x4 x0 x1 x2 x3 x4) true:=by
 unfold Jg.f
 refine Ev.bind (Ez x0 h0) ?_
 refine Ev.pos rfl (Ev.pos rfl (Ev.pos rfl (Ev.pos rfl ?_)))
 exact Ev.bind (zC x4 hl hb) (Ev.pos rfl (Ev.now _))
attribute [local go_sem] Hj Fj Rk Qk Li Ki Gj Ej
def Ad.l0:Nat→List ByteArray→ByteArray→Int→Option (Bool)
 | 0,_,_,_=>none
 | k + 1,x0,x1,x5=>if x5 < (x0.length:Int) then (if 0 ≤ x5 then (if (Jk ByteArray.empty x0 x5).toList=x1.toList then (some true) else (Ad.l0 k x0 x1 (wrap64 (x5 + 1)))) else (none)) else (some false)
def Ad.f (k:Nat) (l0:List ByteArray) (a1:ByteArray):Option (Bool):=Ad.l0 k l0 a1 0
theorem Ad.Sd:∀ k,(∀ y0 y1 y2,Lb (Ad.l0 k y0 y1 y2) (Ad.l0 (k + 1) y0 y1 y2))
 | 0=>fun _ _ _ r h=>by simp [Ad.l0] at h
 | k + 1=>by
  have Ff:=Ad.Sd k
  ·intro y0 y1 y2
   unfold Ad.l0
   repeat' first
   | (with_reducible exact Ff _ _ _)
   | (with_reducible exact Lb.refl _)
   | (with_reducible exact Lb.none _)
   | (with_reducible refine Lb.ite ?_ ?_)
   | (with_reducible refine Lb.bind ?_ (fun _=>?_))
   | exact Ff _ _ _
   | exact Lb.none _
   | refine Lb.ite ?_ ?_
   | refine Lb.bind ?_ (fun _=>?_)
theorem Ad.mono:∀ a0 a1 k,Lb (Ad.f k a0 a1) (Ad.f (k + 1) a0 a1):=by
 intro a0 a1 k
 have Ff:=Ad.Sd k
 unfold Ad.f
 repeat' first
   | (with_reducible exact Ff _ _ _)
   | (with_reducible exact Lb.refl _)
   | (with_reducible exact Lb.none _)
   | (with_reducible refine Lb.ite ?_ ?_)
   | (with_reducible refine Lb.bind ?_ (fun _=>?_))
   | exact Ff _ _ _
   | exact Lb.none _
   | refine Lb.ite ?_ ?_
   | refine Lb.bind ?_ (fun _=>?_)
set_option maxHeartbeats 8000000 in
set_option maxRecDepth 100000 in
theorem Ad.calls (k:Nat) (A0:Option Addr) (c0:Nat) (l0:List ByteArray) (a1:ByteArray) (r:Bool) (w:World) (hr0:Kd.C Kd.string w A0 l0.length l0) (hc0:l0.length ≤ c0) (h:Ad.f k l0 a1=some r) :
  Calls Try.prog 128 #[.slice A0 l0.length c0,.string a1] w fun e w'=>e = .returned (.bool r)∧uc w w':=by
 have Gh:=ja.mk hr0
 have dw:=ja.mk hc0
 clear hr0 hc0
 have H:(Ad.l0 k l0 a1 0)=some r:=h
 clear h
 have H':=ja.mk H
 clear H
 go_enter Try.func128,Try.ntmps128
 go_wp2
 go_loopg [5] k (fun kq v5 w'=>∃ (Ia:Int),v5 = .int .i64 Ia∧ja (Ad.l0 kq l0 a1 Ia=some r)∧ja (kq ≤ k)∧uc w w')
 case atStart=>exact ⟨(0),(by first|rfl|(simp;done)|(simp [*];done)),H',⟨Nat.le_refl _⟩,by repeat (first|exact uc.refl _|apply uc.step)⟩
 case round =>
  clear H'
  try clear c1
  try clear p2
  (try clear HA)
  (try clear Yg)
  obtain ⟨Ia,rfl,HA,Yg,⟨m1,rfl⟩⟩:=hrel
  cases gk with
  | zero=>exact absurd HA.out (by simp [Ad.l0])
  | succ k1 =>
   have H:=HA.out
   clear HA
   simp only [Ad.l0] at H
   by_cases c3:Ia < (l0.length:Int)
   ·rw [if_pos c3] at H
    have Zh:decide (Ia < (l0.length:Int))=true:=decide_eq_true c3
    clear c3
    by_cases c4:0 ≤ Ia
    ·rw [if_pos c4] at H
     have Gi:decide (0 ≤ Ia)=true:=decide_eq_true c4
     clear c4
     by_cases c5:(Jk ByteArray.empty l0 Ia).toList=a1.toList
     ·rw [if_pos c5] at H
      have Il:((Jk ByteArray.empty l0 Ia).toList == a1.toList)=true:=beq_iff_eq.mpr c5
      have Bq:((Jk ByteArray.empty l0 Ia).toList != a1.toList)=false:=bne_eq_false_iff_eq.mpr c5
      clear c5
      obtain rfl:=Option.some.inj H
      have Je:0 ≤ (Ia:Int):=of_decide_eq_true (by first|(with_reducible assumption)|assumption)
      have Ie:Ia < (l0.length:Int):=of_decide_eq_true (by first|(with_reducible assumption)|assumption)
      obtain ⟨Gc,Tg,Ub⟩:=Kd.Jr Gh.out Ia Je Ie
      cases Tg
      replace Je:=eq_true Je
      replace Ie:=eq_true Ie
      go_wp2
      go_ret
      exact ⟨by first|rfl|(simp;done)|(simp [*];done),by repeat (first|exact uc.refl _|apply uc.step)⟩
     ·rw [if_neg c5] at H
      have Il:((Jk ByteArray.empty l0 Ia).toList == a1.toList)=false:=beq_eq_false_iff_ne.mpr c5
      have Bq:((Jk ByteArray.empty l0 Ia).toList != a1.toList)=true:=bne_iff_ne.mpr c5
      have H':=ja.mk H
      clear H
      have Je:0 ≤ (Ia:Int):=of_decide_eq_true (by first|(with_reducible assumption)|assumption)
      have Ie:Ia < (l0.length:Int):=of_decide_eq_true (by first|(with_reducible assumption)|assumption)
      obtain ⟨Gc,Tg,Ub⟩:=Kd.Jr Gh.out Ia Je Ie
      cases Tg
      replace Je:=eq_true Je
      replace Ie:=eq_true Ie
      go_wp2
      go_roundg k1
      case measure=>have:=Yg.out;omega
      case rel=>exact ⟨(wrap64 (Ia + 1)),(by first|rfl|(simp;done)|(simp [*];done)),H',⟨by have:=Yg.out;omega⟩,by repeat (first|exact uc.refl _|apply uc.step)⟩
    ·rw [if_neg c4] at H
     exact absurd H (by simp)
   ·rw [if_neg c3] at H
    have Zh:decide (Ia < (l0.length:Int))=false:=decide_eq_false c3
    clear c3
    obtain rfl:=Option.some.inj H
    go_wp2
    go_ret
    exact ⟨by first|rfl|(simp;done)|(simp [*];done),by repeat (first|exact uc.refl _|apply uc.step)⟩
def Za.f (a0:Int) (a1:Int) (a2:Int):Option (Bool):=if a0 ≥ a1 then (some (decide (a0 ≤ a2))) else (some false)
set_option maxHeartbeats 8000000 in
set_option maxRecDepth 100000 in
theorem Za.calls (a0:Int) (a1:Int) (a2:Int) (r:Bool) (w:World) (h:Za.f a0 a1 a2=some r) :
  Calls Try.prog 54 #[.int .i64 a0,.int .i64 a1,.int .i64 a2] w fun e w'=>e = .returned (.bool r)∧uc w w':=by
 have H:(if a0 ≥ a1 then (some (decide (a0 ≤ a2))) else (some false))=some r:=h
 clear h
 by_cases c4:a0 ≥ a1
 ·rw [if_pos c4] at H
  have Gi:decide (a1 ≤ a0)=true:=decide_eq_true c4
  clear c4
  obtain rfl:=Option.some.inj H
  go_enter Try.func54,Try.ntmps54
  go_wp2
  go_ret
  exact ⟨by first|rfl|(simp;done)|(simp [*];done),by repeat (first|exact uc.refl _|apply uc.step)⟩
 ·rw [if_neg c4] at H
  have Gi:decide (a1 ≤ a0)=false:=decide_eq_false c4
  clear c4
  obtain rfl:=Option.some.inj H
  go_enter Try.func54,Try.ntmps54
  go_wp2
  go_ret
  exact ⟨by first|rfl|(simp;done)|(simp [*];done),by repeat (first|exact uc.refl _|apply uc.step)⟩
end Go.Proofs.Ytmifdccaajngcaa.P
end
