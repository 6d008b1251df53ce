import Derived.Test.YtkigbdceceeenaaQSpilled1
import Derived.Test.YtkigbdceceeenaaQSpilled3
set_option maxHeartbeats 8000000
set_option maxRecDepth 100000
section
namespace Go.Proofs.Ytkigbdceceeenaa.P
open Go.RowKit Go.Proofs.Ma.Wb Go.Proofs.Ma.Jd Go.Proofs.Ma.Fe
set_option linter.unusedVariables false
set_option linter.unusedSimpArgs false
attribute [local go_sem] Gi Xi Jj ak Sh Rh Yi Wi
mutual
def xb.l0:Nat→List (List Bool)→Int→List Int→Int→Int→Int→List (He)→Option ((List (List Bool)))
 | 0,_,_,_,_,_,_,_=>none
 | k + 1,x3,x4,Fc,Uc,Mc,Ic,jc=>if x4 < (jc.length:Int) then (if 0 ≤ Ic then (if (Ic:Int).toNat ≤ 281474976710656 then (if x3.length < 5864062014805 then (xb.l0 k (x3 ++ [(List.replicate (Ic:Int).toNat false)]) (wrap64 (x4 + 1)) Fc Uc Mc Ic jc) else (none)) else (none)) else (none)) else (xb.l1 k x3 true Fc Uc Mc Ic jc)
def xb.l1:Nat→List (List Bool)→Bool→List Int→Int→Int→Int→List (He)→Option ((List (List Bool)))
 | 0,_,_,_,_,_,_,_=>none
 | k + 1,x3,x5,Fc,Uc,Mc,Ic,jc=>if x5=true then (xb.l2 k x3 false (wrap64 ((jc.length:Int) - 1)) Fc Uc Mc Ic jc) else (some x3)
def xb.l2:Nat→List (List Bool)→Bool→Int→List Int→Int→Int→Int→List (He)→Option ((List (List Bool)))
 | 0,_,_,_,_,_,_,_,_=>none
 | k + 1,x3,x5,x6,Fc,Uc,Mc,Ic,jc=>if x6 ≥ 0 then (if 0 ≤ x6 then (if x6 < (jc.length:Int) then ((Yl.f ((za jc x6).f0) ((za jc x6).f1) ((za jc x6).f2) ((za jc x6).f3) ((za jc x6).f4)).bind fun t112=>(xb.l3 k x3 x5 x6 t112 0 Fc Uc Mc Ic jc)) else (none)) else (none)) else (xb.l1 k x3 x5 Fc Uc Mc Ic jc)
def xb.l3:Nat→List (List Bool)→Bool→Int→List Int→Int→List Int→Int→Int→Int→List (He)→Option ((List (List Bool)))
 | 0,_,_,_,_,_,_,_,_,_,_=>none
 | k + 1,x3,x5,x6,x7,x8,Fc,Uc,Mc,Ic,jc=>if x8 < (x7.length:Int) then (if 0 ≤ x8 then (if 0 ≤ (rd x7 x8) then (if (rd x7 x8) < (jc.length:Int) then (if (rd x7 x8) < (x3.length:Int) then ((Zf.f k ((za jc (rd x7 x8)).f0) ((za jc (rd x7 x8)).f1) ((za jc (rd x7 x8)).f2) ((za jc (rd x7 x8)).f3) ((za jc (rd x7 x8)).f4) (Rc x3 (rd x7 x8))).bind fun t119=>(xb.l4 k x3 x5 x6 x7 x8 t119 0 Fc Uc Mc Ic jc)) else (none)) else (none)) else (none)) else (none)) else (xb.l2 k x3 x5 (wrap64 (x6 - 1)) Fc Uc Mc Ic jc)
def xb.l4:Nat→List (List Bool)→Bool→Int→List Int→Int→List Bool→Int→List Int→Int→Int→Int→List (He)→Option ((List (List Bool)))
 | 0,_,_,_,_,_,_,_,_,_,_,_,_=>none
 | k + 1,x3,x5,x6,x7,x8,x9,WZ,Fc,Uc,Mc,Ic,jc=>if WZ < Ic then (if 0 ≤ WZ then (if WZ < (x9.length:Int) then (if sg false x9 WZ=true then (if 0 ≤ x6 then (if x6 < (x3.length:Int) then (if WZ < ((Rc x3 x6).length:Int) then (if (sg false (Rc x3 x6) WZ=true) then (xb.l4 k x3 x5 x6 x7 x8 x9 (wrap64 (WZ + 1)) Fc Uc Mc Ic jc) else (xb.l4 k (x3.set (x6:Int).toNat ((Rc x3 x6).set (WZ:Int).toNat true)) true x6 x7 x8 x9 (wrap64 (WZ + 1)) Fc Uc Mc Ic jc)) else (none)) else (none)) else (none)) else (xb.l4 k x3 x5 x6 x7 x8 x9 (wrap64 (WZ + 1)) Fc Uc Mc Ic jc)) else (none)) else (none)) else (xb.l3 k x3 x5 x6 x7 (wrap64 (x8 + 1)) Fc Uc Mc Ic jc)
end
def xb.f (k:Nat) (Qa:List Int) (Ja:Int) (Ga:Int) (Ia:Int) (Aa:List (He)):Option ((List (List Bool))):=xb.l0 k (([]:List (List Bool))) 0 Qa Ja Ga Ia Aa
def xb.T16:Bool × List (List Nat × List Nat):=(true,[([],[]),([0],[0]),([],[]),([],[]),([2,3],[2,3]),([4],[4]),([1,5],[1,5]),([6],[6]),([],[]),([],[]),([],[]),([9,10],[9,10]),([11],[11]),([8,12],[8,12]),([13],[13]),([7,14],[7,14]),([15,15,0,1,2,3,4,5,6,7,8,9,10,11,12,13,14,15],[15])])
def xb.B16:List Nat:=[0,1,0,0,12,28,63,127,0,0,0,1536,3584,7936,16128,32767,65535]
theorem xb.Gae:Wp .any (opsOf Try.f41 16)=xb.T16:=by kernel_rfl
theorem xb.Gac:aq xb.T16.2 xb.B16=true:=by kernel_rfl
theorem xb.calls (k:Nat) (Wa:Option Addr) (Xa:Nat) (Qa:List Int) (Ja:Int) (Ga:Int) (Ia:Int) (Jb:Option Addr) (yb:Nat) (Aa:List (He)) (r:List (List Bool)) (w:World) (Od:Kd.C (Kd.int .i64) w Wa Qa.length Qa) (Md:Qa.length ≤ Xa) (Re:Kd.C iq w Jb Aa.length Aa) (Qe:Aa.length ≤ yb) (h:xb.f k Qa Ja Ga Ia Aa=some r) :
  Calls Try.prog 41 #[.agg #[.slice Wa Qa.length Xa,.int .i64 Ja,.int .i64 Ga,.int .i64 Ia,.slice Jb Aa.length yb]] w fun e w'=>∃ wm:Value,e = .returned (wm)∧Kd.S (Kd.slice 4 Kd.bool) 60 w' w.heap.size (fun _=>True) wm r∧Below w.heap.size w w':=by
 have KB:=Try.underlying30;have JB:=Try.underlying59;have fe:=ga.mk Od;have ye:=ga.mk Md;clear Od Md;have We:=ga.mk Re;have Xf:=ga.mk Qe;clear Re Qe;have HB:=ga.mk (Below.refl w.heap.size w);have H:(xb.l0 k (([]:List (List Bool))) 0 Qa Ja Ga Ia Aa)=some r:=h;clear h;obtain ⟨Dd,kf⟩:∃ y_:List (List Bool),y_=(([]:List (List Bool))):=⟨_,rfl⟩;replace H:(xb.l0 k Dd 0 Qa Ja Ga Ia Aa)=some r:=by first|(rw [kf];with_reducible exact H)|(have Td:=(Option.bind_some _ _).symm.trans H;rw [kf];with_reducible exact Td)|(have Td:=(Option.bind_some _ _).symm.trans H;with_reducible exact Td)|with_reducible exact H|(rw [kf];exact H)|exact H
 have Ci:=ga.mk kf;clear kf;have H':=ga.mk H;clear H;go_enter Try.func41,Try.ntmps41;go_wp2_with (first|((with_reducible refine qb (N:=1) rfl ?_);refine Ib ?hg (N:=1) ?hd (cs:=#[.slice Wa Qa.length Xa,.int .i64 Ja,.int .i64 Ga,.int .i64 Ia,.slice Jb Aa.length yb]) (t:=30) ?hr ?_;(case hd=>rfl);(case hg=>rfl);(case hr=>first|(go_simp;done)|(go_simp;rfl));intro ya hg w2 Sb hb;have Cb:=ga.mk (Na CaH hb);have Eb:=ga.mk (Sb);have Rb:=ga.mk ((by rw [hg];exact (La CaH):w.heap.size ≤ ya));have Gc:=ga.mk ((by rw [hg];exact (La CaH):w.heap.size ≤ ya));clear HB;have HB:=Cb;have oa:=Eb;have Nd:=Rb;have Ta:=Gc;clear Cb Eb Rb Gc hb Sb hg)|((with_reducible refine qb (N:=11) rfl ?_);refine Kd.nak (Kd.slice 4 Kd.bool) _ 60 ?hg (N:=11) ?hd (xs:=([]:List (List Bool))) (inner:=[]) (ok:=fun _=>True) (Di:=fun _=>True) ?hr ?hp (fun _ hk=>hk) trivial (Below.refl _ _) (Nat.le_refl _) (by simp) ?_;(case hd=>rfl);(case hg=>rfl);(case hr=>first|(go_simp;done)|(go_simp;rfl));(case hp=>exact (Sd.none _ _));intro Sm w3 NB hb Wm Ye;clear Wm Ye;(first|rw [← Ci.out] at NB|(simp only [Int.reduceToNat] at NB;rw [← Ci.out] at NB));have Cb:=ga.mk (Kd.Cp NB (La BaH));have Eb:=ga.mk (Va (g:=ya) (o:=.cells #[.slice Wa Qa.length Xa,.int .i64 Ja,.int .i64 Ga,.int .i64 Ia,.slice Jb Aa.length yb] 30 (0,0)) DaH hb);have Rb:=ga.mk (Na BaH hb);clear oa HB;have Cg:=Cb;have oa:=Eb;have HB:=Rb;clear Cb Eb Rb hb NB))
 go_loopg [3,4] k (fun kq v3 v4 w'=>∃ (xe:List (List Bool)) (od:Int),v4 = .int .i64 od∧ga (xb.l0 kq xe od Qa Ja Ga Ia Aa=some r)∧ga (kq ≤ k)∧ga (Kd.S (Kd.slice 4 Kd.bool) 60 w' w.heap.size (fun _=>True) v3 xe)∧ga (w'.heap[ya]? = some (.cells #[(.slice Wa Qa.length Xa),.int .i64 Ja,.int .i64 Ga,.int .i64 Ia,(.slice Jb Aa.length yb)] 30 (0,0)))∧ga (Below w.heap.size w w'))
 case atStart=>exact ⟨(Dd),(0),IaH,H',⟨Nat.le_refl _⟩,⟨by (with_reducible repeat (first|apply Kd.uf|apply Kd.tf|apply Kd.dg));exact Cg.out⟩,⟨HaH⟩,⟨EaH⟩⟩
 case round =>
  clear H'
  try clear p2
  try clear c4
  (try clear HA);(try clear pg);(try clear Qc);(try clear oa);(try clear HB);obtain ⟨xe,od,rfl,HA,pg,Qc,oa,HB⟩:=hrel;cases gk with
  | zero=>exact absurd HA.out (by simp [xb.l0])
  | succ k1 =>
   have H:=HA.out;clear HA;simp only [xb.l0] at H
   by_cases c5:od < (Aa.length:Int)
   ·rw [if_pos c5] at H;have Nk:decide (od < (Aa.length:Int))=true:=decide_eq_true c5;clear c5
    by_cases c6:0 ≤ Ia
    ·rw [if_pos c6] at H;have Mp:=eq_true c6;have jD:decide (0 ≤ Ia)=true:=decide_eq_true c6;clear c6
     by_cases c7:(Ia:Int).toNat ≤ 281474976710656
     ·rw [if_pos c7] at H;have qm:=eq_true c7;have eu:decide ((Ia:Int).toNat ≤ 281474976710656)=true:=decide_eq_true c7;clear c7;obtain ⟨ie,Ff⟩:∃ y_:List Bool,y_=(List.replicate (Ia:Int).toNat false):=⟨_,rfl⟩;replace H:(if xe.length < 5864062014805 then (xb.l0 k1 (xe ++ [ie]) (wrap64 (od + 1)) Qa Ja Ga Ia Aa) else (none))=some r:=by first|(rw [Ff];with_reducible exact H)|(have Td:=(Option.bind_some _ _).symm.trans H;rw [Ff];with_reducible exact Td)|(have Td:=(Option.bind_some _ _).symm.trans H;with_reducible exact Td)|with_reducible exact H|(rw [Ff];exact H)|exact H
      have om:=ga.mk Ff;clear Ff
      by_cases c8:xe.length < 5864062014805
      ·rw [if_pos c8] at H;have Cax:=ga.mk c8;clear c8;obtain ⟨gh,Ef⟩:∃ y_:List (List Bool),y_=(xe ++ [ie]):=⟨_,rfl⟩;replace H:(xb.l0 k1 gh (wrap64 (od + 1)) Qa Ja Ga Ia Aa)=some r:=by first|(rw [Ef];with_reducible exact H)|(have Td:=(Option.bind_some _ _).symm.trans H;rw [Ef];with_reducible exact Td)|(have Td:=(Option.bind_some _ _).symm.trans H;with_reducible exact Td)|with_reducible exact H|(rw [Ef];exact H)|exact H
       have Wj:=ga.mk Ef;clear Ef;have H':=ga.mk H;clear H;have Qh:wr.cell? ⟨ya,0,none⟩=some (.slice Wa Qa.length Xa):=(ia oa.out 0).trans rfl;have Ph:wr.cell? ⟨ya,1,none⟩=some (.int .i64 Ja):=(ia oa.out 1).trans rfl;have Oh:wr.cell? ⟨ya,2,none⟩=some (.int .i64 Ga):=(ia oa.out 2).trans rfl;have Nh:wr.cell? ⟨ya,3,none⟩=some (.int .i64 Ia):=(ia oa.out 3).trans rfl;have Mh:wr.cell? ⟨ya,4,none⟩=some (.slice Jb Aa.length yb):=(ia oa.out 4).trans rfl;have Lh:=aa oa.out 0;have Kh:=aa oa.out 1;have Jh:=aa oa.out 2;have Ih:=aa oa.out 3;have Hh:=aa oa.out 4;go_wp2_with (first|((with_reducible refine qb (N:=22) rfl ?_);refine Kd.Kv Kd.bool _ 4 rfl (N:=22) rfl 60 _ _ rfl Ia rfl rfl Try.underlying60 (.bool false) 1 Qv rfl (by decide) (by omega) false (ok:=fun _=>True) (Di:=fun _=>True) rfl (fun _ hk=>hk) trivial (Ua) (Nat.le_trans (Nat.mul_le_mul_right _ (Ua:Ia.toNat ≤ 281474976710656)) (by omega)) (Below.refl _ _) (Nat.le_refl _) ?_;intro yB Yp Bq hb Wm Ye;clear Wm Ye;(first|rw [← om.out] at Bq|(simp only [Int.reduceToNat] at Bq;rw [← om.out] at Bq));have Cb:=ga.mk (Kd.FF saI (Kd.KF Bq) hb);have Eb:=ga.mk (Kd.Wd Bq (La BaH));have Rb:=ga.mk (Va (g:=ya) (o:=.cells #[.slice Wa Qa.length Xa,.int .i64 Ja,.int .i64 Ga,.int .i64 Ia,.slice Jb Aa.length yb] 30 (0,0)) DaH hb);have Gc:=ga.mk (Na BaH hb);clear Qc oa HB;have Qc:=Cb;have Dj:=Eb;have oa:=Rb;have HB:=Gc;clear Cb Eb Rb Gc hb Bq;obtain ⟨bL,Er,zO⟩:=Kd.Bd Dj.out;subst zO)|((with_reducible refine we (b:=.append) (xs:=#[.tmp 19,.tmp 23]) rfl ?_);at_builtin;refine Kd.jB (Kd.slice 4 Kd.bool) (w0:=w) w.heap.size rfl (.tmp 19) (.tmp 23) 55 60 (.slice none 0 0) 24 rfl Try.underlying55 cF rfl (by decide) (by omega) u3 xe ie [.slice bL ie.length Er] (fun _=>True) (fun k_=>some k_=(.slice bL ie.length Er:Value).ownBlock) rfl rfl ?aP (fun k_ hk_=>((Kd.Xd (Ry:=fun k_=>((fun _=>True)) k_∧some k_ ≠ (u3:Value).ownBlock) (Kd.lB (Dj.out) (Kd.oE Qc.out) (by decide)) (fun k_ hk=>⟨trivial,hk.2⟩))).1 k_ hk_.symm) ?aF ?aO ?aB ?aS ?aL ?_;(case aP=>exact Kd.u_ (Kd.Xd (Kd.Vx rfl (Kd.Xd (Ry:=fun k_=>((fun _=>True)) k_∧some k_ ≠ (u3:Value).ownBlock) (Kd.lB (Dj.out) (Kd.oE Qc.out) (by decide)) (fun k_ hk=>⟨trivial,hk.2⟩))) (fun _ h_=>h_)));(case aB=>exact BaH);(case aF=>exact (fun _ _=>trivial));(case aO=>exact (by (with_reducible repeat (first|apply Kd.uf|apply Kd.tf|apply Kd.dg));exact Kd.Gj Qc.out (fun k_ hk=>⟨trivial,fun e_=>hk.2 e_⟩)));(case aS=>exact (La BaH));(case aL=>have:=Cax.out;omega);intro nG Xr ho hb hg hat;rw [← Wj.out] at ho;have Cb:=ga.mk (xd (g:=ya) (o:=.cells #[.slice Wa Qa.length Xa,.int .i64 Ja,.int .i64 Ga,.int .i64 Ia,.slice Jb Aa.length yb] 30 (0,0)) DaH hg (Kd.Aax Qc.out oa.out (by decide)));have Eb:=ga.mk (hb);have Rb:=ga.mk (ho);clear oa HB Qc Dj;have oa:=Cb;have HB:=Eb;have Ij:=Rb;clear Cb Eb Rb ho hb hg hat))
       go_roundg k1
       case measure=>have:=pg.out;omega
       case rel=>exact ⟨(gh),(wrap64 (od + 1)),IaH,H',⟨by have:=pg.out;omega⟩,⟨by (with_reducible repeat (first|apply Kd.uf|apply Kd.tf|apply Kd.dg));exact Ij.out⟩,⟨HaH⟩,⟨EaH⟩⟩
      ·rw [if_neg c8] at H;exact absurd H (by simp)
     ·rw [if_neg c7] at H;exact absurd H (by simp)
    ·rw [if_neg c6] at H;exact absurd H (by simp)
   ·rw [if_neg c5] at H;have Nk:decide (od < (Aa.length:Int))=false:=decide_eq_false c5;clear c5;have H':=ga.mk H;clear H;have Eh:wr.cell? ⟨ya,0,none⟩=some (.slice Wa Qa.length Xa):=(ia oa.out 0).trans rfl;have Dh:wr.cell? ⟨ya,1,none⟩=some (.int .i64 Ja):=(ia oa.out 1).trans rfl;have Ch:wr.cell? ⟨ya,2,none⟩=some (.int .i64 Ga):=(ia oa.out 2).trans rfl;have Bh:wr.cell? ⟨ya,3,none⟩=some (.int .i64 Ia):=(ia oa.out 3).trans rfl;have Ah:wr.cell? ⟨ya,4,none⟩=some (.slice Jb Aa.length yb):=(ia oa.out 4).trans rfl;have zh:=aa oa.out 0;have yh:=aa oa.out 1;have xh:=aa oa.out 2;have wh:=aa oa.out 3;have uh:=aa oa.out 4;go_wp2
    go_loopg [5] k1 (fun kq v5 w'=>∃ (Tp:List (List Bool)) (Eo:Bool),v5 = .bool Eo∧ga (xb.l1 kq Tp Eo Qa Ja Ga Ia Aa=some r)∧ga (kq ≤ k1)∧ga (Kd.S (Kd.slice 4 Kd.bool) 60 w' w.heap.size (fun _=>True) u3 Tp)∧ga (w'.heap[ya]? = some (.cells #[(.slice Wa Qa.length Xa),.int .i64 Ja,.int .i64 Ga,.int .i64 Ia,(.slice Jb Aa.length yb)] 30 (0,0)))∧ga (Below w.heap.size w w'))
    case atStart=>exact ⟨(xe),(true),IaH,H',⟨Nat.le_refl _⟩,⟨caI⟩,⟨HaH⟩,⟨EaH⟩⟩
    case round =>
     clear H'
     try clear p2
     try clear c4
     try clear c5
     try clear Nk
     try clear c6
     try clear Mp
     try clear jD
     try clear p6
     try clear c7
     try clear qm
     try clear eu
     try clear c8
     try clear Eh
     try clear Dh
     try clear Ch
     try clear Bh
     try clear Ah
     try clear Qh
     try clear Ph
     try clear Oh
     try clear Nh
     try clear Mh
     try clear zh
     try clear yh
     try clear xh
     try clear wh
     try clear uh
     try clear Lh
     try clear Kh
     try clear Jh
     try clear Ih
     try clear Hh
     try clear p2
     (try clear HA);(try clear Cm);(try clear Qc);(try clear oa);(try clear HB);obtain ⟨Tp,Eo,rfl,HA,Cm,Qc,oa,HB⟩:=hrel;cases gk with
     | zero=>exact absurd HA.out (by simp [xb.l1])
     | succ k2 =>
      have H:=HA.out;clear HA;simp only [xb.l1] at H
      by_cases Yv:Eo=true
      ·subst Yv;have H1:(xb.l2 k2 Tp false (wrap64 ((Aa.length:Int) - 1)) Qa Ja Ga Ia Aa)=some r:=by rw [if_pos rfl] at H;exact H
       clear H;have H:=H1;clear H1;have H':=ga.mk H;clear H;have zp:wr.cell? ⟨ya,0,none⟩=some (.slice Wa Qa.length Xa):=(ia oa.out 0).trans rfl;have yp:wr.cell? ⟨ya,1,none⟩=some (.int .i64 Ja):=(ia oa.out 1).trans rfl;have xp:wr.cell? ⟨ya,2,none⟩=some (.int .i64 Ga):=(ia oa.out 2).trans rfl;have vp:wr.cell? ⟨ya,3,none⟩=some (.int .i64 Ia):=(ia oa.out 3).trans rfl;have qp:wr.cell? ⟨ya,4,none⟩=some (.slice Jb Aa.length yb):=(ia oa.out 4).trans rfl;have lp:=aa oa.out 0;have gp:=aa oa.out 1;have ep:=aa oa.out 2;have bp:=aa oa.out 3;have Zo:=aa oa.out 4;go_wp2
       go_loopg [5,6] k2 (fun kq v5 v6 w'=>∃ (Ep:List (List Bool)) (Af:Bool) (ef:Int),v5 = .bool Af∧v6 = .int .i64 ef∧ga (xb.l2 kq Ep Af ef Qa Ja Ga Ia Aa=some r)∧ga (kq ≤ k2)∧ga (Kd.S (Kd.slice 4 Kd.bool) 60 w' w.heap.size (fun _=>True) u3 Ep)∧ga (w'.heap[ya]? = some (.cells #[(.slice Wa Qa.length Xa),.int .i64 Ja,.int .i64 Ga,.int .i64 Ia,(.slice Jb Aa.length yb)] 30 (0,0)))∧ga (Below w.heap.size w w'))
       case atStart=>exact ⟨(Tp),(false),(wrap64 ((Aa.length:Int) - 1)),IaH,IaH,H',⟨Nat.le_refl _⟩,⟨caI⟩,⟨HaH⟩,⟨EaH⟩⟩
       case round =>
        clear H'
        try clear c1
        try clear p2
        try clear c4
        try clear c5
        try clear Nk
        try clear c6
        try clear Mp
        try clear jD
        try clear p6
        try clear c7
        try clear qm
        try clear eu
        try clear c8
        try clear Yv
        try clear Eh
        try clear Dh
        try clear Ch
        try clear Bh
        try clear Ah
        try clear zp
        try clear yp
        try clear xp
        try clear vp
        try clear qp
        try clear Qh
        try clear Ph
        try clear Oh
        try clear Nh
        try clear Mh
        try clear zh
        try clear yh
        try clear xh
        try clear wh
        try clear uh
        try clear lp
        try clear gp
        try clear ep
        try clear bp
        try clear Zo
        try clear Lh
        try clear Kh
        try clear Jh
        try clear Ih
        try clear Hh
        try clear p2
        try clear p6
        (try clear HA);(try clear Rp);(try clear Qc);(try clear oa);(try clear HB);obtain ⟨Ep,Af,ef,rfl,rfl,HA,Rp,Qc,oa,HB⟩:=hrel;cases gk with
        | zero=>exact absurd HA.out (by simp [xb.l2])
        | succ k3 =>
         have H:=HA.out;clear HA;simp only [xb.l2] at H
         by_cases Ym:ef ≥ 0
         ·rw [if_pos Ym] at H;have zm:decide (0 ≤ ef)=true:=decide_eq_true Ym;clear Ym
          by_cases Ko:0 ≤ ef
          ·rw [if_pos Ko] at H;have Jo:decide (0 ≤ ef)=true:=decide_eq_true Ko;clear Ko
           by_cases Ll:ef < (Aa.length:Int)
           ·rw [if_pos Ll] at H;have Kr:decide (ef < (Aa.length:Int))=true:=decide_eq_true Ll;clear Ll;replace H:=Option.bind_eq_some_iff.mp H;obtain ⟨t112,RZ,H⟩:=H;replace H:(xb.l3 k3 Ep Af ef t112 0 Qa Ja Ga Ia Aa)=some r:=H;have EV:=ga.mk RZ;clear RZ;have H':=ga.mk H;clear H;have WA:wr.cell? ⟨ya,0,none⟩=some (.slice Wa Qa.length Xa):=(ia oa.out 0).trans rfl;have VA:wr.cell? ⟨ya,1,none⟩=some (.int .i64 Ja):=(ia oa.out 1).trans rfl;have UA:wr.cell? ⟨ya,2,none⟩=some (.int .i64 Ga):=(ia oa.out 2).trans rfl;have TA:wr.cell? ⟨ya,3,none⟩=some (.int .i64 Ia):=(ia oa.out 3).trans rfl;have SA:wr.cell? ⟨ya,4,none⟩=some (.slice Jb Aa.length yb):=(ia oa.out 4).trans rfl;have DA:=aa oa.out 0;have CA:=aa oa.out 1;have BA:=aa oa.out 2;have AA:=aa oa.out 3;have zA:=aa oa.out 4;have Nt:0 ≤ (ef:Int):=Ua;have Mt:ef < (Aa.length:Int):=Ua;obtain ⟨Hj,Xad,wac,kK,Kj,vD,uD,tD,sD,AQ,IQ⟩:=Fj We.out ef Nt Mt;cases kK
            try replace Kj:=Sa HB.out Kj
            try replace vD:=Sa HB.out vD
            try replace uD:=Sa HB.out uD
            try replace tD:=Sa HB.out tD
            try replace sD:=Sa HB.out sD
            have Y7:=ga.mk IQ;have B8:=ga.mk AQ;clear IQ AQ;replace Nt:=eq_true Nt;replace Mt:=eq_true Mt;go_wp2_with (first|((with_reducible refine Bb (f:=72) rfl ?_);refine Tc (some 39) rfl rfl Try.func72 (by kernel_rfl) rfl #[.agg #[.slice Xad ((za Aa ef).f0).length wac,.int .i64 ((za Aa ef).f1),.int .i64 ((za Aa ef).f2),.int .i64 ((za Aa ef).f3),.int .i64 ((za Aa ef).f4)]] rfl FaH ?_;(with_reducible refine (Yl.calls _ _ ((za Aa ef).f0) ((za Aa ef).f1) ((za Aa ef).f2) ((za Aa ef).f3) ((za Aa ef).f4) t112 _ ?yc ?uc EV.out).mono ?_);(case yc=>repeat (first|exact (Kd.Ab Y7.out HB.out)|(with_reducible refine Kd.Lb ?_ _)|(with_reducible refine Kd.Kb ?_ _)|(with_reducible refine Kd.Xb ?_)));(case uc=>exact B8.out);rintro e CE ⟨vau,rfl,Hi,hb⟩;refine ⟨_,rfl,?_⟩;have Cb:=ga.mk (Kd.lg saI hb);have Eb:=ga.mk (Kd.Wd Hi (La BaH));have Rb:=ga.mk (Va (g:=ya) (o:=.cells #[.slice Wa Qa.length Xa,.int .i64 Ja,.int .i64 Ga,.int .i64 Ia,.slice (some Hj) Aa.length yb] 30 (0,0)) DaH hb);have Gc:=ga.mk (Na BaH hb);clear Qc oa HB;have Qc:=Cb;have gal:=Eb;have oa:=Rb;have HB:=Gc;clear Cb Eb Rb Gc;(try clear hb);(try clear jj);(try clear hk);(try clear hi);(try clear Hi)))
            go_loopg [5,8] k3 (fun kq v5 v8 w'=>∃ (jz:List (List Bool)) (oU:Bool) (Yf:Int),v5 = .bool oU∧v8 = .int .i64 Yf∧ga (xb.l3 kq jz oU ef t112 Yf Qa Ja Ga Ia Aa=some r)∧ga (kq ≤ k3)∧ga (Kd.S (Kd.slice 4 Kd.bool) 60 w' w.heap.size (fun _=>True) u3 jz)∧ga (Kd.R (Kd.int .i64) 3 w' w.heap.size (fun _=>True) vau t112)∧ga (w'.heap[ya]? = some (.cells #[(.slice Wa Qa.length Xa),.int .i64 Ja,.int .i64 Ga,.int .i64 Ia,(.slice (some Hj) Aa.length yb)] 30 (0,0)))∧ga (Below w.heap.size w w'))
            case atStart=>exact ⟨(Ep),(Af),(0),IaH,IaH,H',⟨Nat.le_refl _⟩,⟨caI⟩,⟨by (with_reducible repeat (first|apply Kd.mb|apply Kd.jb|apply Kd.Gb));exact gal.out⟩,⟨HaH⟩,⟨EaH⟩⟩
            case round =>
             clear H'
             try clear c1
             try clear p1
             try clear q1
             try clear hx1
             try clear p2
             try clear c4
             try clear c5
             try clear Nk
             try clear c6
             try clear Mp
             try clear jD
             try clear p6
             try clear c7
             try clear qm
             try clear eu
             try clear c8
             try clear zG
             try clear iL
             try clear gL
             try clear EW
             try clear Yv
             try clear Ym
             try clear zm
             try clear Ko
             try clear Jo
             try clear Ll
             try clear Kr
             try clear Eh
             try clear Dh
             try clear Ch
             try clear Bh
             try clear Ah
             try clear zp
             try clear yp
             try clear xp
             try clear vp
             try clear qp
             try clear WA
             try clear VA
             try clear UA
             try clear TA
             try clear SA
             try clear Qh
             try clear Ph
             try clear Oh
             try clear Nh
             try clear Mh
             try clear zh
             try clear yh
             try clear xh
             try clear wh
             try clear uh
             try clear lp
             try clear gp
             try clear ep
             try clear bp
             try clear Zo
             try clear DA
             try clear CA
             try clear BA
             try clear AA
             try clear zA
             try clear Lh
             try clear Kh
             try clear Jh
             try clear Ih
             try clear Hh
             try clear Kj
             try clear vD
             try clear uD
             try clear tD
             try clear sD
             try clear Nt
             try clear p2
             try clear p6
             try clear Mt
             (try clear HA);(try clear GZ);(try clear Qc);(try clear rm);(try clear oa);(try clear HB);obtain ⟨jz,oU,Yf,rfl,rfl,HA,GZ,Qc,rm,oa,HB⟩:=hrel;cases gk with
             | zero=>exact absurd HA.out (by simp [xb.l3])
             | succ k4 =>
              have H:=HA.out;clear HA;simp only [xb.l3] at H
              by_cases Dy:Yf < (t112.length:Int)
              ·rw [if_pos Dy] at H;have AF:decide (Yf < (t112.length:Int))=true:=decide_eq_true Dy;clear Dy
               by_cases zF:0 ≤ Yf
               ·rw [if_pos zF] at H;have ZX:decide (0 ≤ Yf)=true:=decide_eq_true zF;clear zF
                by_cases kD:0 ≤ (rd t112 Yf)
                ·rw [if_pos kD] at H;have aH:decide (0 ≤ (rd t112 Yf))=true:=decide_eq_true kD;clear kD
                 by_cases gG:(rd t112 Yf) < (Aa.length:Int)
                 ·rw [if_pos gG] at H;have X9:decide ((rd t112 Yf) < (Aa.length:Int))=true:=decide_eq_true gG;clear gG
                  by_cases UC:(rd t112 Yf) < (jz.length:Int)
                  ·rw [if_pos UC] at H;have YX:decide ((rd t112 Yf) < (jz.length:Int))=true:=decide_eq_true UC;clear UC;replace H:=Option.bind_eq_some_iff.mp H;obtain ⟨t119,dam,H⟩:=H;replace H:(xb.l4 k4 jz oU ef t112 Yf t119 0 Qa Ja Ga Ia Aa)=some r:=H;have A28:=ga.mk dam;clear dam;have H':=ga.mk H;clear H;obtain ⟨Lay,saj,Xab⟩:=Kd.Bd rm.out;subst Xab
                   try go_wp2
                   have Cb:=ga.mk (Kd.dg Qc.out);have Eb:=ga.mk (Kd.Gb rm.out);have Rb:=ga.mk (Fa oa.out);have Gc:=ga.mk (ta HB.out);clear Qc rm oa HB;have Qc:=Cb;have rm:=Eb;have oa:=Rb;have HB:=Gc;clear Cb Eb Rb Gc;have Z1:0 ≤ (Yf:Int):=Ua;have U1:Yf < (t112.length:Int):=Ua;obtain ⟨uT,jax,SH⟩:=Kd.Rf (Kd.Vb rm.out).2.2 Yf Z1 U1;cases jax;replace Z1:=eq_true Z1;replace U1:=eq_true U1;have Y1:0 ≤ ((rd t112 Yf):Int):=Ua;have T1:(rd t112 Yf) < (Aa.length:Int):=Ua;obtain ⟨jak,UZ,eY,iax,Kz,Jz,Iz,Hz,Gz,zQ,GQ⟩:=Fj We.out (rd t112 Yf) Y1 T1;have rQ:=Gz;have sQ:=Hz;have tQ:=Iz;have uQ:=Jz;have vQ:=Kz;obtain rfl:Hj=jak:=(by injection iax)
                   try replace Kz:=Sa HB.out Kz
                   try replace Jz:=Sa HB.out Jz
                   try replace Iz:=Sa HB.out Iz
                   try replace Hz:=Sa HB.out Hz
                   try replace Gz:=Sa HB.out Gz
                   have YT:=ga.mk GQ;have y8:=ga.mk zQ;clear GQ zQ;replace Y1:=eq_true Y1;replace T1:=eq_true T1;have X1:0 ≤ (Yf:Int):=Ua;have S1:Yf < (t112.length:Int):=Ua;obtain ⟨iak,hax,RH⟩:=Kd.Rf (Kd.Vb rm.out).2.2 Yf X1 S1;obtain rfl:uT=iak:=(by injection hax);replace X1:=eq_true X1;replace S1:=eq_true S1;obtain ⟨Kay,bac,b7⟩:=Kd.Bi Qc.out;(first|subst b7|(injection b7 with f1_ f2_ f3_;have f4_:=f1_.symm;have f5_:=f3_.symm;clear f1_ f2_ f3_;subst f4_;subst f5_));have aW:0 ≤ ((rd t112 Yf):Int):=Ua;have ZV:(rd t112 Yf) < (jz.length:Int):=Ua;obtain ⟨cH,TZ,dY,gax,Fz,yQ,FQ⟩:=Qo (Kd.me Qc.out).2.2 (rd t112 Yf) aW ZV;cases gax;obtain ⟨GaC,Iab,Mab,zX⟩:=Kd.Gy Qc.out [] (rd t112 Yf) aW (by first|exact ZV|exact Ua|(have e_:=(Kd.me Qc.out).1;omega));obtain ⟨mam,rfl,dK⟩:=Mab;have jA:=zX 0 _ rfl;rw [Nat.add_zero,show ((Kd.slice 4 Kd.bool)).sz=1 from rfl,Nat.mul_one] at jA;replace jA:=Option.some.inj (jA.symm.trans Fz);rw [jA] at dK;have sB:=ga.mk (show Kd.R Kd.bool 4 _ _ _ _ (Rc jz (rd t112 Yf)) from dK);clear jA dK;have sE:=ga.mk Fz;clear zX Iab;have Lv:=ga.mk FQ;have r8:=ga.mk yQ;clear FQ yQ;replace aW:=eq_true aW;replace ZV:=eq_true ZV;refine Mo (n:=17) (S:=fun w'=>w'.cell? ⟨ya,0,none⟩=some (.slice Wa Qa.length Xa)∧w'.cell? ⟨ya,1,none⟩=some (.int .i64 Ja)∧w'.cell? ⟨ya,2,none⟩=some (.int .i64 Ga)∧w'.cell? ⟨ya,3,none⟩=some (.int .i64 Ia)∧w'.cell? ⟨ya,4,none⟩=some (.slice (some Hj) Aa.length yb)∧w'.cell? (uT.add (Yf).toNat)=some (.int .i64 (rd t112 Yf))∧w'.cell? (Hj.add (((rd t112 Yf)).toNat * 5))=some (.slice UZ ((za Aa (rd t112 Yf)).f0).length eY)∧w'.cell? ⟨(Hj.add (((rd t112 Yf)).toNat * 5)).block,(Hj.add (((rd t112 Yf)).toNat * 5)).off + 1,none⟩=some (.int .i64 ((za Aa (rd t112 Yf)).f1))∧w'.cell? ⟨(Hj.add (((rd t112 Yf)).toNat * 5)).block,(Hj.add (((rd t112 Yf)).toNat * 5)).off + 2,none⟩=some (.int .i64 ((za Aa (rd t112 Yf)).f2))∧w'.cell? ⟨(Hj.add (((rd t112 Yf)).toNat * 5)).block,(Hj.add (((rd t112 Yf)).toNat * 5)).off + 3,none⟩=some (.int .i64 ((za Aa (rd t112 Yf)).f3))∧w'.cell? ⟨(Hj.add (((rd t112 Yf)).toNat * 5)).block,(Hj.add (((rd t112 Yf)).toNat * 5)).off + 4,none⟩=some (.int .i64 ((za Aa (rd t112 Yf)).f4))∧w'.cell? (uT.add (Yf).toNat)=some (.int .i64 (rd t112 Yf))∧w'.cell? (cH.add ((rd t112 Yf)).toNat)=some (.slice TZ (Rc jz (rd t112 Yf)).length dY)) (ds:=[]) #[false,false,false,false,false,false,false,false,false,false,false,false,false,false,false,false,false] (by kernel_rfl) rfl rfl ⟨(ia oa.out 0).trans rfl,(ia oa.out 1).trans rfl,(ia oa.out 2).trans rfl,(ia oa.out 3).trans rfl,(ia oa.out 4).trans rfl,SH,(Sa HB.out vQ),(Sa HB.out uQ),(Sa HB.out tQ),(Sa HB.out sQ),(Sa HB.out rQ),RH,Fz⟩ (fun hHeld=>?_);refine Qk xb.Gae xb.Gac (fun Ug Wx=>?_);generalize wr.drew=xB at Qc rm oa HB sB YT Lv sE SH Kz Jz Iz Hz Gz RH Fz hHeld ⊢;refine Ud (i:=0) (N:=some 46) (v:=?_) (a':=?_) #[true,false,false,false,false,false,false,false,false,false,false,false,false,false,false,false,false] rfl rfl (yd Ug.out (by kernel_rfl)) (fun _ _ _ h=>h) (Or.inl ⟨by rfl,?_⟩) ?_ ?_;rotate_left
                   ·intro w';go_simp;with_reducible rfl
                   rotate_left
                   ·simp only [Act.put,List.setIfInBounds_toArray,List.set_cons_zero,List.set_cons_succ,qc,tc]
                    rfl
                   refine Ud (i:=2) (N:=some 48) (v:=?_) (a':=?_) #[true,false,true,false,false,false,false,false,false,false,false,false,false,false,false,false,false] rfl rfl (yd Ug.out (by kernel_rfl)) (fun _ _ _ h=>h) (Or.inl ⟨by rfl,?_⟩) ?_ ?_;rotate_left
                   ·intro w';go_simp;with_reducible rfl
                   rotate_left
                   ·simp only [Act.put,List.setIfInBounds_toArray,List.set_cons_zero,List.set_cons_succ,qc,tc]
                    rfl
                   refine Ud (i:=3) (N:=some 49) (v:=?_) (a':=?_) #[true,false,true,true,false,false,false,false,false,false,false,false,false,false,false,false,false] rfl rfl (yd Ug.out (by kernel_rfl)) (fun _ _ _ h=>h) (Or.inl ⟨by rfl,?_⟩) ?_ ?_;rotate_left
                   ·intro w';go_simp;with_reducible rfl
                   rotate_left
                   ·simp only [Act.put,List.setIfInBounds_toArray,List.set_cons_zero,List.set_cons_succ,qc,tc]
                    rfl
                   refine Ud (i:=4) (N:=some 50) (v:=?_) (a':=?_) #[true,false,true,true,true,false,false,false,false,false,false,false,false,false,false,false,false] rfl rfl (yd Ug.out (by kernel_rfl)) (fun _ _ _ h=>h) (Or.inl ⟨by rfl,?_⟩) ?_ ?_;rotate_left
                   ·intro w';go_simp;with_reducible rfl
                   rotate_left
                   ·simp only [Act.put,List.setIfInBounds_toArray,List.set_cons_zero,List.set_cons_succ,qc,tc]
                    rfl
                   refine Ud (i:=8) (N:=some 54) (v:=?_) (a':=?_) #[true,false,true,true,true,false,false,false,true,false,false,false,false,false,false,false,false] rfl rfl (yd Ug.out (by kernel_rfl)) (fun _ _ _ h=>h) (Or.inl ⟨by rfl,?_⟩) ?_ ?_;rotate_left
                   ·intro w';go_simp;with_reducible rfl
                   rotate_left
                   ·simp only [Act.put,List.setIfInBounds_toArray,List.set_cons_zero,List.set_cons_succ,qc,tc]
                    rfl
                   refine Ud (i:=9) (N:=some 55) (v:=?_) (a':=?_) #[true,false,true,true,true,false,false,false,true,true,false,false,false,false,false,false,false] rfl rfl (yd Ug.out (by kernel_rfl)) (fun _ _ _ h=>h) (Or.inl ⟨by rfl,?_⟩) ?_ ?_;rotate_left
                   ·intro w';go_simp;with_reducible rfl
                   rotate_left
                   ·simp only [Act.put,List.setIfInBounds_toArray,List.set_cons_zero,List.set_cons_succ,qc,tc]
                    rfl
                   refine Ud (i:=10) (N:=some 56) (v:=?_) (a':=?_) #[true,false,true,true,true,false,false,false,true,true,true,false,false,false,false,false,false] rfl rfl (yd Ug.out (by kernel_rfl)) (fun _ _ _ h=>h) (Or.inl ⟨by rfl,?_⟩) ?_ ?_;rotate_left
                   ·intro w';go_simp;with_reducible rfl
                   rotate_left
                   ·simp only [Act.put,List.setIfInBounds_toArray,List.set_cons_zero,List.set_cons_succ,qc,tc]
                    rfl
                   refine Ud (i:=11) (N:=some 57) (v:=?_) (a':=?_) #[true,false,true,true,true,false,false,false,true,true,true,true,false,false,false,false,false] rfl rfl (yd Ug.out (by kernel_rfl)) (fun _ _ _ h=>h) (Or.inl ⟨by rfl,?_⟩) ?_ ?_;rotate_left
                   ·intro w';go_simp;with_reducible rfl
                   rotate_left
                   ·simp only [Act.put,List.setIfInBounds_toArray,List.set_cons_zero,List.set_cons_succ,qc,tc]
                    rfl
                   refine Fi (i:=1) (N:=some 47) (v:=?_) (a':=?_) #[true,true,true,true,true,false,false,false,true,true,true,true,false,false,false,false,false] rfl rfl (Uf Ug.out Wx.out (by kernel_rfl)) (fun _ _ _ h=>h) (Or.inl ⟨by rfl,?_⟩) hHeld ?_ ?_;rotate_left
                   ·rintro w' ⟨s0,s1,s2,s3,s4,s5,s6,s7,s8,s9,XP,VP,TP⟩;go_simp;with_reducible rfl
                   rotate_left
                   ·simp only [Act.put,List.setIfInBounds_toArray,List.set_cons_zero,List.set_cons_succ,qc,tc]
                    rfl
                   refine Fi (i:=5) (N:=some 51) (v:=?_) (a':=?_) #[true,true,true,true,true,true,false,false,true,true,true,true,false,false,false,false,false] rfl rfl (Uf Ug.out Wx.out (by kernel_rfl)) (fun _ _ _ h=>h) (Or.inl ⟨by rfl,?_⟩) hHeld ?_ ?_;rotate_left
                   ·rintro w' ⟨s0,s1,s2,s3,s4,s5,s6,s7,s8,s9,XP,VP,TP⟩;go_simp;with_reducible rfl
                   rotate_left
                   ·simp only [Act.put,List.setIfInBounds_toArray,List.set_cons_zero,List.set_cons_succ,qc,tc]
                    rfl
                   refine Ud (i:=6) (N:=some 52) (v:=?_) (a':=?_) #[true,true,true,true,true,true,true,false,true,true,true,true,false,false,false,false,false] rfl rfl (yd Ug.out (by kernel_rfl)) (fun _ _ _ h=>h) (Or.inl ⟨by rfl,?_⟩) ?_ ?_;rotate_left
                   ·intro w';go_simp;with_reducible rfl
                   rotate_left
                   ·simp only [Act.put,List.setIfInBounds_toArray,List.set_cons_zero,List.set_cons_succ,qc,tc]
                    rfl
                   refine Fi (i:=7) (N:=some 53) (v:=?_) (a':=?_) #[true,true,true,true,true,true,true,true,true,true,true,true,false,false,false,false,false] rfl rfl (Uf Ug.out Wx.out (by kernel_rfl)) (fun _ _ _ h=>h) (Or.inl ⟨by rfl,?_⟩) hHeld ?_ ?_;rotate_left
                   ·rintro w' ⟨s0,s1,s2,s3,s4,s5,s6,s7,s8,s9,XP,VP,TP⟩;go_simp;with_reducible rfl
                   rotate_left
                   ·simp only [Act.put,List.setIfInBounds_toArray,List.set_cons_zero,List.set_cons_succ,qc,tc]
                    rfl
                   refine Fi (i:=12) (N:=some 58) (v:=?_) (a':=?_) #[true,true,true,true,true,true,true,true,true,true,true,true,true,false,false,false,false] rfl rfl (Uf Ug.out Wx.out (by kernel_rfl)) (fun _ _ _ h=>h) (Or.inl ⟨by rfl,?_⟩) hHeld ?_ ?_;rotate_left
                   ·rintro w' ⟨s0,s1,s2,s3,s4,s5,s6,s7,s8,s9,XP,VP,TP⟩;go_simp;with_reducible rfl
                   rotate_left
                   ·simp only [Act.put,List.setIfInBounds_toArray,List.set_cons_zero,List.set_cons_succ,qc,tc]
                    rfl
                   refine Ud (i:=13) (N:=some 59) (v:=?_) (a':=?_) #[true,true,true,true,true,true,true,true,true,true,true,true,true,true,false,false,false] rfl rfl (yd Ug.out (by kernel_rfl)) (fun _ _ _ h=>h) (Or.inl ⟨by rfl,?_⟩) ?_ ?_;rotate_left
                   ·intro w';go_simp;with_reducible rfl
                   rotate_left
                   ·simp only [Act.put,List.setIfInBounds_toArray,List.set_cons_zero,List.set_cons_succ,qc,tc]
                    rfl
                   refine Fi (i:=14) (N:=some 60) (v:=?_) (a':=?_) #[true,true,true,true,true,true,true,true,true,true,true,true,true,true,true,false,false] rfl rfl (Uf Ug.out Wx.out (by kernel_rfl)) (fun _ _ _ h=>h) (Or.inl ⟨by rfl,?_⟩) hHeld ?_ ?_;rotate_left
                   ·rintro w' ⟨s0,s1,s2,s3,s4,s5,s6,s7,s8,s9,XP,VP,TP⟩;go_simp;with_reducible rfl
                   rotate_left
                   ·simp only [Act.put,List.setIfInBounds_toArray,List.set_cons_zero,List.set_cons_succ,qc,tc]
                    rfl
                   refine Qy (i:=15) (N:=some 61) #[true,true,true,true,true,true,true,true,true,true,true,true,true,true,true,true,false] rfl rfl (Bu Ug.out (by kernel_rfl)) (by decide) (fun K hK=>?_);refine Rv Try.func54 (by kernel_rfl) rfl #[.agg #[.slice UZ ((za Aa (rd t112 Yf)).f0).length eY,.int .i64 ((za Aa (rd t112 Yf)).f1),.int .i64 ((za Aa (rd t112 Yf)).f2),.int .i64 ((za Aa (rd t112 Yf)).f3),.int .i64 ((za Aa (rd t112 Yf)).f4)],.slice TZ (Rc jz (rd t112 Yf)).length dY] (by rfl) rfl rfl FaH ?_;with_reducible refine (Zf.calls k4 _ _ ((za Aa (rd t112 Yf)).f0) ((za Aa (rd t112 Yf)).f1) ((za Aa (rd t112 Yf)).f2) ((za Aa (rd t112 Yf)).f3) ((za Aa (rd t112 Yf)).f4) _ _ (Rc jz (rd t112 Yf)) t119 _ ?yc ?uc ?td ?qd A28.out).mono ?_
                   (case yc=>repeat (first|exact (Kd.Ab YT.out HB.out)|(with_reducible refine Kd.Lb ?_ _)|(with_reducible refine Kd.Kb ?_ _)|(with_reducible refine Kd.Xb ?_)))
                   (case uc=>exact y8.out)
                   (case td=>repeat (first|exact (by repeat (first|(with_reducible exact Lv.out)|(with_reducible refine Kd.Lb ?_ _)|(with_reducible refine Kd.Kb ?_ _)|(with_reducible refine Kd.Xb ?_)|exact Lv.out))|(with_reducible refine Kd.Lb ?_ _)|(with_reducible refine Kd.Kb ?_ _)|(with_reducible refine Kd.Xb ?_)))
                   (case qd=>exact r8.out)
                   rintro e oN ⟨Eae,rfl,Hi,hb⟩;have Nax:=(hb.cell (World.block_lt_of_cell? _ _ (hHeld.2.2.2.2.2.1))).trans (hHeld.2.2.2.2.2.1);have Wak:=(hb.cell (World.block_lt_of_cell? _ _ (hHeld.2.2.2.2.2.2.2.2.2.2.2.1))).trans (hHeld.2.2.2.2.2.2.2.2.2.2.2.1);have Vak:=(hb.cell (World.block_lt_of_cell? _ _ (hHeld.2.2.2.2.2.2.2.2.2.2.2.2))).trans (hHeld.2.2.2.2.2.2.2.2.2.2.2.2);refine ⟨_,rfl,?_⟩;have Cb:=ga.mk (Kd.FF saI (Kd.KF Hi) hb);have Eb:=ga.mk (Kd.oc (by (with_reducible repeat (first|apply Kd.mb|apply Kd.jb|apply Kd.Gb));exact rm.out) hb);have Rb:=ga.mk (Kd.JF (by (with_reducible repeat (first|apply Kd.mb|apply Kd.jb|apply Kd.Gb));exact sB.out) (Kd.KF Hi) hb);have Gc:=ga.mk (Kd.Wd (Kd.zY Hi (Kd.I7 (by (with_reducible repeat (first|apply Kd.mb|apply Kd.jb|apply Kd.Gb));exact sB.out))) (La BaH));have kg:=ga.mk (Va (g:=ya) (o:=.cells #[.slice Wa Qa.length Xa,.int .i64 Ja,.int .i64 Ga,.int .i64 Ia,.slice (some Hj) Aa.length yb] 30 (0,0)) DaH hb);have Rg:=ga.mk (Kd.Ab (by repeat (first|(with_reducible exact Lv.out)|(with_reducible refine Kd.Lb ?_ _)|(with_reducible refine Kd.Kb ?_ _)|(with_reducible refine Kd.Xb ?_)|exact Lv.out)) hb);have Vh:=ga.mk (Xo hb sE.out);have SE:=ga.mk (Na BaH hb);clear Qc rm sB oa Lv sE HB;have Qc:=Cb;have rm:=Eb;have sB:=Rb;have fal:=Gc;have oa:=kg;have Lv:=Rg;have sE:=Vh;have HB:=SE;clear Cb Eb Rb Gc kg Rg Vh SE;(try clear hb);(try clear jj);(try clear hk);(try clear hi);(try clear Hi);refine hK.out _ _ ⟨(ia oa.out 0).trans rfl,(ia oa.out 1).trans rfl,(ia oa.out 2).trans rfl,(ia oa.out 3).trans rfl,(ia oa.out 4).trans rfl,Nax,(Sa HB.out vQ),(Sa HB.out uQ),(Sa HB.out tQ),(Sa HB.out sQ),(Sa HB.out rQ),Wak,Vak⟩ (fun hHeld=>?_);clear hK K;refine Zq (a':=?_) ?_ ?_;rotate_left
                   ·show Act.put _ (some 61) _=_
                    simp only [Act.put,List.setIfInBounds_toArray,List.set_cons_zero,List.set_cons_succ,qc,tc]
                    rfl
                   refine Ud (i:=16) (N:=some 9) (v:=?_) (a':=?_) #[true,true,true,true,true,true,true,true,true,true,true,true,true,true,true,true,true] rfl rfl (yd Ug.out (by kernel_rfl)) (fun _ _ _ h=>h) (Or.inl ⟨by rfl,?_⟩) ?_ ?_;rotate_left
                   ·intro w';go_simp;with_reducible rfl
                   rotate_left
                   ·simp only [Act.put,List.setIfInBounds_toArray,List.set_cons_zero,List.set_cons_succ,qc,tc]
                    rfl
                   refine bu (Bp Ug.out (by kernel_rfl)) ?_
                   try go_wp2
                   go_loopg [5,10] k4 (fun kq v5 v10 w'=>∃ (Ki:List (List Bool)) (cD:Bool) (Sp:List Bool) (zf:Int),v5 = .bool cD∧v10 = .int .i64 zf∧ga (xb.l4 kq Ki cD ef t112 Yf Sp zf Qa Ja Ga Ia Aa=some r)∧ga (kq ≤ k4)∧ga (Kd.S (Kd.slice 4 Kd.bool) 60 w' w.heap.size (fun k_=>some k_ ≠ (Eae:Value).ownBlock) (.slice (some cH) jz.length bac) Ki)∧ga (Kd.R (Kd.int .i64) 3 w' w.heap.size (fun _=>True) (.slice (some uT) t112.length saj) t112)∧ga (Kd.R Kd.bool 4 w' w.heap.size (fun _=>True) Eae Sp)∧ga (w'.heap[ya]? = some (.cells #[(.slice Wa Qa.length Xa),.int .i64 Ja,.int .i64 Ga,.int .i64 Ia,(.slice (some Hj) Aa.length yb)] 30 (0,0)))∧ga (Below w.heap.size w w'))
                   case atStart=>exact ⟨(jz),(oU),(t119),(0),IaH,IaH,H',⟨Nat.le_refl _⟩,⟨by (with_reducible repeat (first|apply Kd.uf|apply Kd.tf|apply Kd.dg));exact Kd.Gj Qc.out (fun _ hk=>hk.2)⟩,⟨by (with_reducible repeat (first|apply Kd.mb|apply Kd.jb|apply Kd.Gb));exact rm.out⟩,⟨by (with_reducible repeat (first|apply Kd.mb|apply Kd.jb|apply Kd.Gb));exact Kd.Xd fal.out (fun _ hk=>trivial)⟩,⟨HaH⟩,⟨EaH⟩⟩
                   case round =>
                    clear H'
                    try clear c1
                    try clear p1
                    try clear q1
                    try clear hx1
                    try clear c2
                    try clear p2
                    try clear c4
                    try clear c5
                    try clear Nk
                    try clear c6
                    try clear Mp
                    try clear jD
                    try clear p6
                    try clear c7
                    try clear qm
                    try clear eu
                    try clear c8
                    try clear zG
                    try clear iL
                    try clear gL
                    try clear EW
                    try clear Yv
                    try clear Ym
                    try clear zm
                    try clear Ko
                    try clear Jo
                    try clear Ll
                    try clear Kr
                    try clear Dy
                    try clear AF
                    try clear zF
                    try clear ZX
                    try clear kD
                    try clear aH
                    try clear gG
                    try clear X9
                    try clear UC
                    try clear YX
                    try clear Eh
                    try clear Dh
                    try clear Ch
                    try clear Bh
                    try clear Ah
                    try clear zp
                    try clear yp
                    try clear xp
                    try clear vp
                    try clear qp
                    try clear WA
                    try clear VA
                    try clear UA
                    try clear TA
                    try clear SA
                    try clear Qh
                    try clear Ph
                    try clear Oh
                    try clear Nh
                    try clear Mh
                    try clear zh
                    try clear yh
                    try clear xh
                    try clear wh
                    try clear uh
                    try clear lp
                    try clear gp
                    try clear ep
                    try clear bp
                    try clear Zo
                    try clear DA
                    try clear CA
                    try clear BA
                    try clear AA
                    try clear zA
                    try clear Lh
                    try clear Kh
                    try clear Jh
                    try clear Ih
                    try clear Hh
                    try clear Kj
                    try clear vD
                    try clear uD
                    try clear tD
                    try clear sD
                    try clear SH
                    try clear Kz
                    try clear Jz
                    try clear Iz
                    try clear Hz
                    try clear Gz
                    try clear RH
                    try clear Fz
                    try clear p1
                    try clear iL
                    try clear Nt
                    try clear Z1
                    try clear Y1
                    try clear X1
                    try clear aW
                    try clear p2
                    try clear p6
                    try clear q1
                    try clear gL
                    try clear Mt
                    try clear U1
                    try clear T1
                    try clear S1
                    try clear ZV
                    (try clear HA);(try clear l8);(try clear Qc);(try clear rm);(try clear rB);(try clear oa);(try clear HB);obtain ⟨Ki,cD,Sp,zf,rfl,rfl,HA,l8,Qc,rm,rB,oa,HB⟩:=hrel;have Bl:=(Kd.me Qc.out).1;rw [Bl] at Qc;(try simp only [Bl]);(try simp only [Bl] at oa);(try simp only [Bl] at rm);(try simp only [Bl] at rB);cases gk with
                    | zero=>exact absurd HA.out (by simp [xb.l4])
                    | succ k5 =>
                     have H:=HA.out;clear HA;simp only [xb.l4] at H
                     by_cases zV:zf < Ia
                     ·rw [if_pos zV] at H;have Saj:decide (zf < Ia)=true:=decide_eq_true zV;clear zV
                      by_cases nE:0 ≤ zf
                      ·rw [if_pos nE] at H;have qT:decide (0 ≤ zf)=true:=decide_eq_true nE;clear nE
                       by_cases xF:zf < (Sp.length:Int)
                       ·rw [if_pos xF] at H;have pT:decide (zf < (Sp.length:Int))=true:=decide_eq_true xF;clear xF;obtain ⟨aak,CX⟩:∃ b_:Bool,b_=(sg false Sp zf):=⟨_,rfl⟩;replace H:(if aak=true then (if 0 ≤ ef then (if ef < (Ki.length:Int) then (if zf < ((Rc Ki ef).length:Int) then (if (sg false (Rc Ki ef) zf=true) then (xb.l4 k5 Ki cD ef t112 Yf Sp (wrap64 (zf + 1)) Qa Ja Ga Ia Aa) else (xb.l4 k5 (Ki.set (ef:Int).toNat ((Rc Ki ef).set (zf:Int).toNat true)) true ef t112 Yf Sp (wrap64 (zf + 1)) Qa Ja Ga Ia Aa)) else (none)) else (none)) else (none)) else (xb.l4 k5 Ki cD ef t112 Yf Sp (wrap64 (zf + 1)) Qa Ja Ga Ia Aa))=some r:=by rw [← CX] at H;exact H
                        have UM:=ga.mk CX;clear CX
                        by_cases c37:aak=true
                        ·subst c37;have H1:(if 0 ≤ ef then (if ef < (Ki.length:Int) then (if zf < ((Rc Ki ef).length:Int) then (if (sg false (Rc Ki ef) zf=true) then (xb.l4 k5 Ki cD ef t112 Yf Sp (wrap64 (zf + 1)) Qa Ja Ga Ia Aa) else (xb.l4 k5 (Ki.set (ef:Int).toNat ((Rc Ki ef).set (zf:Int).toNat true)) true ef t112 Yf Sp (wrap64 (zf + 1)) Qa Ja Ga Ia Aa)) else (none)) else (none)) else (none))=some r:=by rw [if_pos rfl] at H;exact H
                         clear H;have H:=H1;clear H1
                         by_cases yV:0 ≤ ef
                         ·rw [if_pos yV] at H;have S9:decide (0 ≤ ef)=true:=decide_eq_true yV;clear yV
                          by_cases L0:ef < (Ki.length:Int)
                          ·rw [if_pos L0] at H;have KaC:decide (ef < (Ki.length:Int))=true:=decide_eq_true L0;clear L0
                           by_cases c40:zf < ((Rc Ki ef).length:Int)
                           ·rw [if_pos c40] at H;have JaC:decide (zf < ((Rc Ki ef).length:Int))=true:=decide_eq_true c40;clear c40;obtain ⟨Zaj,BX⟩:∃ b_:Bool,b_=(sg false (Rc Ki ef) zf):=⟨_,rfl⟩;replace H:(if (Zaj=true) then (xb.l4 k5 Ki cD ef t112 Yf Sp (wrap64 (zf + 1)) Qa Ja Ga Ia Aa) else (xb.l4 k5 (Ki.set (ef:Int).toNat ((Rc Ki ef).set (zf:Int).toNat true)) true ef t112 Yf Sp (wrap64 (zf + 1)) Qa Ja Ga Ia Aa))=some r:=by rw [← BX] at H;exact H
                            have FT:=ga.mk BX;clear BX
                            by_cases c42:(Zaj=true)
                            ·subst c42;have H1:(xb.l4 k5 Ki cD ef t112 Yf Sp (wrap64 (zf + 1)) Qa Ja Ga Ia Aa)=some r:=by rw [if_pos rfl] at H;exact H
                             clear H;have H:=H1;clear H1;have H':=ga.mk H;clear H;have pS:wr.cell? ⟨ya,0,none⟩=some (.slice Wa Qa.length Xa):=(ia oa.out 0).trans rfl;have oS:wr.cell? ⟨ya,1,none⟩=some (.int .i64 Ja):=(ia oa.out 1).trans rfl;have nS:wr.cell? ⟨ya,2,none⟩=some (.int .i64 Ga):=(ia oa.out 2).trans rfl;have mS:wr.cell? ⟨ya,3,none⟩=some (.int .i64 Ia):=(ia oa.out 3).trans rfl;have lS:wr.cell? ⟨ya,4,none⟩=some (.slice (some Hj) Aa.length yb):=(ia oa.out 4).trans rfl;have dR:=aa oa.out 0;have cR:=aa oa.out 1;have bR:=aa oa.out 2;have ZQ:=aa oa.out 3;have YQ:=aa oa.out 4;obtain ⟨waG,TaE,Uaw⟩:=Kd.Bd rB.out;subst Uaw;have QE:0 ≤ (zf:Int):=Ua;have PE:zf < (Sp.length:Int):=Ua;obtain ⟨lY,QX,Cu⟩:=Kd.Mg (Kd.Vb rB.out).2.2 zf QE PE;(try rw [← UM.out] at Cu);(try rw [← FT.out] at Cu);cases QX;replace QE:=eq_true QE;replace PE:=eq_true PE;have AH:0 ≤ (ef:Int):=Ua;have yH:ef < (Ki.length:Int):=Ua;obtain ⟨kY,Wad,OO,Zab,Nw,lA,qA⟩:=Qo (Kd.me Qc.out).2.2 ef AH yH;obtain rfl:cH=kY:=(by injection Zab);obtain ⟨taj,ZN,dO,lF⟩:=Kd.Gy Qc.out [] ef AH (by first|exact yH|exact Ua|(have e_:=(Kd.me Qc.out).1;omega));obtain ⟨B1,rfl,Av⟩:=dO;have Qn:=lF 0 _ rfl;rw [Nat.add_zero,show ((Kd.slice 4 Kd.bool)).sz=1 from rfl,Nat.mul_one] at Qn;replace Qn:=Option.some.inj (Qn.symm.trans Nw);rw [Qn] at Av;have fU:=ga.mk (show Kd.R Kd.bool 4 _ _ _ _ (Rc Ki ef) from Av);clear Qn Av;have P7:=ga.mk Nw;clear lF ZN;have mB:=ga.mk qA;have o8:=ga.mk lA;clear qA lA;replace AH:=eq_true AH;replace yH:=eq_true yH;have KN:0 ≤ (zf:Int):=Ua;have HN:zf < ((Rc Ki ef).length:Int):=Ua;obtain ⟨hak,Yab,Mw⟩:=Kd.Mg (by repeat (first|(with_reducible exact mB.out)|(with_reducible refine Kd.Lb ?_ _)|(with_reducible refine Kd.Kb ?_ _)|(with_reducible refine Kd.Xb ?_)|exact mB.out)) zf KN HN;(try rw [← UM.out] at Mw);(try rw [← FT.out] at Mw);cases Yab;replace KN:=eq_true KN;replace HN:=eq_true HN;go_wp2;(try simp only [← Bl])
                             go_roundg k5
                             case measure=>have:=pg.out;have:=Cm.out;have:=Rp.out;have:=GZ.out;have:=l8.out;omega
                             case rel=>exact ⟨(Ki),(cD),(Sp),(wrap64 (zf + 1)),IaH,IaH,H',⟨by have:=pg.out;have:=Cm.out;have:=Rp.out;have:=GZ.out;have:=l8.out;omega⟩,⟨by (try simp only [Bl]);(with_reducible repeat (first|apply Kd.uf|apply Kd.tf|apply Kd.dg));exact Qc.out⟩,⟨by (try simp only [Bl]);(with_reducible repeat (first|apply Kd.mb|apply Kd.jb|apply Kd.Gb));exact rm.out⟩,⟨by (try simp only [Bl]);(with_reducible repeat (first|apply Kd.mb|apply Kd.jb|apply Kd.Gb));exact rB.out⟩,⟨by (try simp only [Bl]);(with_reducible repeat (first|refine Ba ?_ _|refine Fa ?_|refine Ca ?_ _));exact oa.out⟩,⟨EaH⟩⟩
                            ·replace c42:=Bool.eq_false_iff.mpr c42;subst c42;have H1:(xb.l4 k5 (Ki.set (ef:Int).toNat ((Rc Ki ef).set (zf:Int).toNat true)) true ef t112 Yf Sp (wrap64 (zf + 1)) Qa Ja Ga Ia Aa)=some r:=by rw [if_neg (show ¬ (false=true) by decide)] at H;exact H
                             clear H;have H:=H1;clear H1;obtain ⟨naa,JL⟩:∃ y_:List Bool,y_=((Rc Ki ef).set (zf:Int).toNat true):=⟨_,rfl⟩;replace H:(xb.l4 k5 (Ki.set (ef:Int).toNat naa) true ef t112 Yf Sp (wrap64 (zf + 1)) Qa Ja Ga Ia Aa)=some r:=by first|(rw [JL];with_reducible exact H)|(have Td:=(Option.bind_some _ _).symm.trans H;rw [JL];with_reducible exact Td)|(have Td:=(Option.bind_some _ _).symm.trans H;with_reducible exact Td)|with_reducible exact H|(rw [JL];exact H)|exact H
                             have rak:=ga.mk JL;clear JL;obtain ⟨maa,IL⟩:∃ y_:List (List Bool),y_=(Ki.set (ef:Int).toNat naa):=⟨_,rfl⟩;replace H:(xb.l4 k5 maa true ef t112 Yf Sp (wrap64 (zf + 1)) Qa Ja Ga Ia Aa)=some r:=by first|(rw [IL];with_reducible exact H)|(have Td:=(Option.bind_some _ _).symm.trans H;rw [IL];with_reducible exact Td)|(have Td:=(Option.bind_some _ _).symm.trans H;with_reducible exact Td)|with_reducible exact H|(rw [IL];exact H)|exact H
                             have qak:=ga.mk IL;clear IL;have H':=ga.mk H;clear H;have iS:wr.cell? ⟨ya,0,none⟩=some (.slice Wa Qa.length Xa):=(ia oa.out 0).trans rfl;have gS:wr.cell? ⟨ya,1,none⟩=some (.int .i64 Ja):=(ia oa.out 1).trans rfl;have fS:wr.cell? ⟨ya,2,none⟩=some (.int .i64 Ga):=(ia oa.out 2).trans rfl;have eS:wr.cell? ⟨ya,3,none⟩=some (.int .i64 Ia):=(ia oa.out 3).trans rfl;have dS:wr.cell? ⟨ya,4,none⟩=some (.slice (some Hj) Aa.length yb):=(ia oa.out 4).trans rfl;have VQ:=aa oa.out 0;have UQ:=aa oa.out 1;have TQ:=aa oa.out 2;have SQ:=aa oa.out 3;have RQ:=aa oa.out 4;obtain ⟨vaG,oax,Taw⟩:=Kd.Bd rB.out;subst Taw;have QE:0 ≤ (zf:Int):=Ua;have PE:zf < (Sp.length:Int):=Ua;obtain ⟨lY,QX,Cu⟩:=Kd.Mg (Kd.Vb rB.out).2.2 zf QE PE;(try rw [← UM.out] at Cu);(try rw [← FT.out] at Cu);cases QX;replace QE:=eq_true QE;replace PE:=eq_true PE;have AH:0 ≤ (ef:Int):=Ua;have yH:ef < (Ki.length:Int):=Ua;obtain ⟨kY,Wad,OO,Zab,Nw,lA,qA⟩:=Qo (Kd.me Qc.out).2.2 ef AH yH;obtain rfl:cH=kY:=(by injection Zab);obtain ⟨taj,ZN,dO,lF⟩:=Kd.Gy Qc.out [] ef AH (by first|exact yH|exact Ua|(have e_:=(Kd.me Qc.out).1;omega));obtain ⟨B1,rfl,Av⟩:=dO;have Qn:=lF 0 _ rfl;rw [Nat.add_zero,show ((Kd.slice 4 Kd.bool)).sz=1 from rfl,Nat.mul_one] at Qn;replace Qn:=Option.some.inj (Qn.symm.trans Nw);rw [Qn] at Av;have fU:=ga.mk (show Kd.R Kd.bool 4 _ _ _ _ (Rc Ki ef) from Av);clear Qn Av;have P7:=ga.mk Nw;clear lF ZN;have mB:=ga.mk qA;have o8:=ga.mk lA;clear qA lA;replace AH:=eq_true AH;replace yH:=eq_true yH;have KN:0 ≤ (zf:Int):=Ua;have HN:zf < ((Rc Ki ef).length:Int):=Ua;obtain ⟨hak,Yab,Mw⟩:=Kd.Mg (by repeat (first|(with_reducible exact mB.out)|(with_reducible refine Kd.Lb ?_ _)|(with_reducible refine Kd.Kb ?_ _)|(with_reducible refine Kd.Xb ?_)|exact mB.out)) zf KN HN;(try rw [← UM.out] at Mw);(try rw [← FT.out] at Mw);cases Yab;replace KN:=eq_true KN;replace HN:=eq_true HN;have V1:0 ≤ (ef:Int):=Ua;have R1:ef < (Ki.length:Int):=Ua;obtain ⟨gak,Pay,xax,fax,QH,xQ,DQ⟩:=Qo (Kd.me Qc.out).2.2 ef V1 R1;obtain rfl:cH=gak:=(by injection fax);obtain ⟨FaC,Hab,Lab,yX⟩:=Kd.Gy Qc.out [] ef V1 (by first|exact R1|exact Ua|(have e_:=(Kd.me Qc.out).1;omega));obtain ⟨kam,rfl,cK⟩:=Lab;have iA:=yX 0 _ rfl;rw [Nat.add_zero,show ((Kd.slice 4 Kd.bool)).sz=1 from rfl,Nat.mul_one] at iA;replace iA:=Option.some.inj (iA.symm.trans QH);rw [iA] at cK;have Xx:=ga.mk (show Kd.R Kd.bool 4 _ _ _ _ (Rc Ki ef) from cK);clear iA cK;have O7:=ga.mk QH;clear yX Hab;have Cat:=ga.mk DQ;have Lat:=ga.mk xQ;clear DQ xQ;replace V1:=eq_true V1;replace R1:=eq_true R1;have Kk:=Option.some.inj (Nw.symm.trans QH);injection Kk with Kk Xy Yy
                             subst Kk;subst Yy;clear Xy;have p45:0 ≤ (zf:Int):=Ua;have q45:(zf:Int) < (((Rc Ki ef).length:Int):Int):=Ua;obtain ⟨W6,SaE,kaj,aaj,Faw,caF,Gal⟩:=Kd.Ul Xx.out (by omega);(first|cases kaj|(injection kaj with Kk Xy Yy;(first|subst Kk|(injection Kk with Kk;subst Kk));subst Yy;clear Xy));have Cay:=ga.mk aaj;have haG:=ga.mk Gal;clear aaj Faw Gal;(first|simp only [add_plain] at Mw|skip);obtain ⟨Tau,eaw⟩:=Kd.Cj false Xx.out (zf:Int) p45 q45;replace p45:=eq_true p45;replace q45:=eq_true q45;have iav:(ef:Int) < (Ki.length:Int):=(by have h_:(ef:Int) < ((Ki.length:Int):Int):=Ua;first|exact h_|(have e_:=(Kd.me Qc.out).1;omega)|simpa only [List.length_set,List.length_set] using h_);obtain ⟨Pae,jaF,Hai,xaw,M9,V8,P9⟩:=Kd.rY Qc.out [] (ef:Int) (Ua) iav;obtain ⟨sau,rfl,bK⟩:=xaw;have N2:=M9 0 _ rfl;rw [Nat.add_zero,show ((Kd.slice 4 Kd.bool)).sz=1 from rfl,Nat.mul_one] at N2;replace N2:=Option.some.inj (N2.symm.trans O7.out);subst N2;clear M9 Hai;replace bK:=(show Kd.R Kd.bool 4 _ _ _ _ (Rc Ki ef) from bK);have sad:=Kd.yo bK (zf:Int) true;go_wp2_with (first|((with_reducible refine af (t:=4) (p:=87) rfl ?_);refine Ie (t:=4) (p:=87) (v:=?iau) (w1:=(wr.setCell ⟨W6,(zf:Int).toNat,none⟩ (.bool true))) ?hg ?ho ?hn ?hr ?_;(case ho=>rfl);(case hg=>rfl);(case hn=>rfl);(case hr=>first|(go_simp;done)|(go_simp;rfl));intro w49 hw;have hg:wr.grownBy w49 (some W6):=(by rw [hw];exact sad.2);have TN:Kd.R Kd.bool 4 w49 w.heap.size Pae (.slice (some ⟨W6,0,none⟩) (Rc Ki ef).length OO) naa:=(by rw [hw,rak.out];exact sad.1);have Pm:Kd.S (Kd.slice 4 Kd.bool) 60 w49 w.heap.size (fun k_=>some k_ ≠ (.slice (some lY) Sp.length oax:Value).ownBlock) (.slice (some cH) Ki.length bac) maa:=(by rw [qak.out];exact P9 hg (fun k_ e_=>by injection e_ with e_;subst e_;exact bK.1 _ rfl) (Kd.u_ TN));have hm_:=Kd.Xd TN V8;clear sad P9;have Cb:=ga.mk (Pm);have Eb:=ga.mk (Kd.Jv (v:=(.slice (some ⟨W6,0,none⟩) (Rc Ki ef).length OO)) (by (with_reducible repeat (first|apply Kd.mb|apply Kd.jb|apply Kd.Gb));exact rm.out) (Kd.Ht Xx.out) (by decide) hg);have Rb:=ga.mk (Kd.CY (by (with_reducible repeat (first|apply Kd.mb|apply Kd.jb|apply Kd.Gb));exact rB.out) rfl hg ((Xx.out.1 _ rfl).1));have Gc:=ga.mk (xd (g:=ya) (o:=.cells #[.slice Wa Qa.length Xa,.int .i64 Ja,.int .i64 Ga,.int .i64 Ia,.slice (some Hj) Aa.length yb] 30 (0,0)) DaH hg (Kd.Fk Xx.out oa.out (by decide)));have kg:=ga.mk ((by rw [hw];exact ua (HB.out) Cay.out:Below w.heap.size w w49));have Rg:=ga.mk (hm_);have Vh:=ga.mk ((Kd.Vb hm_).2.1);clear Qc rm rB oa HB fU Xx;have Qc:=Cb;have rm:=Eb;have rB:=Rb;have oa:=Gc;have HB:=kg;have YaC:=Rg;have haD:=Vh;clear Cb Eb Rb Gc kg Rg Vh hg hw Pm TN hm_ V8));(try simp only [← Bl])
                             go_roundg k5
                             case measure=>have:=pg.out;have:=Cm.out;have:=Rp.out;have:=GZ.out;have:=l8.out;omega
                             case rel=>exact ⟨(maa),(true),(Sp),(wrap64 (zf + 1)),IaH,IaH,H',⟨by have:=pg.out;have:=Cm.out;have:=Rp.out;have:=GZ.out;have:=l8.out;omega⟩,⟨by (try simp only [Bl]);(with_reducible repeat (first|apply Kd.uf|apply Kd.tf|apply Kd.dg));exact Qc.out⟩,⟨by (try simp only [Bl]);(with_reducible repeat (first|apply Kd.mb|apply Kd.jb|apply Kd.Gb));exact rm.out⟩,⟨by (try simp only [Bl]);(with_reducible repeat (first|apply Kd.mb|apply Kd.jb|apply Kd.Gb));exact rB.out⟩,⟨by (try simp only [Bl]);(with_reducible repeat (first|refine Ba ?_ _|refine Fa ?_|refine Ca ?_ _));exact oa.out⟩,⟨EaH⟩⟩
                           ·rw [if_neg c40] at H;exact absurd H (by simp)
                          ·rw [if_neg L0] at H;exact absurd H (by simp)
                         ·rw [if_neg yV] at H;exact absurd H (by simp)
                        ·replace c37:=Bool.eq_false_iff.mpr c37;subst c37;have H1:(xb.l4 k5 Ki cD ef t112 Yf Sp (wrap64 (zf + 1)) Qa Ja Ga Ia Aa)=some r:=by rw [if_neg (show ¬ (false=true) by decide)] at H;exact H
                         clear H;have H:=H1;clear H1;have H':=ga.mk H;clear H;have cS:wr.cell? ⟨ya,0,none⟩=some (.slice Wa Qa.length Xa):=(ia oa.out 0).trans rfl;have bS:wr.cell? ⟨ya,1,none⟩=some (.int .i64 Ja):=(ia oa.out 1).trans rfl;have ZR:wr.cell? ⟨ya,2,none⟩=some (.int .i64 Ga):=(ia oa.out 2).trans rfl;have YR:wr.cell? ⟨ya,3,none⟩=some (.int .i64 Ia):=(ia oa.out 3).trans rfl;have XR:wr.cell? ⟨ya,4,none⟩=some (.slice (some Hj) Aa.length yb):=(ia oa.out 4).trans rfl;have OQ:=aa oa.out 0;have NQ:=aa oa.out 1;have MQ:=aa oa.out 2;have LQ:=aa oa.out 3;have KQ:=aa oa.out 4;obtain ⟨taG,RaE,Saw⟩:=Kd.Bd rB.out;subst Saw;have QE:0 ≤ (zf:Int):=Ua;have PE:zf < (Sp.length:Int):=Ua;obtain ⟨lY,QX,Cu⟩:=Kd.Mg (Kd.Vb rB.out).2.2 zf QE PE;(try rw [← UM.out] at Cu);cases QX;replace QE:=eq_true QE;replace PE:=eq_true PE;go_wp2;(try simp only [← Bl])
                         go_roundg k5
                         case measure=>have:=pg.out;have:=Cm.out;have:=Rp.out;have:=GZ.out;have:=l8.out;omega
                         case rel=>exact ⟨(Ki),(cD),(Sp),(wrap64 (zf + 1)),IaH,IaH,H',⟨by have:=pg.out;have:=Cm.out;have:=Rp.out;have:=GZ.out;have:=l8.out;omega⟩,⟨by (try simp only [Bl]);(with_reducible repeat (first|apply Kd.uf|apply Kd.tf|apply Kd.dg));exact Qc.out⟩,⟨by (try simp only [Bl]);(with_reducible repeat (first|apply Kd.mb|apply Kd.jb|apply Kd.Gb));exact rm.out⟩,⟨by (try simp only [Bl]);(with_reducible repeat (first|apply Kd.mb|apply Kd.jb|apply Kd.Gb));exact rB.out⟩,⟨by (try simp only [Bl]);(with_reducible repeat (first|refine Ba ?_ _|refine Fa ?_|refine Ca ?_ _));exact oa.out⟩,⟨EaH⟩⟩
                       ·rw [if_neg xF] at H;exact absurd H (by simp)
                      ·rw [if_neg nE] at H;exact absurd H (by simp)
                     ·rw [if_neg zV] at H;have Saj:decide (zf < Ia)=false:=decide_eq_false zV;clear zV;have H':=ga.mk H;clear H;have kJ:wr.cell? ⟨ya,0,none⟩=some (.slice Wa Qa.length Xa):=(ia oa.out 0).trans rfl;have jJ:wr.cell? ⟨ya,1,none⟩=some (.int .i64 Ja):=(ia oa.out 1).trans rfl;have iJ:wr.cell? ⟨ya,2,none⟩=some (.int .i64 Ga):=(ia oa.out 2).trans rfl;have hJ:wr.cell? ⟨ya,3,none⟩=some (.int .i64 Ia):=(ia oa.out 3).trans rfl;have gJ:wr.cell? ⟨ya,4,none⟩=some (.slice (some Hj) Aa.length yb):=(ia oa.out 4).trans rfl;have gI:=aa oa.out 0;have fI:=aa oa.out 1;have eI:=aa oa.out 2;have dI:=aa oa.out 3;have cI:=aa oa.out 4;go_wp2;(try simp only [← Bl])
                      go_roundg k5
                      case measure=>have:=pg.out;have:=Cm.out;have:=Rp.out;have:=GZ.out;have:=l8.out;omega
                      case rel=>exact ⟨(Ki),(cD),(wrap64 (Yf + 1)),IaH,IaH,H',⟨by have:=pg.out;have:=Cm.out;have:=Rp.out;have:=GZ.out;have:=l8.out;omega⟩,⟨by (try simp only [Bl]);(with_reducible repeat (first|apply Kd.uf|apply Kd.tf|apply Kd.dg));exact Kd.Gj Qc.out (fun _ hk=>trivial)⟩,⟨by (try simp only [Bl]);(with_reducible repeat (first|apply Kd.mb|apply Kd.jb|apply Kd.Gb));exact rm.out⟩,⟨by (try simp only [Bl]);(with_reducible repeat (first|refine Ba ?_ _|refine Fa ?_|refine Ca ?_ _));exact oa.out⟩,⟨EaH⟩⟩
                  ·rw [if_neg UC] at H;exact absurd H (by simp)
                 ·rw [if_neg gG] at H;exact absurd H (by simp)
                ·rw [if_neg kD] at H;exact absurd H (by simp)
               ·rw [if_neg zF] at H;exact absurd H (by simp)
              ·rw [if_neg Dy] at H;have AF:decide (Yf < (t112.length:Int))=false:=decide_eq_false Dy;clear Dy;have H':=ga.mk H;clear H;obtain ⟨saG,paj,Z6⟩:=Kd.Bd rm.out;subst Z6;go_wp2
               go_roundg k4
               case measure=>have:=pg.out;have:=Cm.out;have:=Rp.out;have:=GZ.out;omega
               case rel=>exact ⟨(jz),(oU),(wrap64 (ef - 1)),IaH,IaH,H',⟨by have:=pg.out;have:=Cm.out;have:=Rp.out;have:=GZ.out;omega⟩,⟨caI⟩,⟨HaH⟩,⟨EaH⟩⟩
           ·rw [if_neg Ll] at H;exact absurd H (by simp)
          ·rw [if_neg Ko] at H;exact absurd H (by simp)
         ·rw [if_neg Ym] at H;have zm:decide (0 ≤ ef)=false:=decide_eq_false Ym;clear Ym;have H':=ga.mk H;clear H;go_wp2
          go_roundg k3
          case measure=>have:=pg.out;have:=Cm.out;have:=Rp.out;omega
          case rel=>exact ⟨(Ep),(Af),IaH,H',⟨by have:=pg.out;have:=Cm.out;have:=Rp.out;omega⟩,⟨caI⟩,⟨HaH⟩,⟨EaH⟩⟩
      ·replace Yv:=Bool.eq_false_iff.mpr Yv;subst Yv;have H1:(some Tp)=some r:=by rw [if_neg (show ¬ (false=true) by decide)] at H;exact H
       clear H;have H:=H1;clear H1;obtain rfl:=Option.some.inj H;go_wp2;go_ret;exact ⟨_,by first|rfl|(simp [Pa,Oa] <;> rfl)|(simp [*,Pa,Oa] <;> rfl),caI,EaH⟩
def nj.f (l0:List Int) (a1:Int):Option (Int):=if (wrap64 (a1 - (l0.length:Int))) < 0 then (some (-1)) else (some (wrap64 (a1 - (l0.length:Int))))
theorem nj.calls (A0:Option Addr) (c0:Nat) (l0:List Int) (a1:Int) (r:Int) (w:World) (Om:Kd.C (Kd.int .i64) w A0 l0.length l0) (hc0:l0.length ≤ c0) (h:nj.f l0 a1=some r) :
  Calls Try.prog 38 #[.slice A0 l0.length c0,.int .i64 a1] w fun e w'=>e = .returned (.int .i64 r)∧Xc w w':=by
 have Io:=ga.mk Om;have dN:=ga.mk hc0;clear Om hc0;have H:(if (wrap64 (a1 - (l0.length:Int))) < 0 then (some (-1)) else (some (wrap64 (a1 - (l0.length:Int)))))=some r:=h;clear h
 by_cases c3:(wrap64 (a1 - (l0.length:Int))) < 0
 ·rw [if_pos c3] at H;have Qi:decide ((wrap64 (a1 - (l0.length:Int))) < 0)=true:=decide_eq_true c3;clear c3;obtain rfl:=Option.some.inj H;go_enter Try.func38,Try.ntmps38;go_wp2;go_ret;exact ⟨by first|rfl|(simp;done)|(simp [*];done),OaH⟩
 ·rw [if_neg c3] at H;have Qi:decide ((wrap64 (a1 - (l0.length:Int))) < 0)=false:=decide_eq_false c3;clear c3;obtain rfl:=Option.some.inj H;go_enter Try.func38,Try.ntmps38;go_wp2;go_ret;exact ⟨by first|rfl|(simp;done)|(simp [*];done),OaH⟩
def bk.f (Qb:Int) (Ja:Int) (Ga:Int) (Ia:Int) (Db:Int) (Dc:Int) (Bc:ByteArray) (a1:Int):Option (Int):=if (wrap64 (a1 - (Bc.size:Int))) < 0 then (some (-1)) else (some (wrap64 (a1 - (Bc.size:Int))))
theorem bk.calls (Qb:Int) (Ja:Int) (Ga:Int) (Ia:Int) (Db:Int) (Dc:Int) (Bc:ByteArray) (a1:Int) (r:Int) (w:World) (h:bk.f Qb Ja Ga Ia Db Dc Bc a1=some r) :
  Calls Try.prog 112 #[.agg #[.int .i64 Qb,.int .i64 Ja,.int .i64 Ga,.int .i64 Ia,.int .i64 Db,.int .i64 Dc,.string Bc],.int .i64 a1] w fun e w'=>e = .returned (.int .i64 r)∧Below w.heap.size w w':=by
 have MW:=Try.underlying124;have HB:=ga.mk (Below.refl w.heap.size w);have H:(if (wrap64 (a1 - (Bc.size:Int))) < 0 then (some (-1)) else (some (wrap64 (a1 - (Bc.size:Int)))))=some r:=h;clear h
 by_cases c3:(wrap64 (a1 - (Bc.size:Int))) < 0
 ·rw [if_pos c3] at H;have Qi:decide ((wrap64 (a1 - (Bc.size:Int))) < 0)=true:=decide_eq_true c3;clear c3;obtain rfl:=Option.some.inj H;go_enter Try.func112,Try.ntmps112;go_wp2_with (first|((with_reducible refine qb (N:=2) rfl ?_);refine Ib ?hg (N:=2) ?hd (cs:=#[.int .i64 Qb,.int .i64 Ja,.int .i64 Ga,.int .i64 Ia,.int .i64 Db,.int .i64 Dc,.string Bc]) (t:=124) ?hr ?_;(case hd=>rfl);(case hg=>rfl);(case hr=>first|(go_simp;done)|(go_simp;rfl));intro ya hg w4 Sb hb;have Cb:=ga.mk (Na CaH hb);have Eb:=ga.mk (Sb);have Rb:=ga.mk ((by rw [hg];exact (La CaH):w.heap.size ≤ ya));have Gc:=ga.mk ((by rw [hg];exact (La CaH):w.heap.size ≤ ya));clear HB;have HB:=Cb;have oa:=Eb;have Nd:=Rb;have Ta:=Gc;clear Cb Eb Rb Gc hb Sb hg;have gC:w4.cell? ⟨ya,0,none⟩=some (.int .i64 Qb):=(ia oa.out 0).trans rfl;have fC:w4.cell? ⟨ya,1,none⟩=some (.int .i64 Ja):=(ia oa.out 1).trans rfl;have eC:w4.cell? ⟨ya,2,none⟩=some (.int .i64 Ga):=(ia oa.out 2).trans rfl;have cC:w4.cell? ⟨ya,3,none⟩=some (.int .i64 Ia):=(ia oa.out 3).trans rfl;have bC:w4.cell? ⟨ya,4,none⟩=some (.int .i64 Db):=(ia oa.out 4).trans rfl;have naw:w4.cell? ⟨ya,5,none⟩=some (.int .i64 Dc):=(ia oa.out 5).trans rfl;have maw:w4.cell? ⟨ya,6,none⟩=some (.string Bc):=(ia oa.out 6).trans rfl;have UB:=aa oa.out 0;have SB:=aa oa.out 1;have RB:=aa oa.out 2;have QB:=aa oa.out 3;have OB:=aa oa.out 4;have baw:=aa oa.out 5;have aaw:=aa oa.out 6));go_ret;exact ⟨by first|rfl|(simp [Pa,Oa] <;> rfl)|(simp [*,Pa,Oa] <;> rfl),EaH⟩
 ·rw [if_neg c3] at H;have Qi:decide ((wrap64 (a1 - (Bc.size:Int))) < 0)=false:=decide_eq_false c3;clear c3;obtain rfl:=Option.some.inj H;go_enter Try.func112,Try.ntmps112;go_wp2_with (first|((with_reducible refine qb (N:=2) rfl ?_);refine Ib ?hg (N:=2) ?hd (cs:=#[.int .i64 Qb,.int .i64 Ja,.int .i64 Ga,.int .i64 Ia,.int .i64 Db,.int .i64 Dc,.string Bc]) (t:=124) ?hr ?_;(case hd=>rfl);(case hg=>rfl);(case hr=>first|(go_simp;done)|(go_simp;rfl));intro ya hg w6 Sb hb;have Cb:=ga.mk (Na CaH hb);have Eb:=ga.mk (Sb);have Rb:=ga.mk ((by rw [hg];exact (La CaH):w.heap.size ≤ ya));have Gc:=ga.mk ((by rw [hg];exact (La CaH):w.heap.size ≤ ya));clear HB;have HB:=Cb;have oa:=Eb;have Nd:=Rb;have Ta:=Gc;clear Cb Eb Rb Gc hb Sb hg;have Dk:w6.cell? ⟨ya,0,none⟩=some (.int .i64 Qb):=(ia oa.out 0).trans rfl;have Ck:w6.cell? ⟨ya,1,none⟩=some (.int .i64 Ja):=(ia oa.out 1).trans rfl;have Bk:w6.cell? ⟨ya,2,none⟩=some (.int .i64 Ga):=(ia oa.out 2).trans rfl;have Ak:w6.cell? ⟨ya,3,none⟩=some (.int .i64 Ia):=(ia oa.out 3).trans rfl;have zk:w6.cell? ⟨ya,4,none⟩=some (.int .i64 Db):=(ia oa.out 4).trans rfl;have fJ:w6.cell? ⟨ya,5,none⟩=some (.int .i64 Dc):=(ia oa.out 5).trans rfl;have eJ:w6.cell? ⟨ya,6,none⟩=some (.string Bc):=(ia oa.out 6).trans rfl;have xk:=aa oa.out 0;have vk:=aa oa.out 1;have uk:=aa oa.out 2;have sk:=aa oa.out 3;have qk:=aa oa.out 4;have bI:=aa oa.out 5;have ZH:=aa oa.out 6));go_ret;exact ⟨by first|rfl|(simp [Pa,Oa] <;> rfl)|(simp [*,Pa,Oa] <;> rfl),EaH⟩
def qe.l0:Nat→List (Np)→Int→Int→Option (Int)
 | 0,_,_,_=>none
 | k + 1,x0,x1,x5=>if x5 < (x0.length:Int) then (if 0 ≤ x5 then ((bk.f ((Vc x0 x5).f0) ((Vc x0 x5).f1) ((Vc x0 x5).f2) ((Vc x0 x5).f3) ((Vc x0 x5).f4) ((Vc x0 x5).f5) ((Vc x0 x5).f6) x1).bind fun t102=>(if t102 < 0 then (some (-1)) else (qe.l0 k x0 t102 (wrap64 (x5 + 1))))) else (none)) else (some x1)
def qe.f (k:Nat) (l0:List (Np)) (a1:Int):Option (Int):=if (wrap64 (a1 - (l0.length:Int))) < 0 then (some (-1)) else (qe.l0 k l0 (wrap64 (a1 - (l0.length:Int))) 0)
theorem qe.calls (k:Nat) (A0:Option Addr) (c0:Nat) (l0:List (Np)) (a1:Int) (r:Int) (w:World) (Om:Kd.C ZE w A0 l0.length l0) (hc0:l0.length ≤ c0) (h:qe.f k l0 a1=some r) :
  Calls Try.prog 96 #[.slice A0 l0.length c0,.int .i64 a1] w fun e w'=>e = .returned (.int .i64 r)∧Below w.heap.size w w':=by
 have MW:=Try.underlying124;have Io:=ga.mk Om;have dN:=ga.mk hc0;clear Om hc0;have HB:=ga.mk (Below.refl w.heap.size w);have H:(if (wrap64 (a1 - (l0.length:Int))) < 0 then (some (-1)) else (qe.l0 k l0 (wrap64 (a1 - (l0.length:Int))) 0))=some r:=h;clear h
 by_cases c3:(wrap64 (a1 - (l0.length:Int))) < 0
 ·rw [if_pos c3] at H;have Qi:decide ((wrap64 (a1 - (l0.length:Int))) < 0)=true:=decide_eq_true c3;clear c3;obtain rfl:=Option.some.inj H;go_enter Try.func96,Try.ntmps96;go_wp2;go_ret;exact ⟨by first|rfl|(simp [Pa,Oa] <;> rfl)|(simp [*,Pa,Oa] <;> rfl),JaH⟩
 ·rw [if_neg c3] at H;have Qi:decide ((wrap64 (a1 - (l0.length:Int))) < 0)=false:=decide_eq_false c3;clear c3;have H':=ga.mk H;clear H;go_enter Try.func96,Try.ntmps96;go_wp2
  go_loopg [1,5] k (fun kq v1 v5 w'=>∃ (Me:Int) (Ka:Int),v1 = .int .i64 Me∧v5 = .int .i64 Ka∧ga (qe.l0 kq l0 Me Ka=some r)∧ga (kq ≤ k)∧ga (Below w.heap.size w w'))
  case atStart=>exact ⟨(wrap64 (a1 - (l0.length:Int))),(0),IaH,IaH,H',⟨Nat.le_refl _⟩,⟨JaH⟩⟩
  case round =>
   clear H'
   try clear p2
   try clear c3
   try clear Qi
   (try clear HA);(try clear pg);(try clear HB);obtain ⟨Me,Ka,rfl,rfl,HA,pg,HB⟩:=hrel;cases gk with
   | zero=>exact absurd HA.out (by simp [qe.l0])
   | succ k1 =>
    have H:=HA.out;clear HA;simp only [qe.l0] at H
    by_cases c4:Ka < (l0.length:Int)
    ·rw [if_pos c4] at H;have Tl:decide (Ka < (l0.length:Int))=true:=decide_eq_true c4;clear c4
     by_cases c5:0 ≤ Ka
     ·rw [if_pos c5] at H;have Nk:decide (0 ≤ Ka)=true:=decide_eq_true c5;clear c5;replace H:=Option.bind_eq_some_iff.mp H;obtain ⟨t102,A60,H⟩:=H;replace H:(if t102 < 0 then (some (-1)) else (qe.l0 k1 l0 t102 (wrap64 (Ka + 1))))=some r:=H;have A6:=ga.mk A60;clear A60
      by_cases c7:t102 < 0
      ·rw [if_pos c7] at H;have qm:decide (t102 < 0)=true:=decide_eq_true c7;clear c7;obtain rfl:=Option.some.inj H;have wg:0 ≤ (Ka:Int):=Ua;have ug:Ka < (l0.length:Int):=Ua;obtain ⟨Ze,Sl,Ge,Pf,Nf,Mf,Lf,nk,jk⟩:=sK Io.out Ka wg ug;cases Sl;replace Ge:=Sa HB.out Ge;replace Pf:=Sa HB.out Pf;replace Nf:=Sa HB.out Nf;replace Mf:=Sa HB.out Mf;replace Lf:=Sa HB.out Lf;replace nk:=Sa HB.out nk;replace jk:=Sa HB.out jk;replace wg:=eq_true wg;replace ug:=eq_true ug;go_wp2_with (first|((with_reducible refine Bb (f:=112) rfl ?_);refine Tc (some 23) rfl rfl Try.func112 (by kernel_rfl) rfl #[.agg #[.int .i64 ((Vc l0 Ka).f0),.int .i64 ((Vc l0 Ka).f1),.int .i64 ((Vc l0 Ka).f2),.int .i64 ((Vc l0 Ka).f3),.int .i64 ((Vc l0 Ka).f4),.int .i64 ((Vc l0 Ka).f5),.string ((Vc l0 Ka).f6)],.int .i64 Me] rfl FaH ?_;(with_reducible refine (bk.calls ((Vc l0 Ka).f0) ((Vc l0 Ka).f1) ((Vc l0 Ka).f2) ((Vc l0 Ka).f3) ((Vc l0 Ka).f4) ((Vc l0 Ka).f5) ((Vc l0 Ka).f6) Me t102 _ A6.out).mono ?_);rintro e w8 ⟨rfl,hb⟩;refine ⟨_,rfl,?_⟩;have Cb:=ga.mk (Na CaH hb);clear HB;have HB:=Cb;clear Cb;(try clear hb);(try clear jj);(try clear hk);(try clear hi)));go_ret;exact ⟨by first|rfl|(simp [Pa,Oa] <;> rfl)|(simp [*,Pa,Oa] <;> rfl),JaH⟩
      ·rw [if_neg c7] at H;have qm:decide (t102 < 0)=false:=decide_eq_false c7;clear c7;have H':=ga.mk H;clear H;have wg:0 ≤ (Ka:Int):=Ua;have ug:Ka < (l0.length:Int):=Ua;obtain ⟨Ze,Sl,Ge,Pf,Nf,Mf,Lf,nk,jk⟩:=sK Io.out Ka wg ug;cases Sl;replace Ge:=Sa HB.out Ge;replace Pf:=Sa HB.out Pf;replace Nf:=Sa HB.out Nf;replace Mf:=Sa HB.out Mf;replace Lf:=Sa HB.out Lf;replace nk:=Sa HB.out nk;replace jk:=Sa HB.out jk;replace wg:=eq_true wg;replace ug:=eq_true ug;go_wp2_with (first|((with_reducible refine Bb (f:=112) rfl ?_);refine Tc (some 23) rfl rfl Try.func112 (by kernel_rfl) rfl #[.agg #[.int .i64 ((Vc l0 Ka).f0),.int .i64 ((Vc l0 Ka).f1),.int .i64 ((Vc l0 Ka).f2),.int .i64 ((Vc l0 Ka).f3),.int .i64 ((Vc l0 Ka).f4),.int .i64 ((Vc l0 Ka).f5),.string ((Vc l0 Ka).f6)],.int .i64 Me] rfl FaH ?_;(with_reducible refine (bk.calls ((Vc l0 Ka).f0) ((Vc l0 Ka).f1) ((Vc l0 Ka).f2) ((Vc l0 Ka).f3) ((Vc l0 Ka).f4) ((Vc l0 Ka).f5) ((Vc l0 Ka).f6) Me t102 _ A6.out).mono ?_);rintro e w9 ⟨rfl,hb⟩;refine ⟨_,rfl,?_⟩;have Cb:=ga.mk (Na CaH hb);clear HB;have HB:=Cb;clear Cb;(try clear hb);(try clear jj);(try clear hk);(try clear hi)))
       go_roundg k1
       case measure=>have:=pg.out;omega
       case rel=>exact ⟨(t102),(wrap64 (Ka + 1)),IaH,IaH,H',⟨by have:=pg.out;omega⟩,⟨JaH⟩⟩
     ·rw [if_neg c5] at H;exact absurd H (by simp)
    ·rw [if_neg c4] at H;have Tl:decide (Ka < (l0.length:Int))=false:=decide_eq_false c4;clear c4;obtain rfl:=Option.some.inj H;go_wp2;go_ret;exact ⟨by first|rfl|(simp [Pa,Oa] <;> rfl)|(simp [*,Pa,Oa] <;> rfl),JaH⟩
def ck.f (k:Nat) (Qa:List (Np)) (Ja:Int) (Ga:Int) (Ia:Int) (Db:Int) (a1:Int):Option (Int):=(qe.f k Qa a1).bind fun t102=>(if t102 < 0 then (some (-1)) else (some t102))
theorem ck.calls (k:Nat) (Wa:Option Addr) (Xa:Nat) (Qa:List (Np)) (Ja:Int) (Ga:Int) (Ia:Int) (Db:Int) (a1:Int) (r:Int) (w:World) (Od:Kd.C ZE w Wa Qa.length Qa) (Md:Qa.length ≤ Xa) (h:ck.f k Qa Ja Ga Ia Db a1=some r) :
  Calls Try.prog 70 #[.agg #[.slice Wa Qa.length Xa,.int .i64 Ja,.int .i64 Ga,.int .i64 Ia,.int .i64 Db],.int .i64 a1] w fun e w'=>e = .returned (.int .i64 r)∧Below w.heap.size w w':=by
 have eab:=Try.underlying86;have fe:=ga.mk Od;have ye:=ga.mk Md;clear Od Md;have HB:=ga.mk (Below.refl w.heap.size w);have H:((qe.f k Qa a1).bind fun t102=>(if t102 < 0 then (some (-1)) else (some t102)))=some r:=h;clear h;replace H:=Option.bind_eq_some_iff.mp H;obtain ⟨t102,Zv,H⟩:=H;replace H:(if t102 < 0 then (some (-1)) else (some t102))=some r:=H;have A3:=ga.mk Zv;clear Zv
 by_cases c4:t102 < 0
 ·rw [if_pos c4] at H;have Tl:decide (t102 < 0)=true:=decide_eq_true c4;clear c4;obtain rfl:=Option.some.inj H;go_enter Try.func70,Try.ntmps70;go_wp2_with (first|((with_reducible refine qb (N:=2) rfl ?_);refine Ib ?hg (N:=2) ?hd (cs:=#[.slice Wa Qa.length Xa,.int .i64 Ja,.int .i64 Ga,.int .i64 Ia,.int .i64 Db]) (t:=86) ?hr ?_;(case hd=>rfl);(case hg=>rfl);(case hr=>first|(go_simp;done)|(go_simp;rfl));intro ya hg w5 Sb hb;have Cb:=ga.mk (Na CaH hb);have Eb:=ga.mk (Sb);have Rb:=ga.mk ((by rw [hg];exact (La CaH):w.heap.size ≤ ya));have Gc:=ga.mk ((by rw [hg];exact (La CaH):w.heap.size ≤ ya));clear HB;have HB:=Cb;have oa:=Eb;have Nd:=Rb;have Ta:=Gc;clear Cb Eb Rb Gc hb Sb hg;have ur:w5.cell? ⟨ya,0,none⟩=some (.slice Wa Qa.length Xa):=(ia oa.out 0).trans rfl;have tr:w5.cell? ⟨ya,1,none⟩=some (.int .i64 Ja):=(ia oa.out 1).trans rfl;have sr:w5.cell? ⟨ya,2,none⟩=some (.int .i64 Ga):=(ia oa.out 2).trans rfl;have nr:w5.cell? ⟨ya,3,none⟩=some (.int .i64 Ia):=(ia oa.out 3).trans rfl;have kr:w5.cell? ⟨ya,4,none⟩=some (.int .i64 Db):=(ia oa.out 4).trans rfl;have jr:=aa oa.out 0;have ir:=aa oa.out 1;have gr:=aa oa.out 2;have er:=aa oa.out 3;have dr:=aa oa.out 4)|((with_reducible refine Bb (f:=96) rfl ?_);refine Tc (some 8) rfl rfl Try.func96 (by kernel_rfl) rfl #[.slice Wa Qa.length Xa,.int .i64 a1] rfl FaH ?_;(with_reducible refine (qe.calls k _ _ Qa a1 t102 _ ?yc ?uc A3.out).mono ?_);(case yc=>repeat (first|exact (Kd.Ab fe.out HB.out)|(with_reducible refine Kd.Lb ?_ _)|(with_reducible refine Kd.Kb ?_ _)|(with_reducible refine Kd.Xb ?_)));(case uc=>exact ye.out);rintro e w7 ⟨rfl,hb⟩;refine ⟨_,rfl,?_⟩;have Cb:=ga.mk (Va (g:=ya) (o:=.cells #[.slice Wa Qa.length Xa,.int .i64 Ja,.int .i64 Ga,.int .i64 Ia,.int .i64 Db] 86 (0,0)) DaH hb);have Eb:=ga.mk (Na BaH hb);clear oa HB;have oa:=Cb;have HB:=Eb;clear Cb Eb;(try clear hb);(try clear jj);(try clear hk);(try clear hi)));go_ret;exact ⟨by first|rfl|(simp [Pa,Oa] <;> rfl)|(simp [*,Pa,Oa] <;> rfl),EaH⟩
 ·rw [if_neg c4] at H;have Tl:decide (t102 < 0)=false:=decide_eq_false c4;clear c4;obtain rfl:=Option.some.inj H;go_enter Try.func70,Try.ntmps70;go_wp2_with (first|((with_reducible refine qb (N:=2) rfl ?_);refine Ib ?hg (N:=2) ?hd (cs:=#[.slice Wa Qa.length Xa,.int .i64 Ja,.int .i64 Ga,.int .i64 Ia,.int .i64 Db]) (t:=86) ?hr ?_;(case hd=>rfl);(case hg=>rfl);(case hr=>first|(go_simp;done)|(go_simp;rfl));intro ya hg w8 Sb hb;have Cb:=ga.mk (Na CaH hb);have Eb:=ga.mk (Sb);have Rb:=ga.mk ((by rw [hg];exact (La CaH):w.heap.size ≤ ya));have Gc:=ga.mk ((by rw [hg];exact (La CaH):w.heap.size ≤ ya));clear HB;have HB:=Cb;have oa:=Eb;have Nd:=Rb;have Ta:=Gc;clear Cb Eb Rb Gc hb Sb hg;have Qh:w8.cell? ⟨ya,0,none⟩=some (.slice Wa Qa.length Xa):=(ia oa.out 0).trans rfl;have Ph:w8.cell? ⟨ya,1,none⟩=some (.int .i64 Ja):=(ia oa.out 1).trans rfl;have Oh:w8.cell? ⟨ya,2,none⟩=some (.int .i64 Ga):=(ia oa.out 2).trans rfl;have Nh:w8.cell? ⟨ya,3,none⟩=some (.int .i64 Ia):=(ia oa.out 3).trans rfl;have Mh:w8.cell? ⟨ya,4,none⟩=some (.int .i64 Db):=(ia oa.out 4).trans rfl;have Lh:=aa oa.out 0;have Kh:=aa oa.out 1;have Jh:=aa oa.out 2;have Ih:=aa oa.out 3;have Hh:=aa oa.out 4)|((with_reducible refine Bb (f:=96) rfl ?_);refine Tc (some 8) rfl rfl Try.func96 (by kernel_rfl) rfl #[.slice Wa Qa.length Xa,.int .i64 a1] rfl FaH ?_;(with_reducible refine (qe.calls k _ _ Qa a1 t102 _ ?yc ?uc A3.out).mono ?_);(case yc=>repeat (first|exact (Kd.Ab fe.out HB.out)|(with_reducible refine Kd.Lb ?_ _)|(with_reducible refine Kd.Kb ?_ _)|(with_reducible refine Kd.Xb ?_)));(case uc=>exact ye.out);rintro e Yp ⟨rfl,hb⟩;refine ⟨_,rfl,?_⟩;have Cb:=ga.mk (Va (g:=ya) (o:=.cells #[.slice Wa Qa.length Xa,.int .i64 Ja,.int .i64 Ga,.int .i64 Ia,.int .i64 Db] 86 (0,0)) DaH hb);have Eb:=ga.mk (Na BaH hb);clear oa HB;have oa:=Cb;have HB:=Eb;clear Cb Eb;(try clear hb);(try clear jj);(try clear hk);(try clear hi)));go_ret;exact ⟨by first|rfl|(simp [Pa,Oa] <;> rfl)|(simp [*,Pa,Oa] <;> rfl),EaH⟩
def Zd.l0:Nat→List (fz)→Int→Int→Option (Int)
 | 0,_,_,_=>none
 | k + 1,x0,x1,x5=>if x5 < (x0.length:Int) then (if 0 ≤ x5 then ((ck.f k ((Je x0 x5).f0) ((Je x0 x5).f1) ((Je x0 x5).f2) ((Je x0 x5).f3) ((Je x0 x5).f4) x1).bind fun t102=>(if t102 < 0 then (some (-1)) else (Zd.l0 k x0 t102 (wrap64 (x5 + 1))))) else (none)) else (some x1)
def Zd.f (k:Nat) (l0:List (fz)) (a1:Int):Option (Int):=if (wrap64 (a1 - (l0.length:Int))) < 0 then (some (-1)) else (Zd.l0 k l0 (wrap64 (a1 - (l0.length:Int))) 0)
theorem Zd.calls (k:Nat) (A0:Option Addr) (c0:Nat) (l0:List (fz)) (a1:Int) (r:Int) (w:World) (Om:Kd.C rW w A0 l0.length l0) (hc0:l0.length ≤ c0) (h:Zd.f k l0 a1=some r) :
  Calls Try.prog 39 #[.slice A0 l0.length c0,.int .i64 a1] w fun e w'=>e = .returned (.int .i64 r)∧Below w.heap.size w w':=by
 have eab:=Try.underlying86;have Io:=ga.mk Om;have dN:=ga.mk hc0;clear Om hc0;have HB:=ga.mk (Below.refl w.heap.size w);have H:(if (wrap64 (a1 - (l0.length:Int))) < 0 then (some (-1)) else (Zd.l0 k l0 (wrap64 (a1 - (l0.length:Int))) 0))=some r:=h;clear h
 by_cases c3:(wrap64 (a1 - (l0.length:Int))) < 0
 ·rw [if_pos c3] at H;have Qi:decide ((wrap64 (a1 - (l0.length:Int))) < 0)=true:=decide_eq_true c3;clear c3;obtain rfl:=Option.some.inj H;go_enter Try.func39,Try.ntmps39;go_wp2;go_ret;exact ⟨by first|rfl|(simp [Pa,Oa] <;> rfl)|(simp [*,Pa,Oa] <;> rfl),JaH⟩
 ·rw [if_neg c3] at H;have Qi:decide ((wrap64 (a1 - (l0.length:Int))) < 0)=false:=decide_eq_false c3;clear c3;have H':=ga.mk H;clear H;go_enter Try.func39,Try.ntmps39;go_wp2
  go_loopg [1,5] k (fun kq v1 v5 w'=>∃ (Me:Int) (Ka:Int),v1 = .int .i64 Me∧v5 = .int .i64 Ka∧ga (Zd.l0 kq l0 Me Ka=some r)∧ga (kq ≤ k)∧ga (Below w.heap.size w w'))
  case atStart=>exact ⟨(wrap64 (a1 - (l0.length:Int))),(0),IaH,IaH,H',⟨Nat.le_refl _⟩,⟨JaH⟩⟩
  case round =>
   clear H'
   try clear p2
   try clear c3
   try clear Qi
   (try clear HA);(try clear pg);(try clear HB);obtain ⟨Me,Ka,rfl,rfl,HA,pg,HB⟩:=hrel;cases gk with
   | zero=>exact absurd HA.out (by simp [Zd.l0])
   | succ k1 =>
    have H:=HA.out;clear HA;simp only [Zd.l0] at H
    by_cases c4:Ka < (l0.length:Int)
    ·rw [if_pos c4] at H;have Tl:decide (Ka < (l0.length:Int))=true:=decide_eq_true c4;clear c4
     by_cases c5:0 ≤ Ka
     ·rw [if_pos c5] at H;have Nk:decide (0 ≤ Ka)=true:=decide_eq_true c5;clear c5;replace H:=Option.bind_eq_some_iff.mp H;obtain ⟨t102,A60,H⟩:=H;replace H:(if t102 < 0 then (some (-1)) else (Zd.l0 k1 l0 t102 (wrap64 (Ka + 1))))=some r:=H;have A6:=ga.mk A60;clear A60
      by_cases c7:t102 < 0
      ·rw [if_pos c7] at H;have qm:decide (t102 < 0)=true:=decide_eq_true c7;clear c7;obtain rfl:=Option.some.inj H;have wg:0 ≤ (Ka:Int):=Ua;have ug:Ka < (l0.length:Int):=Ua;obtain ⟨Ze,Ov,Fv,Sl,Ge,Pf,Nf,Mf,Lf,Tn,Vn⟩:=cP Io.out Ka wg ug;cases Sl;replace Ge:=Sa HB.out Ge;replace Pf:=Sa HB.out Pf;replace Nf:=Sa HB.out Nf;replace Mf:=Sa HB.out Mf;replace Lf:=Sa HB.out Lf;have Pq:=ga.mk Vn;have Nv:=ga.mk Tn;clear Vn Tn;replace wg:=eq_true wg;replace ug:=eq_true ug;go_wp2_with (first|((with_reducible refine Bb (f:=70) rfl ?_);refine Tc (some 23) rfl rfl Try.func70 (by kernel_rfl) rfl #[.agg #[.slice Ov ((Je l0 Ka).f0).length Fv,.int .i64 ((Je l0 Ka).f1),.int .i64 ((Je l0 Ka).f2),.int .i64 ((Je l0 Ka).f3),.int .i64 ((Je l0 Ka).f4)],.int .i64 Me] rfl FaH ?_;(with_reducible refine (ck.calls k1 _ _ ((Je l0 Ka).f0) ((Je l0 Ka).f1) ((Je l0 Ka).f2) ((Je l0 Ka).f3) ((Je l0 Ka).f4) Me t102 _ ?yc ?uc A6.out).mono ?_);(case yc=>repeat (first|exact (Kd.Ab Pq.out HB.out)|(with_reducible refine Kd.Lb ?_ _)|(with_reducible refine Kd.Kb ?_ _)|(with_reducible refine Kd.Xb ?_)));(case uc=>exact Nv.out);rintro e w8 ⟨rfl,hb⟩;refine ⟨_,rfl,?_⟩;have Cb:=ga.mk (Na CaH hb);clear HB;have HB:=Cb;clear Cb;(try clear hb);(try clear jj);(try clear hk);(try clear hi)));go_ret;exact ⟨by first|rfl|(simp [Pa,Oa] <;> rfl)|(simp [*,Pa,Oa] <;> rfl),JaH⟩
      ·rw [if_neg c7] at H;have qm:decide (t102 < 0)=false:=decide_eq_false c7;clear c7;have H':=ga.mk H;clear H;have wg:0 ≤ (Ka:Int):=Ua;have ug:Ka < (l0.length:Int):=Ua;obtain ⟨Ze,Ov,Fv,Sl,Ge,Pf,Nf,Mf,Lf,Tn,Vn⟩:=cP Io.out Ka wg ug;cases Sl;replace Ge:=Sa HB.out Ge;replace Pf:=Sa HB.out Pf;replace Nf:=Sa HB.out Nf;replace Mf:=Sa HB.out Mf;replace Lf:=Sa HB.out Lf;have Pq:=ga.mk Vn;have Nv:=ga.mk Tn;clear Vn Tn;replace wg:=eq_true wg;replace ug:=eq_true ug;go_wp2_with (first|((with_reducible refine Bb (f:=70) rfl ?_);refine Tc (some 23) rfl rfl Try.func70 (by kernel_rfl) rfl #[.agg #[.slice Ov ((Je l0 Ka).f0).length Fv,.int .i64 ((Je l0 Ka).f1),.int .i64 ((Je l0 Ka).f2),.int .i64 ((Je l0 Ka).f3),.int .i64 ((Je l0 Ka).f4)],.int .i64 Me] rfl FaH ?_;(with_reducible refine (ck.calls k1 _ _ ((Je l0 Ka).f0) ((Je l0 Ka).f1) ((Je l0 Ka).f2) ((Je l0 Ka).f3) ((Je l0 Ka).f4) Me t102 _ ?yc ?uc A6.out).mono ?_);(case yc=>repeat (first|exact (Kd.Ab Pq.out HB.out)|(with_reducible refine Kd.Lb ?_ _)|(with_reducible refine Kd.Kb ?_ _)|(with_reducible refine Kd.Xb ?_)));(case uc=>exact Nv.out);rintro e w9 ⟨rfl,hb⟩;refine ⟨_,rfl,?_⟩;have Cb:=ga.mk (Na CaH hb);clear HB;have HB:=Cb;clear Cb;(try clear hb);(try clear jj);(try clear hk);(try clear hi)))
       go_roundg k1
       case measure=>have:=pg.out;omega
       case rel=>exact ⟨(t102),(wrap64 (Ka + 1)),IaH,IaH,H',⟨by have:=pg.out;omega⟩,⟨JaH⟩⟩
     ·rw [if_neg c5] at H;exact absurd H (by simp)
    ·rw [if_neg c4] at H;have Tl:decide (Ka < (l0.length:Int))=false:=decide_eq_false c4;clear c4;obtain rfl:=Option.some.inj H;go_wp2;go_ret;exact ⟨by first|rfl|(simp [Pa,Oa] <;> rfl)|(simp [*,Pa,Oa] <;> rfl),JaH⟩
def qj.f (k:Nat) (Qa:List Int) (Ja:Int) (Ga:Int) (Ia:Int) (Aa:List (fz)) (a1:Int):Option (Int):=(nj.f Qa a1).bind fun t102=>(if t102 < 0 then (some (-1)) else ((Zd.f k Aa t102).bind fun t103=>(if t103 < 0 then (some (-1)) else (some t103))))
theorem qj.calls (k:Nat) (Wa:Option Addr) (Xa:Nat) (Qa:List Int) (Ja:Int) (Ga:Int) (Ia:Int) (Jb:Option Addr) (yb:Nat) (Aa:List (fz)) (a1:Int) (r:Int) (w:World) (Od:Kd.C (Kd.int .i64) w Wa Qa.length Qa) (Md:Qa.length ≤ Xa) (Re:Kd.C rW w Jb Aa.length Aa) (Qe:Aa.length ≤ yb) (h:qj.f k Qa Ja Ga Ia Aa a1=some r) :
  Calls Try.prog 10 #[.agg #[.slice Wa Qa.length Xa,.int .i64 Ja,.int .i64 Ga,.int .i64 Ia,.slice Jb Aa.length yb],.int .i64 a1] w fun e w'=>e = .returned (.int .i64 r)∧Below w.heap.size w w':=by
 have bav:=Try.underlying25;have fe:=ga.mk Od;have ye:=ga.mk Md;clear Od Md;have We:=ga.mk Re;have Xf:=ga.mk Qe;clear Re Qe;have HB:=ga.mk (Below.refl w.heap.size w);have H:((nj.f Qa a1).bind fun t102=>(if t102 < 0 then (some (-1)) else ((Zd.f k Aa t102).bind fun t103=>(if t103 < 0 then (some (-1)) else (some t103)))))=some r:=h;clear h;replace H:=Option.bind_eq_some_iff.mp H;obtain ⟨t102,Zv,H⟩:=H;replace H:(if t102 < 0 then (some (-1)) else ((Zd.f k Aa t102).bind fun t103=>(if t103 < 0 then (some (-1)) else (some t103))))=some r:=H;have A3:=ga.mk Zv;clear Zv
 by_cases c4:t102 < 0
 ·rw [if_pos c4] at H;have Tl:decide (t102 < 0)=true:=decide_eq_true c4;clear c4;obtain rfl:=Option.some.inj H;go_enter Try.func10,Try.ntmps10;go_wp2_with (first|((with_reducible refine qb (N:=2) rfl ?_);refine Ib ?hg (N:=2) ?hd (cs:=#[.slice Wa Qa.length Xa,.int .i64 Ja,.int .i64 Ga,.int .i64 Ia,.slice Jb Aa.length yb]) (t:=25) ?hr ?_;(case hd=>rfl);(case hg=>rfl);(case hr=>first|(go_simp;done)|(go_simp;rfl));intro ya hg w5 Sb hb;have Cb:=ga.mk (Na CaH hb);have Eb:=ga.mk (Sb);have Rb:=ga.mk ((by rw [hg];exact (La CaH):w.heap.size ≤ ya));have Gc:=ga.mk ((by rw [hg];exact (La CaH):w.heap.size ≤ ya));clear HB;have HB:=Cb;have oa:=Eb;have Nd:=Rb;have Ta:=Gc;clear Cb Eb Rb Gc hb Sb hg;have ur:w5.cell? ⟨ya,0,none⟩=some (.slice Wa Qa.length Xa):=(ia oa.out 0).trans rfl;have tr:w5.cell? ⟨ya,1,none⟩=some (.int .i64 Ja):=(ia oa.out 1).trans rfl;have sr:w5.cell? ⟨ya,2,none⟩=some (.int .i64 Ga):=(ia oa.out 2).trans rfl;have nr:w5.cell? ⟨ya,3,none⟩=some (.int .i64 Ia):=(ia oa.out 3).trans rfl;have kr:w5.cell? ⟨ya,4,none⟩=some (.slice Jb Aa.length yb):=(ia oa.out 4).trans rfl;have jr:=aa oa.out 0;have ir:=aa oa.out 1;have gr:=aa oa.out 2;have er:=aa oa.out 3;have dr:=aa oa.out 4)|((with_reducible refine Bb (f:=38) rfl ?_);refine Tc (some 8) rfl rfl Try.func38 (by kernel_rfl) rfl #[.slice Wa Qa.length Xa,.int .i64 a1] rfl FaH ?_;(with_reducible refine (nj.calls _ _ Qa a1 t102 _ ?yc ?uc A3.out).mono ?_);(case yc=>repeat (first|exact (Kd.Ab fe.out HB.out)|(with_reducible refine Kd.Lb ?_ _)|(with_reducible refine Kd.Kb ?_ _)|(with_reducible refine Kd.Xb ?_)));(case uc=>exact ye.out);rintro e w' ⟨rfl,⟨nd,rfl⟩⟩;refine ⟨_,rfl,?_⟩));go_ret;exact ⟨by first|rfl|(simp [Pa,Oa] <;> rfl)|(simp [*,Pa,Oa] <;> rfl),EaH⟩
 ·rw [if_neg c4] at H;have Tl:decide (t102 < 0)=false:=decide_eq_false c4;clear c4;replace H:=Option.bind_eq_some_iff.mp H;obtain ⟨t103,tV,H⟩:=H;replace H:(if t103 < 0 then (some (-1)) else (some t103))=some r:=H;have A7:=ga.mk tV;clear tV
  by_cases c8:t103 < 0
  ·rw [if_pos c8] at H;have Qt:decide (t103 < 0)=true:=decide_eq_true c8;clear c8;obtain rfl:=Option.some.inj H;go_enter Try.func10,Try.ntmps10;go_wp2_with (first|((with_reducible refine qb (N:=2) rfl ?_);refine Ib ?hg (N:=2) ?hd (cs:=#[.slice Wa Qa.length Xa,.int .i64 Ja,.int .i64 Ga,.int .i64 Ia,.slice Jb Aa.length yb]) (t:=25) ?hr ?_;(case hd=>rfl);(case hg=>rfl);(case hr=>first|(go_simp;done)|(go_simp;rfl));intro ya hg w9 Sb hb;have Cb:=ga.mk (Na CaH hb);have Eb:=ga.mk (Sb);have Rb:=ga.mk ((by rw [hg];exact (La CaH):w.heap.size ≤ ya));have Gc:=ga.mk ((by rw [hg];exact (La CaH):w.heap.size ≤ ya));clear HB;have HB:=Cb;have oa:=Eb;have Nd:=Rb;have Ta:=Gc;clear Cb Eb Rb Gc hb Sb hg;have Ai:w9.cell? ⟨ya,0,none⟩=some (.slice Wa Qa.length Xa):=(ia oa.out 0).trans rfl;have zi:w9.cell? ⟨ya,1,none⟩=some (.int .i64 Ja):=(ia oa.out 1).trans rfl;have si:w9.cell? ⟨ya,2,none⟩=some (.int .i64 Ga):=(ia oa.out 2).trans rfl;have ri:w9.cell? ⟨ya,3,none⟩=some (.int .i64 Ia):=(ia oa.out 3).trans rfl;have qi:w9.cell? ⟨ya,4,none⟩=some (.slice Jb Aa.length yb):=(ia oa.out 4).trans rfl;have ni:=aa oa.out 0;have ki:=aa oa.out 1;have ji:=aa oa.out 2;have ei:=aa oa.out 3;have di:=aa oa.out 4)|((with_reducible refine Bb (f:=38) rfl ?_);refine Tc (some 8) rfl rfl Try.func38 (by kernel_rfl) rfl #[.slice Wa Qa.length Xa,.int .i64 a1] rfl FaH ?_;(with_reducible refine (nj.calls _ _ Qa a1 t102 _ ?yc ?uc A3.out).mono ?_);(case yc=>repeat (first|exact (Kd.Ab fe.out HB.out)|(with_reducible refine Kd.Lb ?_ _)|(with_reducible refine Kd.Kb ?_ _)|(with_reducible refine Kd.Xb ?_)));(case uc=>exact ye.out);rintro e w' ⟨rfl,⟨nd,rfl⟩⟩;refine ⟨_,rfl,?_⟩)|((with_reducible refine Bb (f:=39) rfl ?_);refine Tc (some 14) rfl rfl Try.func39 (by kernel_rfl) rfl #[.slice Jb Aa.length yb,.int .i64 t102] rfl FaH ?_;(with_reducible refine (Zd.calls k _ _ Aa t102 t103 _ ?yc ?uc A7.out).mono ?_);(case yc=>repeat (first|exact (Kd.Ab We.out BaH)|(with_reducible refine Kd.Lb ?_ _)|(with_reducible refine Kd.Kb ?_ _)|(with_reducible refine Kd.Xb ?_)));(case uc=>exact Xf.out);rintro e Xj ⟨rfl,hb⟩;refine ⟨_,rfl,?_⟩;have Cb:=ga.mk (Va (g:=ya) (o:=.cells #[.slice Wa Qa.length Xa,.int .i64 Ja,.int .i64 Ga,.int .i64 Ia,.slice Jb Aa.length yb] 25 (0,0)) DaH hb);have Eb:=ga.mk (Na BaH hb);clear oa HB;have oa:=Cb;have HB:=Eb;clear Cb Eb;(try clear hb);(try clear jj);(try clear hk);(try clear hi)));go_ret;exact ⟨by first|rfl|(simp [Pa,Oa] <;> rfl)|(simp [*,Pa,Oa] <;> rfl),EaH⟩
  ·rw [if_neg c8] at H;have Qt:decide (t103 < 0)=false:=decide_eq_false c8;clear c8;obtain rfl:=Option.some.inj H;go_enter Try.func10,Try.ntmps10;go_wp2_with (first|((with_reducible refine qb (N:=2) rfl ?_);refine Ib ?hg (N:=2) ?hd (cs:=#[.slice Wa Qa.length Xa,.int .i64 Ja,.int .i64 Ga,.int .i64 Ia,.slice Jb Aa.length yb]) (t:=25) ?hr ?_;(case hd=>rfl);(case hg=>rfl);(case hr=>first|(go_simp;done)|(go_simp;rfl));intro ya hg Xr Sb hb;have Cb:=ga.mk (Na CaH hb);have Eb:=ga.mk (Sb);have Rb:=ga.mk ((by rw [hg];exact (La CaH):w.heap.size ≤ ya));have Gc:=ga.mk ((by rw [hg];exact (La CaH):w.heap.size ≤ ya));clear HB;have HB:=Cb;have oa:=Eb;have Nd:=Rb;have Ta:=Gc;clear Cb Eb Rb Gc hb Sb hg;have yt:Xr.cell? ⟨ya,0,none⟩=some (.slice Wa Qa.length Xa):=(ia oa.out 0).trans rfl;have vt:Xr.cell? ⟨ya,1,none⟩=some (.int .i64 Ja):=(ia oa.out 1).trans rfl;have qt:Xr.cell? ⟨ya,2,none⟩=some (.int .i64 Ga):=(ia oa.out 2).trans rfl;have ot:Xr.cell? ⟨ya,3,none⟩=some (.int .i64 Ia):=(ia oa.out 3).trans rfl;have nt:Xr.cell? ⟨ya,4,none⟩=some (.slice Jb Aa.length yb):=(ia oa.out 4).trans rfl;have Ss:=aa oa.out 0;have Rs:=aa oa.out 1;have Qs:=aa oa.out 2;have Ns:=aa oa.out 3;have Ms:=aa oa.out 4)|((with_reducible refine Bb (f:=38) rfl ?_);refine Tc (some 8) rfl rfl Try.func38 (by kernel_rfl) rfl #[.slice Wa Qa.length Xa,.int .i64 a1] rfl FaH ?_;(with_reducible refine (nj.calls _ _ Qa a1 t102 _ ?yc ?uc A3.out).mono ?_);(case yc=>repeat (first|exact (Kd.Ab fe.out HB.out)|(with_reducible refine Kd.Lb ?_ _)|(with_reducible refine Kd.Kb ?_ _)|(with_reducible refine Kd.Xb ?_)));(case uc=>exact ye.out);rintro e w' ⟨rfl,⟨nd,rfl⟩⟩;refine ⟨_,rfl,?_⟩)|((with_reducible refine Bb (f:=39) rfl ?_);refine Tc (some 14) rfl rfl Try.func39 (by kernel_rfl) rfl #[.slice Jb Aa.length yb,.int .i64 t102] rfl FaH ?_;(with_reducible refine (Zd.calls k _ _ Aa t102 t103 _ ?yc ?uc A7.out).mono ?_);(case yc=>repeat (first|exact (Kd.Ab We.out BaH)|(with_reducible refine Kd.Lb ?_ _)|(with_reducible refine Kd.Kb ?_ _)|(with_reducible refine Kd.Xb ?_)));(case uc=>exact Xf.out);rintro e Ky ⟨rfl,hb⟩;refine ⟨_,rfl,?_⟩;have Cb:=ga.mk (Va (g:=ya) (o:=.cells #[.slice Wa Qa.length Xa,.int .i64 Ja,.int .i64 Ga,.int .i64 Ia,.slice Jb Aa.length yb] 25 (0,0)) DaH hb);have Eb:=ga.mk (Na BaH hb);clear oa HB;have oa:=Cb;have HB:=Eb;clear Cb Eb;(try clear hb);(try clear jj);(try clear hk);(try clear hi)));go_ret;exact ⟨by first|rfl|(simp [Pa,Oa] <;> rfl)|(simp [*,Pa,Oa] <;> rfl),EaH⟩
end Go.Proofs.Ytkigbdceceeenaa.P
end
