import Derived.Test.YtkigbdceceeenaaQPressure1
import Derived.Test.YtkigbdceceeenaaQPressure4
set_option maxHeartbeats 8000000
set_option maxRecDepth 100000
section
namespace Go.Proofs.Ytkigbdceceeenaa.P
open Go.RowKit Go.Proofs.Oa.Wb Go.Proofs.Oa.Vd Go.Proofs.Oa.Xe
set_option linter.unusedVariables false
set_option linter.unusedSimpArgs false
attribute [local go_sem] bh Gh Ki Cj Mg Lg Hh Fh
mutual
def gb.l0:Nat→List (List Bool)→Int→List Int→Int→Int→Int→List (Ce)→Option ((List (List Bool)))
 | 0,_,_,_,_,_,_,_=>none
 | k + 1,x3,x4,fc,Gc,nc,mc,Kb=>if x4 < (Kb.length:Int) then (if 0 ≤ mc then (if (mc:Int).toNat ≤ 281474976710656 then (if x3.length < 5864062014805 then (gb.l0 k (x3 ++ [(List.replicate (mc:Int).toNat false)]) (wrap64 (x4 + 1)) fc Gc nc mc Kb) else (none)) else (none)) else (none)) else (gb.l1 k x3 true fc Gc nc mc Kb)
def gb.l1:Nat→List (List Bool)→Bool→List Int→Int→Int→Int→List (Ce)→Option ((List (List Bool)))
 | 0,_,_,_,_,_,_,_=>none
 | k + 1,x3,x5,fc,Gc,nc,mc,Kb=>if x5=true then (gb.l2 k x3 false (wrap64 ((Kb.length:Int) - 1)) fc Gc nc mc Kb) else (some x3)
def gb.l2:Nat→List (List Bool)→Bool→Int→List Int→Int→Int→Int→List (Ce)→Option ((List (List Bool)))
 | 0,_,_,_,_,_,_,_,_=>none
 | k + 1,x3,x5,x6,fc,Gc,nc,mc,Kb=>if x6 ≥ 0 then (if 0 ≤ x6 then (if x6 < (Kb.length:Int) then ((Bj.f ((Aa Kb x6).f0) ((Aa Kb x6).f1) ((Aa Kb x6).f2) ((Aa Kb x6).f3) ((Aa Kb x6).f4)).bind fun t112=>(gb.l3 k x3 x5 x6 t112 0 fc Gc nc mc Kb)) else (none)) else (none)) else (gb.l1 k x3 x5 fc Gc nc mc Kb)
def gb.l3:Nat→List (List Bool)→Bool→Int→List Int→Int→List Int→Int→Int→Int→List (Ce)→Option ((List (List Bool)))
 | 0,_,_,_,_,_,_,_,_,_,_=>none
 | k + 1,x3,x5,x6,x7,x8,fc,Gc,nc,mc,Kb=>if x8 < (x7.length:Int) then (if 0 ≤ x8 then (if 0 ≤ (rd x7 x8) then (if (rd x7 x8) < (Kb.length:Int) then (if (rd x7 x8) < (x3.length:Int) then ((Ze.f k ((Aa Kb (rd x7 x8)).f0) ((Aa Kb (rd x7 x8)).f1) ((Aa Kb (rd x7 x8)).f2) ((Aa Kb (rd x7 x8)).f3) ((Aa Kb (rd x7 x8)).f4) (Md x3 (rd x7 x8))).bind fun t119=>(gb.l4 k x3 x5 x6 x7 x8 t119 0 fc Gc nc mc Kb)) else (none)) else (none)) else (none)) else (none)) else (gb.l2 k x3 x5 (wrap64 (x6 - 1)) fc Gc nc mc Kb)
def gb.l4:Nat→List (List Bool)→Bool→Int→List Int→Int→List Bool→Int→List Int→Int→Int→Int→List (Ce)→Option ((List (List Bool)))
 | 0,_,_,_,_,_,_,_,_,_,_,_,_=>none
 | k + 1,x3,x5,x6,x7,x8,x9,wS,fc,Gc,nc,mc,Kb=>if wS < mc then (if 0 ≤ wS then (if wS < (x9.length:Int) then (if Kf false x9 wS=true then (if 0 ≤ x6 then (if x6 < (x3.length:Int) then (if wS < ((Md x3 x6).length:Int) then (if (Kf false (Md x3 x6) wS=true) then (gb.l4 k x3 x5 x6 x7 x8 x9 (wrap64 (wS + 1)) fc Gc nc mc Kb) else (gb.l4 k (x3.set (x6:Int).toNat ((Md x3 x6).set (wS:Int).toNat true)) true x6 x7 x8 x9 (wrap64 (wS + 1)) fc Gc nc mc Kb)) else (none)) else (none)) else (none)) else (gb.l4 k x3 x5 x6 x7 x8 x9 (wrap64 (wS + 1)) fc Gc nc mc Kb)) else (none)) else (none)) else (gb.l3 k x3 x5 x6 x7 (wrap64 (x8 + 1)) fc Gc nc mc Kb)
end
def gb.f (k:Nat) (Pa:List Int) (Ka:Int) (Ga:Int) (Ia:Int) (Da:List (Ce)):Option ((List (List Bool))):=gb.l0 k (([]:List (List Bool))) 0 Pa Ka Ga Ia Da
def gb.T16:Bool × List (List Nat × List Nat):=(true,[([],[]),([0],[0]),([],[]),([],[]),([2,3],[2,3]),([4],[4]),([1,5],[1,5]),([6],[6]),([],[]),([],[]),([],[]),([9,10],[9,10]),([11],[11]),([8,12],[8,12]),([13],[13]),([7,14],[7,14]),([15,15,0,1,2,3,4,5,6,7,8,9,10,11,12,13,14,15],[15])])
def gb.B16:List Nat:=[0,1,0,0,12,28,63,127,0,0,0,1536,3584,7936,16128,32767,65535]
theorem gb.Z2:bn .any (opsOf Try.f41 16)=gb.T16:=by kernel_rfl
theorem gb.MZ:vn gb.T16.2 gb.B16=true:=by kernel_rfl
theorem gb.calls (k:Nat) (Ya:Option Addr) (Za:Nat) (Pa:List Int) (Ka:Int) (Ga:Int) (Ia:Int) (Vb:Option Addr) (Jb:Nat) (Da:List (Ce)) (r:List (List Bool)) (w:World) (Wd:Kd.C (Kd.int .i64) w Ya Pa.length Pa) (Sd:Pa.length ≤ Za) (zf:Kd.C Mt w Vb Da.length Da) (uf:Da.length ≤ Jb) (h:gb.f k Pa Ka Ga Ia Da=some r) :
  Calls Try.prog 41 #[.agg #[.slice Ya Pa.length Za,.int .i64 Ka,.int .i64 Ga,.int .i64 Ia,.slice Vb Da.length Jb]] w fun e w'=>∃ kn:Value,e = .returned (kn)∧Kd.S (Kd.slice 4 Kd.bool) 60 w' w.heap.size (fun _=>True) kn r∧Below w.heap.size w w':=by
 have LD:=Try.underlying30;have mz:=Try.underlying59;have qe:=ja.mk Wd;have Be:=ja.mk Sd;clear Wd Sd;have Hf:=ja.mk zf;have Tg:=ja.mk uf;clear zf uf;have HB:=ja.mk (Below.refl w.heap.size w);have H:(gb.l0 k (([]:List (List Bool))) 0 Pa Ka Ga Ia Da)=some r:=h;clear h;obtain ⟨Te,Vf⟩:∃ y_:List (List Bool),y_=(([]:List (List Bool))):=⟨_,rfl⟩;replace H:(gb.l0 k Te 0 Pa Ka Ga Ia Da)=some r:=by first|(rw [Vf];with_reducible exact H)|(have ue:=(Option.bind_some _ _).symm.trans H;rw [Vf];with_reducible exact ue)|(have ue:=(Option.bind_some _ _).symm.trans H;with_reducible exact ue)|with_reducible exact H|(rw [Vf];exact H)|exact H
 have mj:=ja.mk Vf;clear Vf;have H':=ja.mk H;clear H;go_enter Try.func41,Try.ntmps41;go_wp2_with (first|((with_reducible refine yb (N:=1) rfl ?_);refine Gb ?hg (N:=1) ?hd (cs:=#[.slice Ya Pa.length Za,.int .i64 Ka,.int .i64 Ga,.int .i64 Ia,.slice Vb Da.length Jb]) (t:=30) ?hr ?_;(case hd=>rfl);(case hg=>rfl);(case hr=>first|(go_simp;done)|(go_simp;rfl));intro ya hg w2 Qb hb;have Fb:=ja.mk (Qa (by repeat (first|(with_reducible first|exact HB.out|apply qa|apply ia|apply ta)|exact HB.out)) hb);have Ib:=ja.mk (Qb);have Sb:=ja.mk ((by rw [hg];exact (Fa (by repeat (first|(with_reducible first|exact HB.out|apply qa|apply ia|apply ta)|exact HB.out))):w.heap.size ≤ ya));have Ec:=ja.mk ((by rw [hg];exact (Fa (by repeat (first|(with_reducible first|exact HB.out|apply qa|apply ia|apply ta)|exact HB.out))):w.heap.size ≤ ya));clear HB;have HB:=Fb;have oa:=Ib;have yd:=Sb;have Sa:=Ec;clear Fb Ib Sb Ec hb Qb hg)|((with_reducible refine yb (N:=11) rfl ?_);refine Kd.G_ (Kd.slice 4 Kd.bool) _ 60 ?hg (N:=11) ?hd (xs:=([]:List (List Bool))) (inner:=[]) (ok:=fun _=>True) (ri:=fun _=>True) ?hr ?hp (fun _ hk=>hk) trivial (Below.refl _ _) (Nat.le_refl _) (by simp) ?_;(case hd=>rfl);(case hg=>rfl);(case hr=>first|(go_simp;done)|(go_simp;rfl));(case hp=>exact (zd.none _ _));intro zn w3 IQ hb en Ve;clear en Ve;(first|rw [← mj.out] at IQ|(simp only [Int.reduceToNat] at IQ;rw [← mj.out] at IQ));have Fb:=ja.mk (Kd.Bt IQ (Fa (by repeat (first|(with_reducible first|exact HB.out|apply qa|apply ia|apply ta|refine ua ?_ Sa.out)|exact HB.out))));have Ib:=ja.mk (Ua (g:=ya) (o:=.cells #[.slice Ya Pa.length Za,.int .i64 Ka,.int .i64 Ga,.int .i64 Ia,.slice Vb Da.length Jb] 30 (0,0)) (by (with_reducible repeat (first|refine Ba ?_ _|refine Ea ?_|refine Ca ?_ _));exact oa.out) hb);have Sb:=ja.mk (Qa (by repeat (first|(with_reducible first|exact HB.out|apply qa|apply ia|apply ta|refine ua ?_ Sa.out)|exact HB.out)) hb);clear oa HB;have Xg:=Fb;have oa:=Ib;have HB:=Sb;clear Fb Ib Sb hb IQ))
 go_loopg [3,4] k (fun kq v3 v4 w'=>∃ (ld:List (List Bool)) (Ic:Int),v4 = .int .i64 Ic∧ja (gb.l0 kq ld Ic Pa Ka Ga Ia Da=some r)∧ja (kq ≤ k)∧ja (Kd.S (Kd.slice 4 Kd.bool) 60 w' w.heap.size (fun _=>True) v3 ld)∧ja (w'.heap[ya]? = some (.cells #[(.slice Ya Pa.length Za),.int .i64 Ka,.int .i64 Ga,.int .i64 Ia,(.slice Vb Da.length Jb)] 30 (0,0)))∧ja (Below w.heap.size w w'))
 case atStart=>exact ⟨(Te),(0),(by first|rfl|(simp;done)|(simp [*];done)),H',⟨Nat.le_refl _⟩,⟨by (with_reducible repeat (first|apply Kd.Zc|apply Kd.Yc|apply Kd.Jd));exact Xg.out⟩,⟨by (with_reducible repeat (first|refine Ba ?_ _|refine Ea ?_|refine Ca ?_ _));exact oa.out⟩,⟨by repeat (first|(with_reducible first|exact HB.out|apply qa|apply ia|apply ta|refine ua ?_ Sa.out)|exact HB.out)⟩⟩
 case round =>
  clear H'
  try clear p2
  try clear c4
  (try clear HA);(try clear lg);(try clear Vc);(try clear oa);(try clear HB);obtain ⟨ld,Ic,rfl,HA,lg,Vc,oa,HB⟩:=hrel;cases gk with
  | zero=>exact absurd HA.out (by simp [gb.l0])
  | succ k1 =>
   have H:=HA.out;clear HA;simp only [gb.l0] at H
   by_cases c5:Ic < (Da.length:Int)
   ·rw [if_pos c5] at H;have sj:decide (Ic < (Da.length:Int))=true:=decide_eq_true c5;clear c5
    by_cases c6:0 ≤ Ia
    ·rw [if_pos c6] at H;have Vm:=eq_true c6;have nA:decide (0 ≤ Ia)=true:=decide_eq_true c6;clear c6
     by_cases c7:(Ia:Int).toNat ≤ 281474976710656
     ·rw [if_pos c7] at H;have Tj:=eq_true c7;have Hq:decide ((Ia:Int).toNat ≤ 281474976710656)=true:=decide_eq_true c7;clear c7;obtain ⟨Ag,tf⟩:∃ y_:List Bool,y_=(List.replicate (Ia:Int).toNat false):=⟨_,rfl⟩;replace H:(if ld.length < 5864062014805 then (gb.l0 k1 (ld ++ [Ag]) (wrap64 (Ic + 1)) Pa Ka Ga Ia Da) else (none))=some r:=by first|(rw [tf];with_reducible exact H)|(have ue:=(Option.bind_some _ _).symm.trans H;rw [tf];with_reducible exact ue)|(have ue:=(Option.bind_some _ _).symm.trans H;with_reducible exact ue)|with_reducible exact H|(rw [tf];exact H)|exact H
      have Uk:=ja.mk tf;clear tf
      by_cases c8:ld.length < 5864062014805
      ·rw [if_pos c8] at H;have eal:=ja.mk c8;clear c8;obtain ⟨mg,qf⟩:∃ y_:List (List Bool),y_=(ld ++ [Ag]):=⟨_,rfl⟩;replace H:(gb.l0 k1 mg (wrap64 (Ic + 1)) Pa Ka Ga Ia Da)=some r:=by first|(rw [qf];with_reducible exact H)|(have ue:=(Option.bind_some _ _).symm.trans H;rw [qf];with_reducible exact ue)|(have ue:=(Option.bind_some _ _).symm.trans H;with_reducible exact ue)|with_reducible exact H|(rw [qf];exact H)|exact H
       have Bi:=ja.mk qf;clear qf;have H':=ja.mk H;clear H;have Vl:wr.cell? ⟨ya,0,none⟩=some (.slice Ya Pa.length Za):=(ga oa.out 0).trans rfl;have Ul:wr.cell? ⟨ya,1,none⟩=some (.int .i64 Ka):=(ga oa.out 1).trans rfl;have Tl:wr.cell? ⟨ya,2,none⟩=some (.int .i64 Ga):=(ga oa.out 2).trans rfl;have Sl:wr.cell? ⟨ya,3,none⟩=some (.int .i64 Ia):=(ga oa.out 3).trans rfl;have Rl:wr.cell? ⟨ya,4,none⟩=some (.slice Vb Da.length Jb):=(ga oa.out 4).trans rfl;have Ql:=aa oa.out 0;have Ol:=aa oa.out 1;have Nl:=aa oa.out 2;have Ml:=aa oa.out 3;have Ll:=aa oa.out 4;go_wp2_with (first|((with_reducible refine yb (N:=22) rfl ?_);refine Kd.Mz Kd.bool _ 4 rfl (N:=22) rfl 60 _ _ rfl Ia rfl rfl Try.underlying60 (.bool false) 1 Wz rfl (by decide) (by omega) false (ok:=fun _=>True) (ri:=fun _=>True) rfl (fun _ hk=>hk) trivial (Wa) (Nat.le_trans (Nat.mul_le_mul_right _ (Wa:Ia.toNat ≤ 281474976710656)) (by omega)) (Below.refl _ _) (Nat.le_refl _) ?_;intro Zy Lt Wn hb en Ve;clear en Ve;(first|rw [← Uk.out] at Wn|(simp only [Int.reduceToNat] at Wn;rw [← Uk.out] at Wn));have Fb:=ja.mk (Kd.Ro (by (with_reducible repeat (first|apply Kd.Zc|apply Kd.Yc|apply Kd.Jd));exact Vc.out) (Kd.Vo Wn) hb);have Ib:=ja.mk (Kd.Rd Wn (Fa (by repeat (first|(with_reducible first|exact HB.out|apply qa|apply ia|apply ta|refine ua ?_ Sa.out)|exact HB.out))));have Sb:=ja.mk (Ua (g:=ya) (o:=.cells #[.slice Ya Pa.length Za,.int .i64 Ka,.int .i64 Ga,.int .i64 Ia,.slice Vb Da.length Jb] 30 (0,0)) (by (with_reducible repeat (first|refine Ba ?_ _|refine Ea ?_|refine Ca ?_ _));exact oa.out) hb);have Ec:=ja.mk (Qa (by repeat (first|(with_reducible first|exact HB.out|apply qa|apply ia|apply ta|refine ua ?_ Sa.out)|exact HB.out)) hb);clear Vc oa HB;have Vc:=Fb;have qh:=Ib;have oa:=Sb;have HB:=Ec;clear Fb Ib Sb Ec hb Wn;obtain ⟨wP,jP,eZ⟩:=Kd.De qh.out;subst eZ)|((with_reducible refine Ud (b:=.append) (xs:=#[.tmp 19,.tmp 23]) rfl ?_);at_builtin;refine Kd.iD (Kd.slice 4 Kd.bool) (w0:=w) w.heap.size rfl (.tmp 19) (.tmp 23) 55 60 (.slice none 0 0) 24 rfl Try.underlying55 gJ rfl (by decide) (by omega) u3 ld Ag [.slice wP Ag.length jP] (fun _=>True) (fun k_=>some k_=(.slice wP Ag.length jP:Value).ownBlock) rfl rfl ?aP (fun k_ OQ=>((Kd.fe (Cv:=fun k_=>((fun _=>True)) k_∧some k_ ≠ (u3:Value).ownBlock) (Kd.Py (qh.out) (Kd.TB Vc.out) (by decide)) (fun k_ hk=>⟨trivial,hk.2⟩))).1 k_ OQ.symm) ?aF ?aO ?aB ?aS ?aL ?_;(case aP=>exact Kd.oX (Kd.fe (Kd.Yp rfl (Kd.fe (Cv:=fun k_=>((fun _=>True)) k_∧some k_ ≠ (u3:Value).ownBlock) (Kd.Py (qh.out) (Kd.TB Vc.out) (by decide)) (fun k_ hk=>⟨trivial,hk.2⟩))) (fun _ h_=>h_)));(case aB=>exact (by repeat (first|(with_reducible first|exact HB.out|apply qa|apply ia|apply ta|refine ua ?_ Sa.out)|exact HB.out)));(case aF=>exact (fun _ _=>trivial));(case aO=>exact (by (with_reducible repeat (first|apply Kd.Zc|apply Kd.Yc|apply Kd.Jd));exact Kd.sg Vc.out (fun k_ hk=>⟨trivial,fun e_=>hk.2 e_⟩)));(case aS=>exact (Fa (by repeat (first|(with_reducible first|exact HB.out|apply qa|apply ia|apply ta|refine ua ?_ Sa.out)|exact HB.out))));(case aL=>have:=eal.out;omega);intro ED Vt ho hb hg hat;rw [← Bi.out] at ho;have Fb:=ja.mk (Ed (g:=ya) (o:=.cells #[.slice Ya Pa.length Za,.int .i64 Ka,.int .i64 Ga,.int .i64 Ia,.slice Vb Da.length Jb] 30 (0,0)) (by (with_reducible repeat (first|refine Ba ?_ _|refine Ea ?_|refine Ca ?_ _));exact oa.out) hg (Kd.dal Vc.out oa.out (by decide)));have Ib:=ja.mk (hb);have Sb:=ja.mk (ho);clear oa HB Vc qh;have oa:=Fb;have HB:=Ib;have yh:=Sb;clear Fb Ib Sb ho hb hg hat))
       go_roundg k1
       case measure=>have:=lg.out;omega
       case rel=>exact ⟨(mg),(wrap64 (Ic + 1)),(by first|rfl|(simp;done)|(simp [*];done)),H',⟨by have:=lg.out;omega⟩,⟨by (with_reducible repeat (first|apply Kd.Zc|apply Kd.Yc|apply Kd.Jd));exact yh.out⟩,⟨by (with_reducible repeat (first|refine Ba ?_ _|refine Ea ?_|refine Ca ?_ _));exact oa.out⟩,⟨by repeat (first|(with_reducible first|exact HB.out|apply qa|apply ia|apply ta|refine ua ?_ Sa.out)|exact HB.out)⟩⟩
      ·rw [if_neg c8] at H;exact absurd H (by simp)
     ·rw [if_neg c7] at H;exact absurd H (by simp)
    ·rw [if_neg c6] at H;exact absurd H (by simp)
   ·rw [if_neg c5] at H;have sj:decide (Ic < (Da.length:Int))=false:=decide_eq_false c5;clear c5;have H':=ja.mk H;clear H;have ij:wr.cell? ⟨ya,0,none⟩=some (.slice Ya Pa.length Za):=(ga oa.out 0).trans rfl;have gj:wr.cell? ⟨ya,1,none⟩=some (.int .i64 Ka):=(ga oa.out 1).trans rfl;have fj:wr.cell? ⟨ya,2,none⟩=some (.int .i64 Ga):=(ga oa.out 2).trans rfl;have ej:wr.cell? ⟨ya,3,none⟩=some (.int .i64 Ia):=(ga oa.out 3).trans rfl;have cj:wr.cell? ⟨ya,4,none⟩=some (.slice Vb Da.length Jb):=(ga oa.out 4).trans rfl;have aj:=aa oa.out 0;have Zi:=aa oa.out 1;have Yi:=aa oa.out 2;have Xi:=aa oa.out 3;have Wi:=aa oa.out 4;go_wp2
    go_loopg [5] k1 (fun kq v5 w'=>∃ (Xy:List (List Bool)) (gm:Bool),v5 = .bool gm∧ja (gb.l1 kq Xy gm Pa Ka Ga Ia Da=some r)∧ja (kq ≤ k1)∧ja (Kd.S (Kd.slice 4 Kd.bool) 60 w' w.heap.size (fun _=>True) u3 Xy)∧ja (w'.heap[ya]? = some (.cells #[(.slice Ya Pa.length Za),.int .i64 Ka,.int .i64 Ga,.int .i64 Ia,(.slice Vb Da.length Jb)] 30 (0,0)))∧ja (Below w.heap.size w w'))
    case atStart=>exact ⟨(ld),(true),(by first|rfl|(simp;done)|(simp [*];done)),H',⟨Nat.le_refl _⟩,⟨by (with_reducible repeat (first|apply Kd.Zc|apply Kd.Yc|apply Kd.Jd));exact Vc.out⟩,⟨by (with_reducible repeat (first|refine Ba ?_ _|refine Ea ?_|refine Ca ?_ _));exact oa.out⟩,⟨by repeat (first|(with_reducible first|exact HB.out|apply qa|apply ia|apply ta|refine ua ?_ Sa.out)|exact HB.out)⟩⟩
    case round =>
     clear H'
     try clear p2
     try clear c4
     try clear c5
     try clear sj
     try clear c6
     try clear Vm
     try clear nA
     try clear p6
     try clear c7
     try clear Tj
     try clear Hq
     try clear c8
     try clear ij
     try clear gj
     try clear fj
     try clear ej
     try clear cj
     try clear Vl
     try clear Ul
     try clear Tl
     try clear Sl
     try clear Rl
     try clear aj
     try clear Zi
     try clear Yi
     try clear Xi
     try clear Wi
     try clear Ql
     try clear Ol
     try clear Nl
     try clear Ml
     try clear Ll
     try clear p2
     (try clear HA);(try clear qA);(try clear Vc);(try clear oa);(try clear HB);obtain ⟨Xy,gm,rfl,HA,qA,Vc,oa,HB⟩:=hrel;cases gk with
     | zero=>exact absurd HA.out (by simp [gb.l1])
     | succ k2 =>
      have H:=HA.out;clear HA;simp only [gb.l1] at H
      by_cases gH:gm=true
      ·subst gH;have H1:(gb.l2 k2 Xy false (wrap64 ((Da.length:Int) - 1)) Pa Ka Ga Ia Da)=some r:=by rw [if_pos rfl] at H;exact H
       clear H;have H:=H1;clear H1;have H':=ja.mk H;clear H;have ji:wr.cell? ⟨ya,0,none⟩=some (.slice Ya Pa.length Za):=(ga oa.out 0).trans rfl;have ei:wr.cell? ⟨ya,1,none⟩=some (.int .i64 Ka):=(ga oa.out 1).trans rfl;have di:wr.cell? ⟨ya,2,none⟩=some (.int .i64 Ga):=(ga oa.out 2).trans rfl;have ai:wr.cell? ⟨ya,3,none⟩=some (.int .i64 Ia):=(ga oa.out 3).trans rfl;have Zh:wr.cell? ⟨ya,4,none⟩=some (.slice Vb Da.length Jb):=(ga oa.out 4).trans rfl;have Yh:=aa oa.out 0;have Xh:=aa oa.out 1;have Wh:=aa oa.out 2;have Vh:=aa oa.out 3;have Uh:=aa oa.out 4;go_wp2
       go_loopg [5,6] k2 (fun kq v5 v6 w'=>∃ (qO:List (List Bool)) (ye:Bool) (je:Int),v5 = .bool ye∧v6 = .int .i64 je∧ja (gb.l2 kq qO ye je Pa Ka Ga Ia Da=some r)∧ja (kq ≤ k2)∧ja (Kd.S (Kd.slice 4 Kd.bool) 60 w' w.heap.size (fun _=>True) u3 qO)∧ja (w'.heap[ya]? = some (.cells #[(.slice Ya Pa.length Za),.int .i64 Ka,.int .i64 Ga,.int .i64 Ia,(.slice Vb Da.length Jb)] 30 (0,0)))∧ja (Below w.heap.size w w'))
       case atStart=>exact ⟨(Xy),(false),(wrap64 ((Da.length:Int) - 1)),(by first|rfl|(simp;done)|(simp [*];done)),(by first|rfl|(simp;done)|(simp [*];done)),H',⟨Nat.le_refl _⟩,⟨by (with_reducible repeat (first|apply Kd.Zc|apply Kd.Yc|apply Kd.Jd));exact Vc.out⟩,⟨by (with_reducible repeat (first|refine Ba ?_ _|refine Ea ?_|refine Ca ?_ _));exact oa.out⟩,⟨by repeat (first|(with_reducible first|exact HB.out|apply qa|apply ia|apply ta|refine ua ?_ Sa.out)|exact HB.out)⟩⟩
       case round =>
        clear H'
        try clear c1
        try clear p2
        try clear c4
        try clear c5
        try clear sj
        try clear c6
        try clear Vm
        try clear nA
        try clear p6
        try clear c7
        try clear Tj
        try clear Hq
        try clear c8
        try clear gH
        try clear ij
        try clear gj
        try clear fj
        try clear ej
        try clear cj
        try clear ji
        try clear ei
        try clear di
        try clear ai
        try clear Zh
        try clear Vl
        try clear Ul
        try clear Tl
        try clear Sl
        try clear Rl
        try clear aj
        try clear Zi
        try clear Yi
        try clear Xi
        try clear Wi
        try clear Yh
        try clear Xh
        try clear Wh
        try clear Vh
        try clear Uh
        try clear Ql
        try clear Ol
        try clear Nl
        try clear Ml
        try clear Ll
        try clear p2
        try clear p6
        (try clear HA);(try clear qI);(try clear Vc);(try clear oa);(try clear HB);obtain ⟨qO,ye,je,rfl,rfl,HA,qI,Vc,oa,HB⟩:=hrel;cases gk with
        | zero=>exact absurd HA.out (by simp [gb.l2])
        | succ k3 =>
         have H:=HA.out;clear HA;simp only [gb.l2] at H
         by_cases lu:je ≥ 0
         ·rw [if_pos lu] at H;have Vp:decide (0 ≤ je)=true:=decide_eq_true lu;clear lu
          by_cases xq:0 ≤ je
          ·rw [if_pos xq] at H;have Mo:decide (0 ≤ je)=true:=decide_eq_true xq;clear xq
           by_cases Xo:je < (Da.length:Int)
           ·rw [if_pos Xo] at H;have Hv:decide (je < (Da.length:Int))=true:=decide_eq_true Xo;clear Xo;replace H:=Option.bind_eq_some_iff.mp H;obtain ⟨t112,pS,H⟩:=H;replace H:(gb.l3 k3 qO ye je t112 0 Pa Ka Ga Ia Da)=some r:=H;have iH:=ja.mk pS;clear pS;have H':=ja.mk H;clear H;have FB:wr.cell? ⟨ya,0,none⟩=some (.slice Ya Pa.length Za):=(ga oa.out 0).trans rfl;have EB:wr.cell? ⟨ya,1,none⟩=some (.int .i64 Ka):=(ga oa.out 1).trans rfl;have DB:wr.cell? ⟨ya,2,none⟩=some (.int .i64 Ga):=(ga oa.out 2).trans rfl;have CB:wr.cell? ⟨ya,3,none⟩=some (.int .i64 Ia):=(ga oa.out 3).trans rfl;have BB:wr.cell? ⟨ya,4,none⟩=some (.slice Vb Da.length Jb):=(ga oa.out 4).trans rfl;have WA:=aa oa.out 0;have VA:=aa oa.out 1;have UA:=aa oa.out 2;have TA:=aa oa.out 3;have SA:=aa oa.out 4;have ZP:0 ≤ (je:Int):=Wa;have VP:je < (Da.length:Int):=Wa;obtain ⟨Tk,K1,DZ,Lak,wA,vA,uA,tA,sA,mL,tL⟩:=ki Hf.out je ZP VP;cases Lak
            try replace wA:=Na HB.out wA
            try replace vA:=Na HB.out vA
            try replace uA:=Na HB.out uA
            try replace tA:=Na HB.out tA
            try replace sA:=Na HB.out sA
            have XV:=ja.mk tL;have gW:=ja.mk mL;clear tL mL;replace ZP:=eq_true ZP;replace VP:=eq_true VP;go_wp2_with (first|((with_reducible refine jb (f:=72) rfl ?_);refine Fc (some 39) rfl rfl Try.func72 (by kernel_rfl) rfl #[.agg #[.slice K1 ((Aa Da je).f0).length DZ,.int .i64 ((Aa Da je).f1),.int .i64 ((Aa Da je).f2),.int .i64 ((Aa Da je).f3),.int .i64 ((Aa Da je).f4)]] rfl (by (try simp only [List.map_toArray,List.map_cons,List.map_nil]);first|done|rfl|(simp only [List.length_drop,List.length_take];rfl)) ?_;(with_reducible refine (Bj.calls _ _ ((Aa Da je).f0) ((Aa Da je).f1) ((Aa Da je).f2) ((Aa Da je).f3) ((Aa Da je).f4) t112 _ ?yc ?uc iH.out).mono ?_);(case yc=>repeat (first|exact (Kd.Ob XV.out HB.out)|(with_reducible refine Kd.Pb ?_ _)|(with_reducible refine Kd.Nb ?_ _)|(with_reducible refine Kd.Zb ?_)));(case uc=>exact gW.out);rintro e Tz ⟨Aai,rfl,Am,hb⟩;refine ⟨_,rfl,?_⟩;have Fb:=ja.mk (Kd.jh (by (with_reducible repeat (first|apply Kd.Zc|apply Kd.Yc|apply Kd.Jd));exact Vc.out) hb);have Ib:=ja.mk (Kd.Rd Am (Fa (by repeat (first|(with_reducible first|exact HB.out|apply qa|apply ia|apply ta|refine ua ?_ Sa.out)|exact HB.out))));have Sb:=ja.mk (Ua (g:=ya) (o:=.cells #[.slice Ya Pa.length Za,.int .i64 Ka,.int .i64 Ga,.int .i64 Ia,.slice (some Tk) Da.length Jb] 30 (0,0)) (by (with_reducible repeat (first|refine Ba ?_ _|refine Ea ?_|refine Ca ?_ _));exact oa.out) hb);have Ec:=ja.mk (Qa (by repeat (first|(with_reducible first|exact HB.out|apply qa|apply ia|apply ta|refine ua ?_ Sa.out)|exact HB.out)) hb);clear Vc oa HB;have Vc:=Fb;have maa:=Ib;have oa:=Sb;have HB:=Ec;clear Fb Ib Sb Ec;(try clear hb);(try clear Hi);(try clear hk);(try clear hi);(try clear Am)))
            go_loopg [5,8] k3 (fun kq v5 v8 w'=>∃ (Yj:List (List Bool)) (pO:Bool) (Ye:Int),v5 = .bool pO∧v8 = .int .i64 Ye∧ja (gb.l3 kq Yj pO je t112 Ye Pa Ka Ga Ia Da=some r)∧ja (kq ≤ k3)∧ja (Kd.S (Kd.slice 4 Kd.bool) 60 w' w.heap.size (fun _=>True) u3 Yj)∧ja (Kd.R (Kd.int .i64) 3 w' w.heap.size (fun _=>True) Aai t112)∧ja (w'.heap[ya]? = some (.cells #[(.slice Ya Pa.length Za),.int .i64 Ka,.int .i64 Ga,.int .i64 Ia,(.slice (some Tk) Da.length Jb)] 30 (0,0)))∧ja (Below w.heap.size w w'))
            case atStart=>exact ⟨(qO),(ye),(0),(by first|rfl|(simp;done)|(simp [*];done)),(by first|rfl|(simp;done)|(simp [*];done)),H',⟨Nat.le_refl _⟩,⟨by (with_reducible repeat (first|apply Kd.Zc|apply Kd.Yc|apply Kd.Jd));exact Vc.out⟩,⟨by (with_reducible repeat (first|apply Kd.Ab|apply Kd.zb|apply Kd.Rb));exact maa.out⟩,⟨by (with_reducible repeat (first|refine Ba ?_ _|refine Ea ?_|refine Ca ?_ _));exact oa.out⟩,⟨by repeat (first|(with_reducible first|exact HB.out|apply qa|apply ia|apply ta|refine ua ?_ Sa.out)|exact HB.out)⟩⟩
            case round =>
             clear H'
             try clear c1
             try clear p1
             try clear q1
             try clear hx1
             try clear p2
             try clear c4
             try clear c5
             try clear sj
             try clear c6
             try clear Vm
             try clear nA
             try clear p6
             try clear c7
             try clear Tj
             try clear Hq
             try clear c8
             try clear Hz
             try clear eH
             try clear dH
             try clear yQ
             try clear gH
             try clear lu
             try clear Vp
             try clear xq
             try clear Mo
             try clear Xo
             try clear Hv
             try clear ij
             try clear gj
             try clear fj
             try clear ej
             try clear cj
             try clear ji
             try clear ei
             try clear di
             try clear ai
             try clear Zh
             try clear FB
             try clear EB
             try clear DB
             try clear CB
             try clear BB
             try clear Vl
             try clear Ul
             try clear Tl
             try clear Sl
             try clear Rl
             try clear aj
             try clear Zi
             try clear Yi
             try clear Xi
             try clear Wi
             try clear Yh
             try clear Xh
             try clear Wh
             try clear Vh
             try clear Uh
             try clear WA
             try clear VA
             try clear UA
             try clear TA
             try clear SA
             try clear Ql
             try clear Ol
             try clear Nl
             try clear Ml
             try clear Ll
             try clear wA
             try clear vA
             try clear uA
             try clear tA
             try clear sA
             try clear ZP
             try clear p2
             try clear p6
             try clear VP
             (try clear HA);(try clear VD);(try clear Vc);(try clear Cf);(try clear oa);(try clear HB);obtain ⟨Yj,pO,Ye,rfl,rfl,HA,VD,Vc,Cf,oa,HB⟩:=hrel;cases gk with
             | zero=>exact absurd HA.out (by simp [gb.l3])
             | succ k4 =>
              have H:=HA.out;clear HA;simp only [gb.l3] at H
              by_cases MG:Ye < (t112.length:Int)
              ·rw [if_pos MG] at H;have SN:decide (Ye < (t112.length:Int))=true:=decide_eq_true MG;clear MG
               by_cases nP:0 ≤ Ye
               ·rw [if_pos nP] at H;have o_:decide (0 ≤ Ye)=true:=decide_eq_true nP;clear nP
                by_cases aD:0 ≤ (rd t112 Ye)
                ·rw [if_pos aD] at H;have Jt:decide (0 ≤ (rd t112 Ye))=true:=decide_eq_true aD;clear aD
                 by_cases gK:(rd t112 Ye) < (Da.length:Int)
                 ·rw [if_pos gK] at H;have j_:decide ((rd t112 Ye) < (Da.length:Int))=true:=decide_eq_true gK;clear gK
                  by_cases vR:(rd t112 Ye) < (Yj.length:Int)
                  ·rw [if_pos vR] at H;have i_:decide ((rd t112 Ye) < (Yj.length:Int))=true:=decide_eq_true vR;clear vR;replace H:=Option.bind_eq_some_iff.mp H;obtain ⟨t119,Qaa,H⟩:=H;replace H:(gb.l4 k4 Yj pO je t112 Ye t119 0 Pa Ka Ga Ia Da)=some r:=H;have A28:=ja.mk Qaa;clear Qaa;have H':=ja.mk H;clear H;obtain ⟨Rz,Uv,cZ⟩:=Kd.De Cf.out;subst cZ
                   try go_wp2
                   have Fb:=ja.mk (Kd.Jd Vc.out);have Ib:=ja.mk (Kd.Rb Cf.out);have Sb:=ja.mk (Ea oa.out);have Ec:=ja.mk (ta HB.out);clear Vc Cf oa HB;have Vc:=Fb;have Cf:=Ib;have oa:=Sb;have HB:=Ec;clear Fb Ib Sb Ec;have cT:0 ≤ (Ye:Int):=Wa;have YS:Ye < (t112.length:Int):=Wa;obtain ⟨VN,Kak,XE⟩:=Kd.rm (Kd.Lc Cf.out).2.2 Ye cT YS;cases Kak;replace cT:=eq_true cT;replace YS:=eq_true YS;have bT:0 ≤ ((rd t112 Ye):Int):=Wa;have XS:(rd t112 Ye) < (Da.length:Int):=Wa;obtain ⟨x_,tS,BR,Jak,Aw,zw,yw,xw,vw,kL,sL⟩:=ki Hf.out (rd t112 Ye) bT XS;have bL:=vw;have cL:=xw;have dL:=yw;have eL:=zw;have fL:=Aw;obtain rfl:Tk=x_:=(by injection Jak)
                   try replace Aw:=Na HB.out Aw
                   try replace zw:=Na HB.out zw
                   try replace yw:=Na HB.out yw
                   try replace xw:=Na HB.out xw
                   try replace vw:=Na HB.out vw
                   have jO:=ja.mk sL;have fW:=ja.mk kL;clear sL kL;replace bT:=eq_true bT;replace XS:=eq_true XS;have aT:0 ≤ (Ye:Int):=Wa;have WS:Ye < (t112.length:Int):=Wa;obtain ⟨w_,Iak,WE⟩:=Kd.rm (Kd.Lc Cf.out).2.2 Ye aT WS;obtain rfl:VN=w_:=(by injection Iak);replace aT:=eq_true aT;replace WS:=eq_true WS;obtain ⟨uar,C9,y9⟩:=Kd.yt Vc.out;(first|subst y9|(injection y9 with gR YY fR;have XY:=gR.symm;have WY:=fR.symm;clear gR YY fR;subst XY;subst WY));have YP:0 ≤ ((rd t112 Ye):Int):=Wa;have TP:(rd t112 Ye) < (Yj.length:Int):=Wa;obtain ⟨qE,sS,AR,Hak,uw,jL,rL⟩:=Wv (Kd.ef Vc.out).2.2 (rd t112 Ye) YP TP;cases Hak;obtain ⟨Yan,LY,QY,TQ⟩:=Kd.lI Vc.out [] (rd t112 Ye) YP (by first|exact TP|exact Wa|(have e_:=(Kd.ef Vc.out).1;omega));obtain ⟨aab,rfl,CG⟩:=QY;have gx:=TQ 0 _ rfl;rw [Nat.add_zero,show ((Kd.slice 4 Kd.bool)).sz=1 from rfl,Nat.mul_one] at gx;replace gx:=Option.some.inj (gx.symm.trans uw);rw [gx] at CG;have Uy:=ja.mk (show Kd.R Kd.bool 4 _ _ _ _ (Md Yj (rd t112 Ye)) from CG);clear gx CG;have WB:=ja.mk uw;clear TQ LY;have Ct:=ja.mk rL;have eW:=ja.mk jL;clear rL jL;replace YP:=eq_true YP;replace TP:=eq_true TP;refine fl (n:=17) (S:=fun w'=>w'.cell? ⟨ya,0,none⟩=some (.slice Ya Pa.length Za)∧w'.cell? ⟨ya,1,none⟩=some (.int .i64 Ka)∧w'.cell? ⟨ya,2,none⟩=some (.int .i64 Ga)∧w'.cell? ⟨ya,3,none⟩=some (.int .i64 Ia)∧w'.cell? ⟨ya,4,none⟩=some (.slice (some Tk) Da.length Jb)∧w'.cell? (VN.add (Ye).toNat)=some (.int .i64 (rd t112 Ye))∧w'.cell? (Tk.add (((rd t112 Ye)).toNat * 5))=some (.slice tS ((Aa Da (rd t112 Ye)).f0).length BR)∧w'.cell? ⟨(Tk.add (((rd t112 Ye)).toNat * 5)).block,(Tk.add (((rd t112 Ye)).toNat * 5)).off + 1,none⟩=some (.int .i64 ((Aa Da (rd t112 Ye)).f1))∧w'.cell? ⟨(Tk.add (((rd t112 Ye)).toNat * 5)).block,(Tk.add (((rd t112 Ye)).toNat * 5)).off + 2,none⟩=some (.int .i64 ((Aa Da (rd t112 Ye)).f2))∧w'.cell? ⟨(Tk.add (((rd t112 Ye)).toNat * 5)).block,(Tk.add (((rd t112 Ye)).toNat * 5)).off + 3,none⟩=some (.int .i64 ((Aa Da (rd t112 Ye)).f3))∧w'.cell? ⟨(Tk.add (((rd t112 Ye)).toNat * 5)).block,(Tk.add (((rd t112 Ye)).toNat * 5)).off + 4,none⟩=some (.int .i64 ((Aa Da (rd t112 Ye)).f4))∧w'.cell? (VN.add (Ye).toNat)=some (.int .i64 (rd t112 Ye))∧w'.cell? (qE.add ((rd t112 Ye)).toNat)=some (.slice sS (Md Yj (rd t112 Ye)).length AR)) (ds:=[]) #[false,false,false,false,false,false,false,false,false,false,false,false,false,false,false,false,false] (by kernel_rfl) rfl rfl ⟨(ga oa.out 0).trans rfl,(ga oa.out 1).trans rfl,(ga oa.out 2).trans rfl,(ga oa.out 3).trans rfl,(ga oa.out 4).trans rfl,XE,(Na HB.out fL),(Na HB.out eL),(Na HB.out dL),(Na HB.out cL),(Na HB.out bL),WE,uw⟩ (fun hHeld=>?_);refine Ci gb.Z2 gb.MZ (fun Pf jv=>?_);generalize wr.drew=fC at Vc Cf oa HB Uy jO Ct WB XE Aw zw yw xw vw WE uw hHeld ⊢;refine Wc (i:=0) (N:=some 46) (v:=?_) (a':=?_) #[true,false,false,false,false,false,false,false,false,false,false,false,false,false,false,false,false] rfl rfl (Sc Pf.out (by kernel_rfl)) (fun _ _ _ h=>h) (Or.inl ⟨by rfl,?_⟩) ?_ ?_;rotate_left
                   ·intro w';go_simp;with_reducible rfl
                   rotate_left
                   ·simp only [Act.put,List.setIfInBounds_toArray,List.set_cons_zero,List.set_cons_succ,Xb,Yb]
                    rfl
                   refine Wc (i:=2) (N:=some 48) (v:=?_) (a':=?_) #[true,false,true,false,false,false,false,false,false,false,false,false,false,false,false,false,false] rfl rfl (Sc Pf.out (by kernel_rfl)) (fun _ _ _ h=>h) (Or.inl ⟨by rfl,?_⟩) ?_ ?_;rotate_left
                   ·intro w';go_simp;with_reducible rfl
                   rotate_left
                   ·simp only [Act.put,List.setIfInBounds_toArray,List.set_cons_zero,List.set_cons_succ,Xb,Yb]
                    rfl
                   refine Wc (i:=3) (N:=some 49) (v:=?_) (a':=?_) #[true,false,true,true,false,false,false,false,false,false,false,false,false,false,false,false,false] rfl rfl (Sc Pf.out (by kernel_rfl)) (fun _ _ _ h=>h) (Or.inl ⟨by rfl,?_⟩) ?_ ?_;rotate_left
                   ·intro w';go_simp;with_reducible rfl
                   rotate_left
                   ·simp only [Act.put,List.setIfInBounds_toArray,List.set_cons_zero,List.set_cons_succ,Xb,Yb]
                    rfl
                   refine Wc (i:=4) (N:=some 50) (v:=?_) (a':=?_) #[true,false,true,true,true,false,false,false,false,false,false,false,false,false,false,false,false] rfl rfl (Sc Pf.out (by kernel_rfl)) (fun _ _ _ h=>h) (Or.inl ⟨by rfl,?_⟩) ?_ ?_;rotate_left
                   ·intro w';go_simp;with_reducible rfl
                   rotate_left
                   ·simp only [Act.put,List.setIfInBounds_toArray,List.set_cons_zero,List.set_cons_succ,Xb,Yb]
                    rfl
                   refine Wc (i:=8) (N:=some 54) (v:=?_) (a':=?_) #[true,false,true,true,true,false,false,false,true,false,false,false,false,false,false,false,false] rfl rfl (Sc Pf.out (by kernel_rfl)) (fun _ _ _ h=>h) (Or.inl ⟨by rfl,?_⟩) ?_ ?_;rotate_left
                   ·intro w';go_simp;with_reducible rfl
                   rotate_left
                   ·simp only [Act.put,List.setIfInBounds_toArray,List.set_cons_zero,List.set_cons_succ,Xb,Yb]
                    rfl
                   refine Wc (i:=9) (N:=some 55) (v:=?_) (a':=?_) #[true,false,true,true,true,false,false,false,true,true,false,false,false,false,false,false,false] rfl rfl (Sc Pf.out (by kernel_rfl)) (fun _ _ _ h=>h) (Or.inl ⟨by rfl,?_⟩) ?_ ?_;rotate_left
                   ·intro w';go_simp;with_reducible rfl
                   rotate_left
                   ·simp only [Act.put,List.setIfInBounds_toArray,List.set_cons_zero,List.set_cons_succ,Xb,Yb]
                    rfl
                   refine Wc (i:=10) (N:=some 56) (v:=?_) (a':=?_) #[true,false,true,true,true,false,false,false,true,true,true,false,false,false,false,false,false] rfl rfl (Sc Pf.out (by kernel_rfl)) (fun _ _ _ h=>h) (Or.inl ⟨by rfl,?_⟩) ?_ ?_;rotate_left
                   ·intro w';go_simp;with_reducible rfl
                   rotate_left
                   ·simp only [Act.put,List.setIfInBounds_toArray,List.set_cons_zero,List.set_cons_succ,Xb,Yb]
                    rfl
                   refine Wc (i:=11) (N:=some 57) (v:=?_) (a':=?_) #[true,false,true,true,true,false,false,false,true,true,true,true,false,false,false,false,false] rfl rfl (Sc Pf.out (by kernel_rfl)) (fun _ _ _ h=>h) (Or.inl ⟨by rfl,?_⟩) ?_ ?_;rotate_left
                   ·intro w';go_simp;with_reducible rfl
                   rotate_left
                   ·simp only [Act.put,List.setIfInBounds_toArray,List.set_cons_zero,List.set_cons_succ,Xb,Yb]
                    rfl
                   refine ug (i:=1) (N:=some 47) (v:=?_) (a':=?_) #[true,true,true,true,true,false,false,false,true,true,true,true,false,false,false,false,false] rfl rfl (Ue Pf.out jv.out (by kernel_rfl)) (fun _ _ _ h=>h) (Or.inl ⟨by rfl,?_⟩) hHeld ?_ ?_;rotate_left
                   ·rintro w' ⟨s0,s1,s2,s3,s4,s5,s6,s7,s8,s9,OK,NK,MK⟩;go_simp;with_reducible rfl
                   rotate_left
                   ·simp only [Act.put,List.setIfInBounds_toArray,List.set_cons_zero,List.set_cons_succ,Xb,Yb]
                    rfl
                   refine ug (i:=5) (N:=some 51) (v:=?_) (a':=?_) #[true,true,true,true,true,true,false,false,true,true,true,true,false,false,false,false,false] rfl rfl (Ue Pf.out jv.out (by kernel_rfl)) (fun _ _ _ h=>h) (Or.inl ⟨by rfl,?_⟩) hHeld ?_ ?_;rotate_left
                   ·rintro w' ⟨s0,s1,s2,s3,s4,s5,s6,s7,s8,s9,OK,NK,MK⟩;go_simp;with_reducible rfl
                   rotate_left
                   ·simp only [Act.put,List.setIfInBounds_toArray,List.set_cons_zero,List.set_cons_succ,Xb,Yb]
                    rfl
                   refine Wc (i:=6) (N:=some 52) (v:=?_) (a':=?_) #[true,true,true,true,true,true,true,false,true,true,true,true,false,false,false,false,false] rfl rfl (Sc Pf.out (by kernel_rfl)) (fun _ _ _ h=>h) (Or.inl ⟨by rfl,?_⟩) ?_ ?_;rotate_left
                   ·intro w';go_simp;with_reducible rfl
                   rotate_left
                   ·simp only [Act.put,List.setIfInBounds_toArray,List.set_cons_zero,List.set_cons_succ,Xb,Yb]
                    rfl
                   refine ug (i:=7) (N:=some 53) (v:=?_) (a':=?_) #[true,true,true,true,true,true,true,true,true,true,true,true,false,false,false,false,false] rfl rfl (Ue Pf.out jv.out (by kernel_rfl)) (fun _ _ _ h=>h) (Or.inl ⟨by rfl,?_⟩) hHeld ?_ ?_;rotate_left
                   ·rintro w' ⟨s0,s1,s2,s3,s4,s5,s6,s7,s8,s9,OK,NK,MK⟩;go_simp;with_reducible rfl
                   rotate_left
                   ·simp only [Act.put,List.setIfInBounds_toArray,List.set_cons_zero,List.set_cons_succ,Xb,Yb]
                    rfl
                   refine ug (i:=12) (N:=some 58) (v:=?_) (a':=?_) #[true,true,true,true,true,true,true,true,true,true,true,true,true,false,false,false,false] rfl rfl (Ue Pf.out jv.out (by kernel_rfl)) (fun _ _ _ h=>h) (Or.inl ⟨by rfl,?_⟩) hHeld ?_ ?_;rotate_left
                   ·rintro w' ⟨s0,s1,s2,s3,s4,s5,s6,s7,s8,s9,OK,NK,MK⟩;go_simp;with_reducible rfl
                   rotate_left
                   ·simp only [Act.put,List.setIfInBounds_toArray,List.set_cons_zero,List.set_cons_succ,Xb,Yb]
                    rfl
                   refine Wc (i:=13) (N:=some 59) (v:=?_) (a':=?_) #[true,true,true,true,true,true,true,true,true,true,true,true,true,true,false,false,false] rfl rfl (Sc Pf.out (by kernel_rfl)) (fun _ _ _ h=>h) (Or.inl ⟨by rfl,?_⟩) ?_ ?_;rotate_left
                   ·intro w';go_simp;with_reducible rfl
                   rotate_left
                   ·simp only [Act.put,List.setIfInBounds_toArray,List.set_cons_zero,List.set_cons_succ,Xb,Yb]
                    rfl
                   refine ug (i:=14) (N:=some 60) (v:=?_) (a':=?_) #[true,true,true,true,true,true,true,true,true,true,true,true,true,true,true,false,false] rfl rfl (Ue Pf.out jv.out (by kernel_rfl)) (fun _ _ _ h=>h) (Or.inl ⟨by rfl,?_⟩) hHeld ?_ ?_;rotate_left
                   ·rintro w' ⟨s0,s1,s2,s3,s4,s5,s6,s7,s8,s9,OK,NK,MK⟩;go_simp;with_reducible rfl
                   rotate_left
                   ·simp only [Act.put,List.setIfInBounds_toArray,List.set_cons_zero,List.set_cons_succ,Xb,Yb]
                    rfl
                   refine Qv (i:=15) (N:=some 61) #[true,true,true,true,true,true,true,true,true,true,true,true,true,true,true,true,false] rfl rfl (br Pf.out (by kernel_rfl)) (by decide) (fun K hK=>?_);refine Ko Try.func54 (by kernel_rfl) rfl #[.agg #[.slice tS ((Aa Da (rd t112 Ye)).f0).length BR,.int .i64 ((Aa Da (rd t112 Ye)).f1),.int .i64 ((Aa Da (rd t112 Ye)).f2),.int .i64 ((Aa Da (rd t112 Ye)).f3),.int .i64 ((Aa Da (rd t112 Ye)).f4)],.slice sS (Md Yj (rd t112 Ye)).length AR] (by rfl) rfl rfl (by (try simp only [List.map_toArray,List.map_cons,List.map_nil]);first|done|rfl|(simp only [List.length_drop,List.length_take];rfl)) ?_;with_reducible refine (Ze.calls k4 _ _ ((Aa Da (rd t112 Ye)).f0) ((Aa Da (rd t112 Ye)).f1) ((Aa Da (rd t112 Ye)).f2) ((Aa Da (rd t112 Ye)).f3) ((Aa Da (rd t112 Ye)).f4) _ _ (Md Yj (rd t112 Ye)) t119 _ ?yc ?uc ?ud ?td A28.out).mono ?_
                   (case yc=>repeat (first|exact (Kd.Ob jO.out HB.out)|(with_reducible refine Kd.Pb ?_ _)|(with_reducible refine Kd.Nb ?_ _)|(with_reducible refine Kd.Zb ?_)))
                   (case uc=>exact fW.out)
                   (case ud=>repeat (first|exact (by repeat (first|(with_reducible exact Ct.out)|(with_reducible refine Kd.Pb ?_ _)|(with_reducible refine Kd.Nb ?_ _)|(with_reducible refine Kd.Zb ?_)|exact Ct.out))|(with_reducible refine Kd.Pb ?_ _)|(with_reducible refine Kd.Nb ?_ _)|(with_reducible refine Kd.Zb ?_)))
                   (case td=>exact eW.out)
                   rintro e sO ⟨JX,rfl,Am,hb⟩;have E0:=(hb.cell (World.block_lt_of_cell? _ _ (hHeld.2.2.2.2.2.1))).trans (hHeld.2.2.2.2.2.1);have gaa:=(hb.cell (World.block_lt_of_cell? _ _ (hHeld.2.2.2.2.2.2.2.2.2.2.2.1))).trans (hHeld.2.2.2.2.2.2.2.2.2.2.2.1);have faa:=(hb.cell (World.block_lt_of_cell? _ _ (hHeld.2.2.2.2.2.2.2.2.2.2.2.2))).trans (hHeld.2.2.2.2.2.2.2.2.2.2.2.2);refine ⟨_,rfl,?_⟩;have Fb:=ja.mk (Kd.Ro (by (with_reducible repeat (first|apply Kd.Zc|apply Kd.Yc|apply Kd.Jd));exact Vc.out) (Kd.Vo Am) hb);have Ib:=ja.mk (Kd.dg (by (with_reducible repeat (first|apply Kd.Ab|apply Kd.zb|apply Kd.Rb));exact Cf.out) hb);have Sb:=ja.mk (Kd.Uo (by (with_reducible repeat (first|apply Kd.Ab|apply Kd.zb|apply Kd.Rb));exact Uy.out) (Kd.Vo Am) hb);have Ec:=ja.mk (Kd.Rd (Kd.Yv Am (Kd.oI (by (with_reducible repeat (first|apply Kd.Ab|apply Kd.zb|apply Kd.Rb));exact Uy.out))) (Fa (by repeat (first|(with_reducible first|exact HB.out|apply qa|apply ia|apply ta|refine ua ?_ Sa.out)|exact HB.out))));have Re:=ja.mk (Ua (g:=ya) (o:=.cells #[.slice Ya Pa.length Za,.int .i64 Ka,.int .i64 Ga,.int .i64 Ia,.slice (some Tk) Da.length Jb] 30 (0,0)) (by (with_reducible repeat (first|refine Ba ?_ _|refine Ea ?_|refine Ca ?_ _));exact oa.out) hb);have Gf:=ja.mk (Kd.Ob (by repeat (first|(with_reducible exact Ct.out)|(with_reducible refine Kd.Pb ?_ _)|(with_reducible refine Kd.Nb ?_ _)|(with_reducible refine Kd.Zb ?_)|exact Ct.out)) hb);have Yf:=ja.mk (xm hb WB.out);have tw:=ja.mk (Qa (by repeat (first|(with_reducible first|exact HB.out|apply qa|apply ia|apply ta|refine ua ?_ Sa.out)|exact HB.out)) hb);clear Vc Cf Uy oa Ct WB HB;have Vc:=Fb;have Cf:=Ib;have Uy:=Sb;have qj:=Ec;have oa:=Re;have Ct:=Gf;have WB:=Yf;have HB:=tw;clear Fb Ib Sb Ec Re Gf Yf tw;(try clear hb);(try clear Hi);(try clear hk);(try clear hi);(try clear Am);refine hK.out _ _ ⟨(ga oa.out 0).trans rfl,(ga oa.out 1).trans rfl,(ga oa.out 2).trans rfl,(ga oa.out 3).trans rfl,(ga oa.out 4).trans rfl,E0,(Na HB.out fL),(Na HB.out eL),(Na HB.out dL),(Na HB.out cL),(Na HB.out bL),gaa,faa⟩ (fun hHeld=>?_);clear hK K;refine Eo (a':=?_) ?_ ?_;rotate_left
                   ·show Act.put _ (some 61) _=_
                    simp only [Act.put,List.setIfInBounds_toArray,List.set_cons_zero,List.set_cons_succ,Xb,Yb]
                    rfl
                   refine Wc (i:=16) (N:=some 9) (v:=?_) (a':=?_) #[true,true,true,true,true,true,true,true,true,true,true,true,true,true,true,true,true] rfl rfl (Sc Pf.out (by kernel_rfl)) (fun _ _ _ h=>h) (Or.inl ⟨by rfl,?_⟩) ?_ ?_;rotate_left
                   ·intro w';go_simp;with_reducible rfl
                   rotate_left
                   ·simp only [Act.put,List.setIfInBounds_toArray,List.set_cons_zero,List.set_cons_succ,Xb,Yb]
                    rfl
                   refine Tp (Mm Pf.out (by kernel_rfl)) ?_
                   try go_wp2
                   go_loopg [5,10] k4 (fun kq v5 v10 w'=>∃ (Bg:List (List Bool)) (gA:Bool) (Zm:List Bool) (xe:Int),v5 = .bool gA∧v10 = .int .i64 xe∧ja (gb.l4 kq Bg gA je t112 Ye Zm xe Pa Ka Ga Ia Da=some r)∧ja (kq ≤ k4)∧ja (Kd.S (Kd.slice 4 Kd.bool) 60 w' w.heap.size (fun k_=>some k_ ≠ (JX:Value).ownBlock) (.slice (some qE) Yj.length C9) Bg)∧ja (Kd.R (Kd.int .i64) 3 w' w.heap.size (fun _=>True) (.slice (some VN) t112.length Uv) t112)∧ja (Kd.R Kd.bool 4 w' w.heap.size (fun _=>True) JX Zm)∧ja (w'.heap[ya]? = some (.cells #[(.slice Ya Pa.length Za),.int .i64 Ka,.int .i64 Ga,.int .i64 Ia,(.slice (some Tk) Da.length Jb)] 30 (0,0)))∧ja (Below w.heap.size w w'))
                   case atStart=>exact ⟨(Yj),(pO),(t119),(0),(by first|rfl|(simp;done)|(simp [*];done)),(by first|rfl|(simp;done)|(simp [*];done)),H',⟨Nat.le_refl _⟩,⟨by (with_reducible repeat (first|apply Kd.Zc|apply Kd.Yc|apply Kd.Jd));exact Kd.sg Vc.out (fun _ hk=>hk.2)⟩,⟨by (with_reducible repeat (first|apply Kd.Ab|apply Kd.zb|apply Kd.Rb));exact Cf.out⟩,⟨by (with_reducible repeat (first|apply Kd.Ab|apply Kd.zb|apply Kd.Rb));exact Kd.fe qj.out (fun _ hk=>trivial)⟩,⟨by (with_reducible repeat (first|refine Ba ?_ _|refine Ea ?_|refine Ca ?_ _));exact oa.out⟩,⟨by repeat (first|(with_reducible first|exact HB.out|apply qa|apply ia|apply ta|refine ua ?_ Sa.out)|exact HB.out)⟩⟩
                   case round =>
                    clear H'
                    try clear c1
                    try clear p1
                    try clear q1
                    try clear hx1
                    try clear c2
                    try clear p2
                    try clear c4
                    try clear c5
                    try clear sj
                    try clear c6
                    try clear Vm
                    try clear nA
                    try clear p6
                    try clear c7
                    try clear Tj
                    try clear Hq
                    try clear c8
                    try clear Hz
                    try clear eH
                    try clear dH
                    try clear yQ
                    try clear gH
                    try clear lu
                    try clear Vp
                    try clear xq
                    try clear Mo
                    try clear Xo
                    try clear Hv
                    try clear MG
                    try clear SN
                    try clear nP
                    try clear o_
                    try clear aD
                    try clear Jt
                    try clear gK
                    try clear j_
                    try clear vR
                    try clear i_
                    try clear ij
                    try clear gj
                    try clear fj
                    try clear ej
                    try clear cj
                    try clear ji
                    try clear ei
                    try clear di
                    try clear ai
                    try clear Zh
                    try clear FB
                    try clear EB
                    try clear DB
                    try clear CB
                    try clear BB
                    try clear Vl
                    try clear Ul
                    try clear Tl
                    try clear Sl
                    try clear Rl
                    try clear aj
                    try clear Zi
                    try clear Yi
                    try clear Xi
                    try clear Wi
                    try clear Yh
                    try clear Xh
                    try clear Wh
                    try clear Vh
                    try clear Uh
                    try clear WA
                    try clear VA
                    try clear UA
                    try clear TA
                    try clear SA
                    try clear Ql
                    try clear Ol
                    try clear Nl
                    try clear Ml
                    try clear Ll
                    try clear wA
                    try clear vA
                    try clear uA
                    try clear tA
                    try clear sA
                    try clear XE
                    try clear Aw
                    try clear zw
                    try clear yw
                    try clear xw
                    try clear vw
                    try clear WE
                    try clear uw
                    try clear p1
                    try clear eH
                    try clear ZP
                    try clear cT
                    try clear bT
                    try clear aT
                    try clear YP
                    try clear p2
                    try clear p6
                    try clear q1
                    try clear dH
                    try clear VP
                    try clear YS
                    try clear XS
                    try clear WS
                    try clear TP
                    (try clear HA);(try clear gS);(try clear Vc);(try clear Cf);(try clear Ty);(try clear oa);(try clear HB);obtain ⟨Bg,gA,Zm,xe,rfl,rfl,HA,gS,Vc,Cf,Ty,oa,HB⟩:=hrel;have Ri:=(Kd.ef Vc.out).1;rw [Ri] at Vc;(try simp only [Ri]);(try simp only [Ri] at oa);(try simp only [Ri] at Cf);(try simp only [Ri] at Ty);cases gk with
                    | zero=>exact absurd HA.out (by simp [gb.l4])
                    | succ k5 =>
                     have H:=HA.out;clear HA;simp only [gb.l4] at H
                     by_cases fI:xe < Ia
                     ·rw [if_pos fI] at H;have YW:decide (xe < Ia)=true:=decide_eq_true fI;clear fI
                      by_cases wD:0 ≤ xe
                      ·rw [if_pos wD] at H;have tR:decide (0 ≤ xe)=true:=decide_eq_true wD;clear wD
                       by_cases fH:xe < (Zm.length:Int)
                       ·rw [if_pos fH] at H;have sR:decide (xe < (Zm.length:Int))=true:=decide_eq_true fH;clear fH;obtain ⟨r_,WQ⟩:∃ b_:Bool,b_=(Kf false Zm xe):=⟨_,rfl⟩;replace H:(if r_=true then (if 0 ≤ je then (if je < (Bg.length:Int) then (if xe < ((Md Bg je).length:Int) then (if (Kf false (Md Bg je) xe=true) then (gb.l4 k5 Bg gA je t112 Ye Zm (wrap64 (xe + 1)) Pa Ka Ga Ia Da) else (gb.l4 k5 (Bg.set (je:Int).toNat ((Md Bg je).set (xe:Int).toNat true)) true je t112 Ye Zm (wrap64 (xe + 1)) Pa Ka Ga Ia Da)) else (none)) else (none)) else (none)) else (gb.l4 k5 Bg gA je t112 Ye Zm (wrap64 (xe + 1)) Pa Ka Ga Ia Da))=some r:=by rw [← WQ] at H;exact H
                        have pI:=ja.mk WQ;clear WQ
                        by_cases CP:r_=true
                        ·subst CP;have H1:(if 0 ≤ je then (if je < (Bg.length:Int) then (if xe < ((Md Bg je).length:Int) then (if (Kf false (Md Bg je) xe=true) then (gb.l4 k5 Bg gA je t112 Ye Zm (wrap64 (xe + 1)) Pa Ka Ga Ia Da) else (gb.l4 k5 (Bg.set (je:Int).toNat ((Md Bg je).set (xe:Int).toNat true)) true je t112 Ye Zm (wrap64 (xe + 1)) Pa Ka Ga Ia Da)) else (none)) else (none)) else (none))=some r:=by rw [if_pos rfl] at H;exact H
                         clear H;have H:=H1;clear H1
                         by_cases BP:0 ≤ je
                         ·rw [if_pos BP] at H;have TW:decide (0 ≤ je)=true:=decide_eq_true BP;clear BP
                          by_cases CS:je < (Bg.length:Int)
                          ·rw [if_pos CS] at H;have bao:decide (je < (Bg.length:Int))=true:=decide_eq_true CS;clear CS
                           by_cases c40:xe < ((Md Bg je).length:Int)
                           ·rw [if_pos c40] at H;have aao:decide (xe < ((Md Bg je).length:Int))=true:=decide_eq_true c40;clear c40;obtain ⟨q_,VQ⟩:∃ b_:Bool,b_=(Kf false (Md Bg je) xe):=⟨_,rfl⟩;replace H:(if (q_=true) then (gb.l4 k5 Bg gA je t112 Ye Zm (wrap64 (xe + 1)) Pa Ka Ga Ia Da) else (gb.l4 k5 (Bg.set (je:Int).toNat ((Md Bg je).set (xe:Int).toNat true)) true je t112 Ye Zm (wrap64 (xe + 1)) Pa Ka Ga Ia Da))=some r:=by rw [← VQ] at H;exact H
                            have fO:=ja.mk VQ;clear VQ
                            by_cases c42:(q_=true)
                            ·subst c42;have H1:(gb.l4 k5 Bg gA je t112 Ye Zm (wrap64 (xe + 1)) Pa Ka Ga Ia Da)=some r:=by rw [if_pos rfl] at H;exact H
                             clear H;have H:=H1;clear H1;have H':=ja.mk H;clear H;have PM:wr.cell? ⟨ya,0,none⟩=some (.slice Ya Pa.length Za):=(ga oa.out 0).trans rfl;have OM:wr.cell? ⟨ya,1,none⟩=some (.int .i64 Ka):=(ga oa.out 1).trans rfl;have NM:wr.cell? ⟨ya,2,none⟩=some (.int .i64 Ga):=(ga oa.out 2).trans rfl;have MM:wr.cell? ⟨ya,3,none⟩=some (.int .i64 Ia):=(ga oa.out 3).trans rfl;have LM:wr.cell? ⟨ya,4,none⟩=some (.slice (some Tk) Da.length Jb):=(ga oa.out 4).trans rfl;have JL:=aa oa.out 0;have IL:=aa oa.out 1;have GL:=aa oa.out 2;have FL:=aa oa.out 3;have EL:=aa oa.out 4;obtain ⟨tar,saq,yak⟩:=Kd.De Ty.out;subst yak;have wC:0 ≤ (xe:Int):=Wa;have uC:xe < (Zm.length:Int):=Wa;obtain ⟨JR,mR,dr⟩:=Kd.kj (Kd.Lc Ty.out).2.2 xe wC uC;(try rw [← pI.out] at dr);(try rw [← fO.out] at dr);cases mR;replace wC:=eq_true wC;replace uC:=eq_true uC;have OE:0 ≤ (je:Int):=Wa;have KE:je < (Bg.length:Int):=Wa;obtain ⟨GR,J1,iK,gZ,Fu,sx,yx⟩:=Wv (Kd.ef Vc.out).2.2 je OE KE;obtain rfl:qE=GR:=(by injection gZ);obtain ⟨F9,GJ,HJ,KC⟩:=Kd.lI Vc.out [] je OE (by first|exact KE|exact Wa|(have e_:=(Kd.ef Vc.out).1;omega));obtain ⟨OS,rfl,Ys⟩:=HJ;have Il:=KC 0 _ rfl;rw [Nat.add_zero,show ((Kd.slice 4 Kd.bool)).sz=1 from rfl,Nat.mul_one] at Il;replace Il:=Option.some.inj (Il.symm.trans Fu);rw [Il] at Ys;have kO:=ja.mk (show Kd.R Kd.bool 4 _ _ _ _ (Md Bg je) from Ys);clear Il Ys;have SV:=ja.mk Fu;clear KC GJ;have Qy:=ja.mk yx;have dW:=ja.mk sx;clear yx sx;replace OE:=eq_true OE;replace KE:=eq_true KE;have VI:0 ≤ (xe:Int):=Wa;have OI:xe < ((Md Bg je).length:Int):=Wa;obtain ⟨v_,fZ,Eu⟩:=Kd.kj (by repeat (first|(with_reducible exact Qy.out)|(with_reducible refine Kd.Pb ?_ _)|(with_reducible refine Kd.Nb ?_ _)|(with_reducible refine Kd.Zb ?_)|exact Qy.out)) xe VI OI;(try rw [← pI.out] at Eu);(try rw [← fO.out] at Eu);cases fZ;replace VI:=eq_true VI;replace OI:=eq_true OI;go_wp2;(try simp only [← Ri])
                             go_roundg k5
                             case measure=>have:=lg.out;have:=qA.out;have:=qI.out;have:=VD.out;have:=gS.out;omega
                             case rel=>exact ⟨(Bg),(gA),(Zm),(wrap64 (xe + 1)),(by first|rfl|(simp;done)|(simp [*];done)),(by first|rfl|(simp;done)|(simp [*];done)),H',⟨by have:=lg.out;have:=qA.out;have:=qI.out;have:=VD.out;have:=gS.out;omega⟩,⟨by (try simp only [Ri]);(with_reducible repeat (first|apply Kd.Zc|apply Kd.Yc|apply Kd.Jd));exact Vc.out⟩,⟨by (try simp only [Ri]);(with_reducible repeat (first|apply Kd.Ab|apply Kd.zb|apply Kd.Rb));exact Cf.out⟩,⟨by (try simp only [Ri]);(with_reducible repeat (first|apply Kd.Ab|apply Kd.zb|apply Kd.Rb));exact Ty.out⟩,⟨by (try simp only [Ri]);(with_reducible repeat (first|refine Ba ?_ _|refine Ea ?_|refine Ca ?_ _));exact oa.out⟩,⟨by repeat (first|(with_reducible first|exact HB.out|apply qa|apply ia|apply ta|refine ua ?_ Sa.out)|exact HB.out)⟩⟩
                            ·replace c42:=Bool.eq_false_iff.mpr c42;subst c42;have H1:(gb.l4 k5 (Bg.set (je:Int).toNat ((Md Bg je).set (xe:Int).toNat true)) true je t112 Ye Zm (wrap64 (xe + 1)) Pa Ka Ga Ia Da)=some r:=by rw [if_neg (show ¬ (false=true) by decide)] at H;exact H
                             clear H;have H:=H1;clear H1;obtain ⟨BX,CH⟩:∃ y_:List Bool,y_=((Md Bg je).set (xe:Int).toNat true):=⟨_,rfl⟩;replace H:(gb.l4 k5 (Bg.set (je:Int).toNat BX) true je t112 Ye Zm (wrap64 (xe + 1)) Pa Ka Ga Ia Da)=some r:=by first|(rw [CH];with_reducible exact H)|(have ue:=(Option.bind_some _ _).symm.trans H;rw [CH];with_reducible exact ue)|(have ue:=(Option.bind_some _ _).symm.trans H;with_reducible exact ue)|with_reducible exact H|(rw [CH];exact H)|exact H
                             have L_:=ja.mk CH;clear CH;obtain ⟨AX,BH⟩:∃ y_:List (List Bool),y_=(Bg.set (je:Int).toNat BX):=⟨_,rfl⟩;replace H:(gb.l4 k5 AX true je t112 Ye Zm (wrap64 (xe + 1)) Pa Ka Ga Ia Da)=some r:=by first|(rw [BH];with_reducible exact H)|(have ue:=(Option.bind_some _ _).symm.trans H;rw [BH];with_reducible exact ue)|(have ue:=(Option.bind_some _ _).symm.trans H;with_reducible exact ue)|with_reducible exact H|(rw [BH];exact H)|exact H
                             have K_:=ja.mk BH;clear BH;have H':=ja.mk H;clear H;have IM:wr.cell? ⟨ya,0,none⟩=some (.slice Ya Pa.length Za):=(ga oa.out 0).trans rfl;have GM:wr.cell? ⟨ya,1,none⟩=some (.int .i64 Ka):=(ga oa.out 1).trans rfl;have FM:wr.cell? ⟨ya,2,none⟩=some (.int .i64 Ga):=(ga oa.out 2).trans rfl;have EM:wr.cell? ⟨ya,3,none⟩=some (.int .i64 Ia):=(ga oa.out 3).trans rfl;have DM:wr.cell? ⟨ya,4,none⟩=some (.slice (some Tk) Da.length Jb):=(ga oa.out 4).trans rfl;have BL:=aa oa.out 0;have AL:=aa oa.out 1;have zL:=aa oa.out 2;have yL:=aa oa.out 3;have xL:=aa oa.out 4;obtain ⟨sar,Nak,xak⟩:=Kd.De Ty.out;subst xak;have wC:0 ≤ (xe:Int):=Wa;have uC:xe < (Zm.length:Int):=Wa;obtain ⟨JR,mR,dr⟩:=Kd.kj (Kd.Lc Ty.out).2.2 xe wC uC;(try rw [← pI.out] at dr);(try rw [← fO.out] at dr);cases mR;replace wC:=eq_true wC;replace uC:=eq_true uC;have OE:0 ≤ (je:Int):=Wa;have KE:je < (Bg.length:Int):=Wa;obtain ⟨GR,J1,iK,gZ,Fu,sx,yx⟩:=Wv (Kd.ef Vc.out).2.2 je OE KE;obtain rfl:qE=GR:=(by injection gZ);obtain ⟨F9,GJ,HJ,KC⟩:=Kd.lI Vc.out [] je OE (by first|exact KE|exact Wa|(have e_:=(Kd.ef Vc.out).1;omega));obtain ⟨OS,rfl,Ys⟩:=HJ;have Il:=KC 0 _ rfl;rw [Nat.add_zero,show ((Kd.slice 4 Kd.bool)).sz=1 from rfl,Nat.mul_one] at Il;replace Il:=Option.some.inj (Il.symm.trans Fu);rw [Il] at Ys;have kO:=ja.mk (show Kd.R Kd.bool 4 _ _ _ _ (Md Bg je) from Ys);clear Il Ys;have SV:=ja.mk Fu;clear KC GJ;have Qy:=ja.mk yx;have dW:=ja.mk sx;clear yx sx;replace OE:=eq_true OE;replace KE:=eq_true KE;have VI:0 ≤ (xe:Int):=Wa;have OI:xe < ((Md Bg je).length:Int):=Wa;obtain ⟨v_,fZ,Eu⟩:=Kd.kj (by repeat (first|(with_reducible exact Qy.out)|(with_reducible refine Kd.Pb ?_ _)|(with_reducible refine Kd.Nb ?_ _)|(with_reducible refine Kd.Zb ?_)|exact Qy.out)) xe VI OI;(try rw [← pI.out] at Eu);(try rw [← fO.out] at Eu);cases fZ;replace VI:=eq_true VI;replace OI:=eq_true OI;have ZS:0 ≤ (je:Int):=Wa;have VS:je < (Bg.length:Int):=Wa;obtain ⟨u_,Mal,aal,Gak,VE,iL,qL⟩:=Wv (Kd.ef Vc.out).2.2 je ZS VS;obtain rfl:qE=u_:=(by injection Gak);obtain ⟨Xan,KY,PY,SQ⟩:=Kd.lI Vc.out [] je ZS (by first|exact VS|exact Wa|(have e_:=(Kd.ef Vc.out).1;omega));obtain ⟨Zaa,rfl,BG⟩:=PY;have dx:=SQ 0 _ rfl;rw [Nat.add_zero,show ((Kd.slice 4 Kd.bool)).sz=1 from rfl,Nat.mul_one] at dx;replace dx:=Option.some.inj (dx.symm.trans VE);rw [dx] at BG;have nv:=ja.mk (show Kd.R Kd.bool 4 _ _ _ _ (Md Bg je) from BG);clear dx BG;have RV:=ja.mk VE;clear SQ KY;have bai:=ja.mk qL;have lai:=ja.mk iL;clear qL iL;replace ZS:=eq_true ZS;replace VS:=eq_true VS;have Um:=Option.some.inj (Fu.symm.trans VE);injection Um with Um RD SD
                             subst Um;subst SD;clear RD;have p45:0 ≤ (xe:Int):=Wa;have q45:(xe:Int) < (((Md Bg je).length:Int):Int):=Wa;obtain ⟨BV,raq,o9,b9,mak,taq,uaa⟩:=Kd.gn nv.out (by omega);(first|cases o9|(injection o9 with Um RD SD;(first|subst Um|(injection Um with Um;subst Um));subst SD;clear RD));have Dal:=ja.mk b9;have ear:=ja.mk uaa;clear b9 mak uaa;(first|simp only [add_plain] at Eu|skip);obtain ⟨Sai,Vaj⟩:=Kd.Gk false nv.out (xe:Int) p45 q45;replace p45:=eq_true p45;replace q45:=eq_true q45;have faj:(je:Int) < (Bg.length:Int):=(by have h_:(je:Int) < ((Bg.length:Int):Int):=Wa;first|exact h_|(have e_:=(Kd.ef Vc.out).1;omega)|simpa only [List.length_set,List.length_set] using h_);obtain ⟨G3,yaq,S8,gak,PW,zW,RW⟩:=Kd.SR Vc.out [] (je:Int) (Wa) faj;obtain ⟨wai,rfl,AG⟩:=gak;have rT:=PW 0 _ rfl;rw [Nat.add_zero,show ((Kd.slice 4 Kd.bool)).sz=1 from rfl,Nat.mul_one] at rT;replace rT:=Option.some.inj (rT.symm.trans RV.out);subst rT;clear PW S8;replace AG:=(show Kd.R Kd.bool 4 _ _ _ _ (Md Bg je) from AG);have I0:=Kd.yq AG (xe:Int) true;go_wp2_with (first|((with_reducible refine Pg (t:=4) (p:=87) rfl ?_);refine pg (t:=4) (p:=87) (v:=?qai) (w1:=(wr.setCell ⟨BV,(xe:Int).toNat,none⟩ (.bool true))) ?hg ?ho ?hn ?hr ?_;(case ho=>rfl);(case hg=>rfl);(case hn=>rfl);(case hr=>first|(go_simp;done)|(go_simp;rfl));intro O1 hw;have hg:wr.grownBy O1 (some BV):=(by rw [hw];exact I0.2);have hJ:Kd.R Kd.bool 4 O1 w.heap.size G3 (.slice (some ⟨BV,0,none⟩) (Md Bg je).length iK) BX:=(by rw [hw,L_.out];exact I0.1);have qx:Kd.S (Kd.slice 4 Kd.bool) 60 O1 w.heap.size (fun k_=>some k_ ≠ (.slice (some JR) Zm.length Nak:Value).ownBlock) (.slice (some qE) Bg.length C9) AX:=(by rw [K_.out];exact RW hg (fun k_ e_=>by injection e_ with e_;subst e_;exact AG.1 _ rfl) (Kd.oX hJ));have hm_:=Kd.fe hJ zW;clear I0 RW;have Fb:=ja.mk (qx);have Ib:=ja.mk (Kd.SG (v:=(.slice (some ⟨BV,0,none⟩) (Md Bg je).length iK)) (by (with_reducible repeat (first|apply Kd.Ab|apply Kd.zb|apply Kd.Rb));exact Cf.out) (Kd.VB nv.out) (by decide) hg);have Sb:=ja.mk (Kd.YR (by (with_reducible repeat (first|apply Kd.Ab|apply Kd.zb|apply Kd.Rb));exact Ty.out) rfl hg ((nv.out.1 _ rfl).1));have Ec:=ja.mk (Ed (g:=ya) (o:=.cells #[.slice Ya Pa.length Za,.int .i64 Ka,.int .i64 Ga,.int .i64 Ia,.slice (some Tk) Da.length Jb] 30 (0,0)) (by (with_reducible repeat (first|refine Ba ?_ _|refine Ea ?_|refine Ca ?_ _));exact oa.out) hg (Kd.Vj nv.out oa.out (by decide)));have Re:=ja.mk ((by rw [hw];exact ua (HB.out) Dal.out:Below w.heap.size w O1));have Gf:=ja.mk (hm_);have Yf:=ja.mk ((Kd.Lc hm_).2.1);clear Vc Cf Ty oa HB kO nv;have Vc:=Fb;have Cf:=Ib;have Ty:=Sb;have oa:=Ec;have HB:=Re;have Aao:=Gf;have Kao:=Yf;clear Fb Ib Sb Ec Re Gf Yf hg hw qx hJ hm_ zW));(try simp only [← Ri])
                             go_roundg k5
                             case measure=>have:=lg.out;have:=qA.out;have:=qI.out;have:=VD.out;have:=gS.out;omega
                             case rel=>exact ⟨(AX),(true),(Zm),(wrap64 (xe + 1)),(by first|rfl|(simp;done)|(simp [*];done)),(by first|rfl|(simp;done)|(simp [*];done)),H',⟨by have:=lg.out;have:=qA.out;have:=qI.out;have:=VD.out;have:=gS.out;omega⟩,⟨by (try simp only [Ri]);(with_reducible repeat (first|apply Kd.Zc|apply Kd.Yc|apply Kd.Jd));exact Vc.out⟩,⟨by (try simp only [Ri]);(with_reducible repeat (first|apply Kd.Ab|apply Kd.zb|apply Kd.Rb));exact Cf.out⟩,⟨by (try simp only [Ri]);(with_reducible repeat (first|apply Kd.Ab|apply Kd.zb|apply Kd.Rb));exact Ty.out⟩,⟨by (try simp only [Ri]);(with_reducible repeat (first|refine Ba ?_ _|refine Ea ?_|refine Ca ?_ _));exact oa.out⟩,⟨by repeat (first|(with_reducible first|exact HB.out|apply qa|apply ia|apply ta|refine ua ?_ Sa.out)|exact HB.out)⟩⟩
                           ·rw [if_neg c40] at H;exact absurd H (by simp)
                          ·rw [if_neg CS] at H;exact absurd H (by simp)
                         ·rw [if_neg BP] at H;exact absurd H (by simp)
                        ·replace CP:=Bool.eq_false_iff.mpr CP;subst CP;have H1:(gb.l4 k5 Bg gA je t112 Ye Zm (wrap64 (xe + 1)) Pa Ka Ga Ia Da)=some r:=by rw [if_neg (show ¬ (false=true) by decide)] at H;exact H
                         clear H;have H:=H1;clear H1;have H':=ja.mk H;clear H;have KU:wr.cell? ⟨ya,0,none⟩=some (.slice Ya Pa.length Za):=(ga oa.out 0).trans rfl;have JU:wr.cell? ⟨ya,1,none⟩=some (.int .i64 Ka):=(ga oa.out 1).trans rfl;have IU:wr.cell? ⟨ya,2,none⟩=some (.int .i64 Ga):=(ga oa.out 2).trans rfl;have HU:wr.cell? ⟨ya,3,none⟩=some (.int .i64 Ia):=(ga oa.out 3).trans rfl;have GU:wr.cell? ⟨ya,4,none⟩=some (.slice (some Tk) Da.length Jb):=(ga oa.out 4).trans rfl;have PT:=aa oa.out 0;have OT:=aa oa.out 1;have NT:=aa oa.out 2;have MT:=aa oa.out 3;have KT:=aa oa.out 4;obtain ⟨qar,paq,wak⟩:=Kd.De Ty.out;subst wak;have wC:0 ≤ (xe:Int):=Wa;have uC:xe < (Zm.length:Int):=Wa;obtain ⟨JR,mR,dr⟩:=Kd.kj (Kd.Lc Ty.out).2.2 xe wC uC;(try rw [← pI.out] at dr);cases mR;replace wC:=eq_true wC;replace uC:=eq_true uC;go_wp2;(try simp only [← Ri])
                         go_roundg k5
                         case measure=>have:=lg.out;have:=qA.out;have:=qI.out;have:=VD.out;have:=gS.out;omega
                         case rel=>exact ⟨(Bg),(gA),(Zm),(wrap64 (xe + 1)),(by first|rfl|(simp;done)|(simp [*];done)),(by first|rfl|(simp;done)|(simp [*];done)),H',⟨by have:=lg.out;have:=qA.out;have:=qI.out;have:=VD.out;have:=gS.out;omega⟩,⟨by (try simp only [Ri]);(with_reducible repeat (first|apply Kd.Zc|apply Kd.Yc|apply Kd.Jd));exact Vc.out⟩,⟨by (try simp only [Ri]);(with_reducible repeat (first|apply Kd.Ab|apply Kd.zb|apply Kd.Rb));exact Cf.out⟩,⟨by (try simp only [Ri]);(with_reducible repeat (first|apply Kd.Ab|apply Kd.zb|apply Kd.Rb));exact Ty.out⟩,⟨by (try simp only [Ri]);(with_reducible repeat (first|refine Ba ?_ _|refine Ea ?_|refine Ca ?_ _));exact oa.out⟩,⟨by repeat (first|(with_reducible first|exact HB.out|apply qa|apply ia|apply ta|refine ua ?_ Sa.out)|exact HB.out)⟩⟩
                       ·rw [if_neg fH] at H;exact absurd H (by simp)
                      ·rw [if_neg wD] at H;exact absurd H (by simp)
                     ·rw [if_neg fI] at H;have YW:decide (xe < Ia)=false:=decide_eq_false fI;clear fI;have H':=ja.mk H;clear H;have UF:wr.cell? ⟨ya,0,none⟩=some (.slice Ya Pa.length Za):=(ga oa.out 0).trans rfl;have TF:wr.cell? ⟨ya,1,none⟩=some (.int .i64 Ka):=(ga oa.out 1).trans rfl;have SF:wr.cell? ⟨ya,2,none⟩=some (.int .i64 Ga):=(ga oa.out 2).trans rfl;have RF:wr.cell? ⟨ya,3,none⟩=some (.int .i64 Ia):=(ga oa.out 3).trans rfl;have QF:wr.cell? ⟨ya,4,none⟩=some (.slice (some Tk) Da.length Jb):=(ga oa.out 4).trans rfl;have fF:=aa oa.out 0;have eF:=aa oa.out 1;have dF:=aa oa.out 2;have cF:=aa oa.out 3;have bF:=aa oa.out 4;go_wp2;(try simp only [← Ri])
                      go_roundg k5
                      case measure=>have:=lg.out;have:=qA.out;have:=qI.out;have:=VD.out;have:=gS.out;omega
                      case rel=>exact ⟨(Bg),(gA),(wrap64 (Ye + 1)),(by first|rfl|(simp;done)|(simp [*];done)),(by first|rfl|(simp;done)|(simp [*];done)),H',⟨by have:=lg.out;have:=qA.out;have:=qI.out;have:=VD.out;have:=gS.out;omega⟩,⟨by (try simp only [Ri]);(with_reducible repeat (first|apply Kd.Zc|apply Kd.Yc|apply Kd.Jd));exact Kd.sg Vc.out (fun _ hk=>trivial)⟩,⟨by (try simp only [Ri]);(with_reducible repeat (first|apply Kd.Ab|apply Kd.zb|apply Kd.Rb));exact Cf.out⟩,⟨by (try simp only [Ri]);(with_reducible repeat (first|refine Ba ?_ _|refine Ea ?_|refine Ca ?_ _));exact oa.out⟩,⟨by repeat (first|(with_reducible first|exact HB.out|apply qa|apply ia|apply ta|refine ua ?_ Sa.out)|exact HB.out)⟩⟩
                  ·rw [if_neg vR] at H;exact absurd H (by simp)
                 ·rw [if_neg gK] at H;exact absurd H (by simp)
                ·rw [if_neg aD] at H;exact absurd H (by simp)
               ·rw [if_neg nP] at H;exact absurd H (by simp)
              ·rw [if_neg MG] at H;have SN:decide (Ye < (t112.length:Int))=false:=decide_eq_false MG;clear MG;have H':=ja.mk H;clear H;obtain ⟨oar,oaq,vak⟩:=Kd.De Cf.out;subst vak;go_wp2
               go_roundg k4
               case measure=>have:=lg.out;have:=qA.out;have:=qI.out;have:=VD.out;omega
               case rel=>exact ⟨(Yj),(pO),(wrap64 (je - 1)),(by first|rfl|(simp;done)|(simp [*];done)),(by first|rfl|(simp;done)|(simp [*];done)),H',⟨by have:=lg.out;have:=qA.out;have:=qI.out;have:=VD.out;omega⟩,⟨by (with_reducible repeat (first|apply Kd.Zc|apply Kd.Yc|apply Kd.Jd));exact Vc.out⟩,⟨by (with_reducible repeat (first|refine Ba ?_ _|refine Ea ?_|refine Ca ?_ _));exact oa.out⟩,⟨by repeat (first|(with_reducible first|exact HB.out|apply qa|apply ia|apply ta|refine ua ?_ Sa.out)|exact HB.out)⟩⟩
           ·rw [if_neg Xo] at H;exact absurd H (by simp)
          ·rw [if_neg xq] at H;exact absurd H (by simp)
         ·rw [if_neg lu] at H;have Vp:decide (0 ≤ je)=false:=decide_eq_false lu;clear lu;have H':=ja.mk H;clear H;go_wp2
          go_roundg k3
          case measure=>have:=lg.out;have:=qA.out;have:=qI.out;omega
          case rel=>exact ⟨(qO),(ye),(by first|rfl|(simp;done)|(simp [*];done)),H',⟨by have:=lg.out;have:=qA.out;have:=qI.out;omega⟩,⟨by (with_reducible repeat (first|apply Kd.Zc|apply Kd.Yc|apply Kd.Jd));exact Vc.out⟩,⟨by (with_reducible repeat (first|refine Ba ?_ _|refine Ea ?_|refine Ca ?_ _));exact oa.out⟩,⟨by repeat (first|(with_reducible first|exact HB.out|apply qa|apply ia|apply ta|refine ua ?_ Sa.out)|exact HB.out)⟩⟩
      ·replace gH:=Bool.eq_false_iff.mpr gH;subst gH;have H1:(some Xy)=some r:=by rw [if_neg (show ¬ (false=true) by decide)] at H;exact H
       clear H;have H:=H1;clear H1;obtain rfl:=Option.some.inj H;go_wp2;go_ret;exact ⟨_,by first|rfl|(simp [Ma,La] <;> rfl)|(simp [*,Ma,La] <;> rfl),by (with_reducible repeat (first|apply Kd.Zc|apply Kd.Yc|apply Kd.Jd));exact Vc.out,by repeat (first|(with_reducible first|exact HB.out|apply qa|apply ia|apply ta|refine ua ?_ Sa.out)|exact HB.out)⟩
def Rc.l0:Nat→List Bool→Int→Int→Option (Int)
 | 0,_,_,_=>none
 | k + 1,x0,x3,x4=>if x4 < (x0.length:Int) then (if 0 ≤ x4 then (if Kf false x0 x4=true then (Rc.l0 k x0 (wrap64 (x3 + 1)) (wrap64 (x4 + 1))) else (Rc.l0 k x0 x3 (wrap64 (x4 + 1)))) else (none)) else (some x3)
def Rc.f (k:Nat) (l0:List Bool):Option (Int):=Rc.l0 k l0 0 0
theorem Rc.calls (k:Nat) (A0:Option Addr) (c0:Nat) (l0:List Bool) (r:Int) (w:World) (Rk:Kd.C Kd.bool w A0 l0.length l0) (hc0:l0.length ≤ c0) (h:Rc.f k l0=some r) :
  Calls Try.prog 43 #[.slice A0 l0.length c0] w fun e w'=>e = .returned (.int .i64 r)∧Oc w w':=by
 have sn:=ja.mk Rk;have rI:=ja.mk hc0;clear Rk hc0;have H:(Rc.l0 k l0 0 0)=some r:=h;clear h;have H':=ja.mk H;clear H;go_enter Try.func43,Try.ntmps43;go_wp2
 go_loopg [3,4] k (fun kq v3 v4 w'=>∃ (ld:Int) (Ic:Int),v3 = .int .i64 ld∧v4 = .int .i64 Ic∧ja (Rc.l0 kq l0 ld Ic=some r)∧ja (kq ≤ k)∧Oc w w')
 case atStart=>exact ⟨(0),(0),(by first|rfl|(simp;done)|(simp [*];done)),(by first|rfl|(simp;done)|(simp [*];done)),H',⟨Nat.le_refl _⟩,by repeat (first|exact Oc.refl _|apply Oc.step)⟩
 case round =>
  clear H';(try clear HA);(try clear lg);obtain ⟨ld,Ic,rfl,rfl,HA,lg,⟨m1,rfl⟩⟩:=hrel;cases gk with
  | zero=>exact absurd HA.out (by simp [Rc.l0])
  | succ k1 =>
   have H:=HA.out;clear HA;simp only [Rc.l0] at H
   by_cases c2:Ic < (l0.length:Int)
   ·rw [if_pos c2] at H;have Vv:decide (Ic < (l0.length:Int))=true:=decide_eq_true c2;clear c2
    by_cases c3:0 ≤ Ic
    ·rw [if_pos c3] at H;have Nh:decide (0 ≤ Ic)=true:=decide_eq_true c3;clear c3;obtain ⟨bq4,OY⟩:∃ b_:Bool,b_=(Kf false l0 Ic):=⟨_,rfl⟩;replace H:(if bq4=true then (Rc.l0 k1 l0 (wrap64 (ld + 1)) (wrap64 (Ic + 1))) else (Rc.l0 k1 l0 ld (wrap64 (Ic + 1))))=some r:=by rw [← OY] at H;exact H
     have O_:=ja.mk OY;clear OY
     by_cases c5:bq4=true
     ·subst c5;have H1:(Rc.l0 k1 l0 (wrap64 (ld + 1)) (wrap64 (Ic + 1)))=some r:=by rw [if_pos rfl] at H;exact H
      clear H;have H:=H1;clear H1;have H':=ja.mk H;clear H;have lf:0 ≤ (Ic:Int):=Wa;have kf:Ic < (l0.length:Int):=Wa;obtain ⟨ie,wj,Nd⟩:=Kd.kj sn.out Ic lf kf;(try rw [← O_.out] at Nd);cases wj;replace lf:=eq_true lf;replace kf:=eq_true kf;go_wp2
      go_roundg k1
      case measure=>have:=lg.out;omega
      case rel=>exact ⟨(wrap64 (ld + 1)),(wrap64 (Ic + 1)),(by first|rfl|(simp;done)|(simp [*];done)),(by first|rfl|(simp;done)|(simp [*];done)),H',⟨by have:=lg.out;omega⟩,by repeat (first|exact Oc.refl _|apply Oc.step)⟩
     ·replace c5:=Bool.eq_false_iff.mpr c5;subst c5;have H1:(Rc.l0 k1 l0 ld (wrap64 (Ic + 1)))=some r:=by rw [if_neg (show ¬ (false=true) by decide)] at H;exact H
      clear H;have H:=H1;clear H1;have H':=ja.mk H;clear H;have lf:0 ≤ (Ic:Int):=Wa;have kf:Ic < (l0.length:Int):=Wa;obtain ⟨ie,wj,Nd⟩:=Kd.kj sn.out Ic lf kf;(try rw [← O_.out] at Nd);cases wj;replace lf:=eq_true lf;replace kf:=eq_true kf;go_wp2
      go_roundg k1
      case measure=>have:=lg.out;omega
      case rel=>exact ⟨(ld),(wrap64 (Ic + 1)),(by first|rfl|(simp;done)|(simp [*];done)),(by first|rfl|(simp;done)|(simp [*];done)),H',⟨by have:=lg.out;omega⟩,by repeat (first|exact Oc.refl _|apply Oc.step)⟩
    ·rw [if_neg c3] at H;exact absurd H (by simp)
   ·rw [if_neg c2] at H;have Vv:decide (Ic < (l0.length:Int))=false:=decide_eq_false c2;clear c2;obtain rfl:=Option.some.inj H;go_wp2;go_ret;exact ⟨by first|rfl|(simp;done)|(simp [*];done),by repeat (first|exact Oc.refl _|apply Oc.step)⟩
end Go.Proofs.Ytkigbdceceeenaa.P
end
