import Derived.Test.YtmifdccaajngcaaQFresh1
import Derived.Test.YtmifdccaajngcaaQFresh3
namespace Go.Proofs.Ytmifdccaajngcaa.P
open Go.RowKit Go.Proofs.Ca.xb Go.Proofs.Ca.Xb Go.Proofs.Ca.ic
attribute [local go_sem] Vd Td we ue Dd Cd Ud Sd
set_option linter.unusedVariables false
set_option linter.unusedSimpArgs false
def Zb.j0:Nat→List (Ph)→Int→Bool→Int→Int→Int→Int→Int→Int→ByteArray→Option (Int × (List (Ph)))
 | 0,_,_,_,_,_,_,_,_,_,_=>none
 | k + 1,x1,x2,x43,x102000,Od,x102002,x102003,x102004,x102005,x102006=>if x43=true then (if 0 ≤ Od then (if Od < (x1.length:Int) then (some (wrap64 (x2 + 1),(x1.set (Od:Int).toNat (⟨x2,0⟩:Ph)))) else (none)) else (none)) else (some (x2,x1))
def Zb.f (k:Nat) (Ec:Int) (Ja:Int) (Ma:Int) (Oa:Int) (fc:Int) (qd:Int) (ld:ByteArray) (l1:List (Ph)) (a2:Int):Option (Int × (List (Ph))):=if Ec=0 then (if 0 ≤ Ja then (if Ja < (l1.length:Int) then (some (a2,(l1.set (Ja:Int).toNat (⟨(-1),qd⟩:Ph)))) else (none)) else (none)) else (if Ec=1 then (if 0 ≤ Ma then (if Ma < (l1.length:Int) then (if 0 ≤ Ja then (if Ja < (l1.length:Int) then (some (a2,(l1.set (Ja:Int).toNat (⟨(Ad l1 Ma).f0,(Ad l1 Ma).f1⟩:Ph)))) else (none)) else (none)) else (none)) else (none)) else (if Ec=2 then (if 0 ≤ Ma then (if Ma < (l1.length:Int) then (if 0 ≤ Oa then (if Oa < (l1.length:Int) then ((Cb.f k ld ((Ad l1 Ma).f0) ((Ad l1 Ma).f1) ((Ad l1 Oa).f0) ((Ad l1 Oa).f1)).bind fun zx=>(if zx.2.2=true then (if 0 ≤ Ja then (if Ja < (l1.length:Int) then (some (a2,(l1.set (Ja:Int).toNat (⟨zx.1,zx.2.1⟩:Ph)))) else (none)) else (none)) else (if 0 ≤ Ja then (if Ja < (l1.length:Int) then (some (wrap64 (a2 + 1),(l1.set (Ja:Int).toNat (⟨a2,0⟩:Ph)))) else (none)) else (none)))) else (none)) else (none)) else (none)) else (none)) else (if Ec=3 then (Zb.j0 k l1 a2 (Ec == 3) Ec Ja Ma Oa fc qd ld) else (Zb.j0 k l1 a2 (Ec == 5) Ec Ja Ma Oa fc qd ld))))
theorem Zb.je:∀ k,(∀ y0 y1 y2 y3 y4 y5 y6 y7 y8 y9,mc (Zb.j0 k y0 y1 y2 y3 y4 y5 y6 y7 y8 y9) (Zb.j0 (k + 1) y0 y1 y2 y3 y4 y5 y6 y7 y8 y9))
 | 0=>fun _ _ _ _ _ _ _ _ _ _ r h=>by simp [Zb.j0] at h
 | k + 1=>by
  have Lf:=Zb.je k
  ·intro y0 y1 y2 y3 y4 y5 y6 y7 y8 y9
   unfold Zb.j0
   repeat' first
   | (with_reducible exact Lf _ _ _ _ _ _ _ _ _ _)
   | (with_reducible exact Cb.mono _ _ _ _ _ _)
   | (with_reducible exact mc.refl _)
   | (with_reducible exact mc.none _)
   | (with_reducible refine mc.ite ?_ ?_)
   | (with_reducible refine mc.bind ?_ (fun _=>?_))
   | exact Lf _ _ _ _ _ _ _ _ _ _
   | exact Cb.mono _ _ _ _ _ _
   | exact mc.none _
   | refine mc.ite ?_ ?_
   | refine mc.bind ?_ (fun _=>?_)
theorem Zb.mono:∀ a0 a1 a2 a3 a4 a5 a6 a7 a8 k,mc (Zb.f k a0 a1 a2 a3 a4 a5 a6 a7 a8) (Zb.f (k + 1) a0 a1 a2 a3 a4 a5 a6 a7 a8):=by
 intro a0 a1 a2 a3 a4 a5 a6 a7 a8 k
 have Lf:=Zb.je k
 unfold Zb.f
 repeat' first
   | (with_reducible exact Lf _ _ _ _ _ _ _ _ _ _)
   | (with_reducible exact Cb.mono _ _ _ _ _ _)
   | (with_reducible exact mc.refl _)
   | (with_reducible exact mc.none _)
   | (with_reducible refine mc.ite ?_ ?_)
   | (with_reducible refine mc.bind ?_ (fun _=>?_))
   | exact Lf _ _ _ _ _ _ _ _ _ _
   | exact Cb.mono _ _ _ _ _ _
   | exact mc.none _
   | refine mc.ite ?_ ?_
   | refine mc.bind ?_ (fun _=>?_)
def Zb.T9:Bool × List (List Nat × List Nat):=(true,[([],[]),([0],[0]),([],[]),([],[]),([3],[3]),([2,4],[2,4]),([5],[5]),([],[]),([],[]),([8],[8]),([7,9],[7,9]),([10],[10]),([1,6,11],[1,6,11]),([12],[12]),([13],[13]),([13],[13]),([14,12,0,1,2,3,4,5,6,7,8,9,10,11,12,13,14],[14]),([15,16,0,1,2,3,4,5,6,7,8,9,10,11,12,13,14,15,16],[15])])
def Zb.B9:List Nat:=[0,1,0,0,8,28,60,0,0,256,896,1920,4095,8191,16383,16383,32767,131071]
theorem Zb.FR:Jk .any (opsOf Try.f78 9)=Zb.T9:=by kernel_rfl
theorem Zb.yO:Rk Zb.T9.2 Zb.B9=true:=by kernel_rfl
set_option maxHeartbeats 8000000 in
set_option maxRecDepth 100000 in
theorem Zb.calls (k:Nat) (Ec:Int) (Ja:Int) (Ma:Int) (Oa:Int) (fc:Int) (qd:Int) (ld:ByteArray) (Vh:Nat→Prop) (Ml:Value) (l1:List (Ph)) (a2:Int) (r1:Int) (r2:List (Ph)) (w0 w:World) (hB:Below w0.heap.size w0 w) (QB:Kd.R ak 77 w w0.heap.size Vh Ml l1) (h:Zb.f k Ec Ja Ma Oa fc qd ld l1 a2=some (r1,r2)) :
  Calls Try.prog 78 #[.agg #[.int .i64 Ec,.int .i64 Ja,.int .i64 Ma,.int .i64 Oa,.int .i64 fc,.int .i64 qd,.string ld],Ml,.int .i64 a2] w fun e w'=>e = .returned (.int .i64 r1)∧Kd.R ak 77 w' w0.heap.size (fun k_=>(Vh k_ ∨ w.heap.size ≤ k_)) Ml r2∧Below w0.heap.size w0 w'∧Kept w w' (fun k_=>Vh k_):=by
 have BA:=Try.underlying70
 have VR:=Try.underlying77
 have Ce:=qa.mk (show Kd.R ak 77 w w0.heap.size (fun k_=>(Vh k_ ∨ w.heap.size ≤ k_)) Ml l1 from Kd.ke QB (fun k_ hk=>(.inl hk)))
 have HK:=qa.mk (Kept.refl w (fun k_=>Vh k_))
 have HW0:=qa.mk hB.size
 have HB:=qa.mk hB
 clear hB
 have H:(if Ec=0 then (if 0 ≤ Ja then (if Ja < (l1.length:Int) then (some (a2,(l1.set (Ja:Int).toNat (⟨(-1),qd⟩:Ph)))) else (none)) else (none)) else (if Ec=1 then (if 0 ≤ Ma then (if Ma < (l1.length:Int) then (if 0 ≤ Ja then (if Ja < (l1.length:Int) then (some (a2,(l1.set (Ja:Int).toNat (⟨(Ad l1 Ma).f0,(Ad l1 Ma).f1⟩:Ph)))) else (none)) else (none)) else (none)) else (none)) else (if Ec=2 then (if 0 ≤ Ma then (if Ma < (l1.length:Int) then (if 0 ≤ Oa then (if Oa < (l1.length:Int) then ((Cb.f k ld ((Ad l1 Ma).f0) ((Ad l1 Ma).f1) ((Ad l1 Oa).f0) ((Ad l1 Oa).f1)).bind fun zx=>(if zx.2.2=true then (if 0 ≤ Ja then (if Ja < (l1.length:Int) then (some (a2,(l1.set (Ja:Int).toNat (⟨zx.1,zx.2.1⟩:Ph)))) else (none)) else (none)) else (if 0 ≤ Ja then (if Ja < (l1.length:Int) then (some (wrap64 (a2 + 1),(l1.set (Ja:Int).toNat (⟨a2,0⟩:Ph)))) else (none)) else (none)))) else (none)) else (none)) else (none)) else (none)) else (if Ec=3 then (Zb.j0 k l1 a2 (Ec == 3) Ec Ja Ma Oa fc qd ld) else (Zb.j0 k l1 a2 (Ec == 5) Ec Ja Ma Oa fc qd ld)))))=some (r1,r2):=h
 clear h
 by_cases c4:Ec=0
 ·rw [if_pos c4] at H
  have Mh:(Ec == 0)=true:=beq_iff_eq.mpr c4
  have yC:(Ec != 0)=false:=bne_eq_false_iff_eq.mpr c4
  clear c4
  by_cases c5:0 ≤ Ja
  ·rw [if_pos c5] at H
   have Hl:decide (0 ≤ Ja)=true:=decide_eq_true c5
   clear c5
   by_cases c6:Ja < (l1.length:Int)
   ·rw [if_pos c6] at H
    have rm:decide (Ja < (l1.length:Int))=true:=decide_eq_true c6
    clear c6
    obtain ⟨y103,hy103⟩:∃ y_:List (Ph),y_=(l1.set (Ja:Int).toNat (⟨(-1),qd⟩:Ph)):=⟨_,rfl⟩
    replace H:(some (a2,y103))=some (r1,r2):=by first|(rw [hy103];with_reducible exact H)|(have Tj:=(Option.bind_some _ _).symm.trans H;rw [hy103];with_reducible exact Tj)|(have Tj:=(Option.bind_some _ _).symm.trans H;with_reducible exact Tj)|with_reducible exact H|(rw [hy103];exact H)|exact H
    have sX:=qa.mk hy103
    clear hy103
    simp only [Option.some.injEq,Prod.mk.injEq] at H
    obtain ⟨rfl,rfl⟩:=H
    go_enter Try.func78,Try.ntmps78
    go_wp2_with (first|((with_reducible refine Mb (N:=3) rfl ?_);refine Jb ?hg (N:=3) ?hd (cs:=#[.int .i64 Ec,.int .i64 Ja,.int .i64 Ma,.int .i64 Oa,.int .i64 fc,.int .i64 qd,.string ld]) (t:=70) ?hr ?_;(case hd=>rfl);(case hg=>rfl);(case hr=>first|(go_simp;done)|(go_simp;rfl));intro Fa hg w8 Qb hb;have Pb:=qa.mk (Kd.Ge (by (with_reducible repeat (first|apply Kd.Qc|apply Kd.Pc|apply Kd.xd));exact Ce.out) hb);have Wb:=qa.mk (Kept.below (S:=(fun k_=>Vh k_)) (by repeat (first|(with_reducible first|exact HK.out|apply Kept.alloc|apply Kept.drewN|apply Kept.drew)|exact HK.out)) hb);have nc:=qa.mk (Pa (by repeat (first|(with_reducible first|exact HB.out|apply ia|apply ja|apply za)|exact HB.out)) hb);have Nc:=qa.mk (Qb);have qe:=qa.mk ((by rw [hg];exact (by first|exact HK.out.1|exact (show Kept w _ (fun k_=>Vh k_) from by repeat (first|(with_reducible first|exact HK.out|apply Kept.alloc|apply Kept.drewN|apply Kept.drew)|exact HK.out)).1):w.heap.size ≤ Fa));have lf:=qa.mk ((by rw [hg];exact (Na (by repeat (first|(with_reducible first|exact HB.out|apply ia|apply ja|apply za)|exact HB.out))):w0.heap.size ≤ Fa));clear Ce;clear HK;clear HB;have Ce:=Pb;have HK:=Wb;have HB:=nc;have ua:=Nc;have Nd:=qe;have Va:=lf;clear Pb Wb nc Nc qe lf;clear hb Qb hg)|((with_reducible refine Mb (N:=7) rfl ?_);refine Jb ?hg (N:=7) ?hd (cs:=#[.int .i64 0,.int .i64 0]) (t:=77) ?hr ?_;(case hd=>rfl);(case hg=>rfl);(case hr=>first|(go_simp;done)|(go_simp;rfl));intro Ia hg w9 Qb hb;have Pb:=qa.mk (Kd.Ge (Kd.Np (by (with_reducible repeat (first|apply Kd.Qc|apply Kd.Pc|apply Kd.xd));exact Ce.out) Ia (Nat.le_of_eq hg.symm)) hb);have Wb:=qa.mk (Wa (g:=Fa) (o:=.cells #[.int .i64 Ec,.int .i64 Ja,.int .i64 Ma,.int .i64 Oa,.int .i64 fc,.int .i64 qd,.string ld] 70 (0,0)) (by (with_reducible repeat (first|refine Ea ?_ _|refine Ga ?_|refine Da ?_ _));exact ua.out) hb);have nc:=qa.mk (Kept.below (S:=(fun k_=>Vh k_)) (by repeat (first|(with_reducible first|exact HK.out|apply Kept.alloc|apply Kept.drewN|apply Kept.drew|refine Kept.setCell ?_ (.inr Nd.out) _)|exact HK.out)) hb);have Nc:=qa.mk (Pa (by repeat (first|(with_reducible first|exact HB.out|apply ia|apply ja|apply za|refine Aa ?_ Va.out)|exact HB.out)) hb);have qe:=qa.mk (Qb);have lf:=qa.mk ((by rw [hg];exact (by first|exact HK.out.1|exact (show Kept w _ (fun k_=>Vh k_) from by repeat (first|(with_reducible first|exact HK.out|apply Kept.alloc|apply Kept.drewN|apply Kept.drew|refine Kept.setCell ?_ (.inr Nd.out) _)|exact HK.out)).1):w.heap.size ≤ Ia));have Hf:=qa.mk ((by rw [hg];exact (Na (by repeat (first|(with_reducible first|exact HB.out|apply ia|apply ja|apply za|refine Aa ?_ Va.out)|exact HB.out))):w0.heap.size ≤ Ia));have lp:=qa.mk ((by rw [hg];exact Nat.ne_of_lt (Ac (g:=Fa) (o:=.cells #[.int .i64 Ec,.int .i64 Ja,.int .i64 Ma,.int .i64 Oa,.int .i64 fc,.int .i64 qd,.string ld] 70 (0,0)) (by (with_reducible repeat (first|refine Ea ?_ _|refine Ga ?_|refine Da ?_ _));exact ua.out)):Fa ≠ Ia));have gp:=qa.mk ((by rw [hg];exact Nat.ne_of_gt (Ac (g:=Fa) (o:=.cells #[.int .i64 Ec,.int .i64 Ja,.int .i64 Ma,.int .i64 Oa,.int .i64 fc,.int .i64 qd,.string ld] 70 (0,0)) (by (with_reducible repeat (first|refine Ea ?_ _|refine Ga ?_|refine Da ?_ _));exact ua.out)):Ia ≠ Fa));clear Ce;clear ua;clear HK;clear HB;have Ce:=Pb;have ua:=Wb;have HK:=nc;have HB:=Nc;have Ba:=qe;have Je:=lf;have Vb:=Hf;have Sa:=lp;have qb:=gp;clear Pb Wb nc Nc qe lf Hf lp gp;clear hb Qb hg;have SS:=qb.out;have uS:=Sa.out;have Qi:w9.cell? ⟨Ia,0,none⟩=some (.int .i64 0):=(ga Ba.out 0).trans rfl;have Oi:w9.cell? ⟨Ia,1,none⟩=some (.int .i64 0):=(ga Ba.out 1).trans rfl;have Ki:=aa Ba.out 0;have Ji:=aa Ba.out 1)|((with_reducible refine Rf (t:=77) (p:=7) rfl ?_);refine Bf (t:=77) (p:=7) (v:=?vo_w12) (w1:=((w9.setCell ⟨Ia,0,none⟩ (.int .i64 0)).setCell ⟨Ia,1,none⟩ (.int .i64 0))) ?hg ?ho ?hn ?hr ?_;(case ho=>rfl);(case hg=>rfl);(case hn=>rfl);(case hr=>first|(go_simp;done)|(go_simp;rfl));intro yu hw;have Pb:qa (Kd.R ak 77 yu w0.heap.size (fun k_=>(Vh k_ ∨ w.heap.size ≤ k_)∧k_ ≠ Ia) Ml l1):=⟨(by rw [hw];exact (by (with_reducible repeat (first|apply Kd.Qc|apply Kd.Pc|apply Kd.xd));exact Kd.ke (Kd.He (p:=⟨Ia,1,none⟩) (Kd.He (p:=⟨Ia,0,none⟩) (Kd.ke Ce.out (fun k_ hk=>(⟨hk,hk.2⟩:_∧k_ ≠ Ia))) (fun _ hk=>hk.2) (.int .i64 0)) (fun _ hk=>hk.2) (.int .i64 0)) (fun _ hk=>⟨hk.1.1,hk.1.2⟩)))⟩;have Wb:qa (yu.heap[Fa]? = some (.cells #[.int .i64 Ec,.int .i64 Ja,.int .i64 Ma,.int .i64 Oa,.int .i64 fc,.int .i64 qd,.string ld] 70 (0,0))):=⟨(by rw [hw];exact (by (with_reducible repeat (first|refine Ea ?_ _|refine Ga ?_|refine Da ?_ _));refine Rb ?_ Sa.out _;(with_reducible repeat (first|refine Ea ?_ _|refine Ga ?_|refine Da ?_ _));refine Rb ?_ Sa.out _;(with_reducible repeat (first|refine Ea ?_ _|refine Ga ?_|refine Da ?_ _));exact ua.out))⟩;have nc:qa (yu.heap[Ia]? = some (.cells #[.int .i64 0,.int .i64 0] 77 (0,0))):=⟨(by rw [hw];exact (by (with_reducible repeat (first|refine Ea ?_ _|refine Ga ?_|refine Da ?_ _));refine Db (cs:=#[.int .i64 0,.int .i64 0]) ?_ 1 _ rfl;(with_reducible repeat (first|refine Ea ?_ _|refine Ga ?_|refine Da ?_ _));refine Db (cs:=#[.int .i64 0,.int .i64 0]) ?_ 0 _ rfl;(with_reducible repeat (first|refine Ea ?_ _|refine Ga ?_|refine Da ?_ _));exact Ba.out))⟩;have Nc:qa (Kept w yu (fun k_=>Vh k_)):=⟨(by rw [hw];exact (by repeat (first|(with_reducible first|exact HK.out|apply Kept.alloc|apply Kept.drewN|apply Kept.drew|refine Kept.setCell ?_ (.inr Nd.out) _|refine Kept.setCell ?_ (.inr Je.out) _)|exact HK.out)))⟩;have qe:qa (Below w0.heap.size w0 yu):=⟨(by rw [hw];exact (by repeat (first|(with_reducible first|exact HB.out|apply ia|apply ja|apply za|refine Aa ?_ Va.out|refine Aa ?_ Vb.out)|exact HB.out)))⟩;clear hw;clear Ce;clear ua;clear Ba;clear HK;clear HB;have Ce:=Pb;have ua:=Wb;have Ba:=nc;have HK:=Nc;have HB:=qe;clear Pb Wb nc Nc qe;have Lj:yu.cell? ⟨Fa,0,none⟩=some (.int .i64 Ec):=(ga ua.out 0).trans rfl;have Kj:yu.cell? ⟨Fa,1,none⟩=some (.int .i64 Ja):=(ga ua.out 1).trans rfl;have Gq:yu.cell? ⟨Fa,2,none⟩=some (.int .i64 Ma):=(ga ua.out 2).trans rfl;have Fq:yu.cell? ⟨Fa,3,none⟩=some (.int .i64 Oa):=(ga ua.out 3).trans rfl;have Dq:yu.cell? ⟨Fa,4,none⟩=some (.int .i64 fc):=(ga ua.out 4).trans rfl;have sN:yu.cell? ⟨Fa,5,none⟩=some (.int .i64 qd):=(ga ua.out 5).trans rfl;have rN:yu.cell? ⟨Fa,6,none⟩=some (.string ld):=(ga ua.out 6).trans rfl;have Jj:=aa ua.out 0;have Ij:=aa ua.out 1;have pq:=aa ua.out 2;have oq:=aa ua.out 3;have mq:=aa ua.out 4;have NL:=aa ua.out 5;have ML:=aa ua.out 6;have Gl:yu.cell? ⟨Ia,0,none⟩=some (.int .i64 0):=(ga Ba.out 0).trans rfl;have Fl:yu.cell? ⟨Ia,1,none⟩=some (.int .i64 0):=(ga Ba.out 1).trans rfl;have El:=aa Ba.out 0;have Dl:=aa Ba.out 1)|((with_reducible refine Rf (t:=77) (p:=7) rfl ?_);refine Bf (t:=77) (p:=7) (v:=?vo_w15) (w1:=((yu.setCell ⟨Ia,0,none⟩ (.int .i64 (-1))).setCell ⟨Ia,1,none⟩ (.int .i64 qd))) ?hg ?ho ?hn ?hr ?_;(case ho=>rfl);(case hg=>rfl);(case hn=>rfl);(case hr=>first|(go_simp;done)|(go_simp;rfl));intro sn hw;have Pb:qa (Kd.R ak 77 sn w0.heap.size (fun k_=>(Vh k_ ∨ w.heap.size ≤ k_)∧k_ ≠ Ia) Ml l1):=⟨(by rw [hw];exact (by (with_reducible repeat (first|apply Kd.Qc|apply Kd.Pc|apply Kd.xd));exact Kd.ke (Kd.He (p:=⟨Ia,1,none⟩) (Kd.He (p:=⟨Ia,0,none⟩) (Kd.ke Ce.out (fun k_ hk=>(⟨hk,hk.2⟩:_∧k_ ≠ Ia))) (fun _ hk=>hk.2) (.int .i64 (-1))) (fun _ hk=>hk.2) (.int .i64 qd)) (fun _ hk=>⟨hk.1.1,hk.1.2⟩)))⟩;have Wb:qa (sn.heap[Fa]? = some (.cells #[.int .i64 Ec,.int .i64 Ja,.int .i64 Ma,.int .i64 Oa,.int .i64 fc,.int .i64 qd,.string ld] 70 (0,0))):=⟨(by rw [hw];exact (by (with_reducible repeat (first|refine Ea ?_ _|refine Ga ?_|refine Da ?_ _));refine Rb ?_ Sa.out _;(with_reducible repeat (first|refine Ea ?_ _|refine Ga ?_|refine Da ?_ _));refine Rb ?_ Sa.out _;(with_reducible repeat (first|refine Ea ?_ _|refine Ga ?_|refine Da ?_ _));exact ua.out))⟩;have nc:qa (sn.heap[Ia]? = some (.cells #[.int .i64 (-1),.int .i64 qd] 77 (0,0))):=⟨(by rw [hw];exact (by (with_reducible repeat (first|refine Ea ?_ _|refine Ga ?_|refine Da ?_ _));refine Db (cs:=#[.int .i64 (-1),.int .i64 0]) ?_ 1 _ rfl;(with_reducible repeat (first|refine Ea ?_ _|refine Ga ?_|refine Da ?_ _));refine Db (cs:=#[.int .i64 0,.int .i64 0]) ?_ 0 _ rfl;(with_reducible repeat (first|refine Ea ?_ _|refine Ga ?_|refine Da ?_ _));exact Ba.out))⟩;have Nc:qa (Kept w sn (fun k_=>Vh k_)):=⟨(by rw [hw];exact (by repeat (first|(with_reducible first|exact HK.out|apply Kept.alloc|apply Kept.drewN|apply Kept.drew|refine Kept.setCell ?_ (.inr Nd.out) _|refine Kept.setCell ?_ (.inr Je.out) _)|exact HK.out)))⟩;have qe:qa (Below w0.heap.size w0 sn):=⟨(by rw [hw];exact (by repeat (first|(with_reducible first|exact HB.out|apply ia|apply ja|apply za|refine Aa ?_ Va.out|refine Aa ?_ Vb.out)|exact HB.out)))⟩;clear hw;clear Ce;clear ua;clear Ba;clear HK;clear HB;have Ce:=Pb;have ua:=Wb;have Ba:=nc;have HK:=Nc;have HB:=qe;clear Pb Wb nc Nc qe;have uk:sn.cell? ⟨Fa,0,none⟩=some (.int .i64 Ec):=(ga ua.out 0).trans rfl;have qk:sn.cell? ⟨Fa,1,none⟩=some (.int .i64 Ja):=(ga ua.out 1).trans rfl;have jt:sn.cell? ⟨Fa,2,none⟩=some (.int .i64 Ma):=(ga ua.out 2).trans rfl;have ct:sn.cell? ⟨Fa,3,none⟩=some (.int .i64 Oa):=(ga ua.out 3).trans rfl;have bt:sn.cell? ⟨Fa,4,none⟩=some (.int .i64 fc):=(ga ua.out 4).trans rfl;have Lz:sn.cell? ⟨Fa,5,none⟩=some (.int .i64 qd):=(ga ua.out 5).trans rfl;have Kz:sn.cell? ⟨Fa,6,none⟩=some (.string ld):=(ga ua.out 6).trans rfl;have fk:=aa ua.out 0;have ek:=aa ua.out 1;have Gs:=aa ua.out 2;have Fs:=aa ua.out 3;have Es:=aa ua.out 4;have jz:=aa ua.out 5;have iz:=aa ua.out 6;have Zs:sn.cell? ⟨Ia,0,none⟩=some (.int .i64 (-1)):=(ga Ba.out 0).trans rfl;have Ys:sn.cell? ⟨Ia,1,none⟩=some (.int .i64 qd):=(ga Ba.out 1).trans rfl;have Ds:=aa Ba.out 0;have Cs:=aa Ba.out 1;have p7:0 ≤ (Ja:Int):=of_decide_eq_true (by first|(with_reducible assumption)|assumption);have q7:(Ja:Int) < ((l1.length:Int):Int):=of_decide_eq_true (by first|(with_reducible assumption)|assumption);obtain ⟨VI,co7,eo7,gb7,gl7,cl7,HG7⟩:=Kd.Mp Ce.out (by omega);(first|cases eo7|(injection eo7 with ea_ en_ ec_;(first|subst ea_|(injection ea_ with ea_;subst ea_));subst ec_;clear en_));have GB7:=qa.mk gb7;have GG7:=qa.mk HG7;clear gb7 gl7 HG7;have Qad:=qa.mk (show (Vh VI ∨ w.heap.size ≤ VI) from (Ce.out.1 _ rfl).1);obtain ⟨ce7,qaa,hM7,pQ,RP⟩:=Kd.Sj Ce.out bH (Ja:Int) p7 q7;obtain rfl:=Fh hM7;have yab:sn.cell? ⟨VI,(Ja:Int).toNat * 2,none⟩=some (.int .i64 ((Ad l1 Ja).f0)):=pQ 0 _ rfl;have xab:sn.cell? ⟨VI,(Ja:Int).toNat * 2 + 1,none⟩=some (.int .i64 ((Ad l1 Ja).f1)):=pQ 1 _ rfl;have oad:sn.frozen? ⟨VI,(Ja:Int).toNat * 2,none⟩=false:=RP 0;have nad:sn.frozen? ⟨VI,(Ja:Int).toNat * 2 + 1,none⟩=false:=RP 1;clear qaa pQ RP hM7;replace p7:=eq_true p7;replace q7:=eq_true q7;have yX:=qa.mk (show Kd.R ak 77 sn w0.heap.size (fun k_=>(Vh k_ ∨ w.heap.size ≤ k_)∧k_ ≠ Ia) (.slice (some ⟨VI,0,none⟩) l1.length co7) l1 from (by (with_reducible repeat (first|apply Kd.Qc|apply Kd.Pc|apply Kd.xd));exact Ce.out));obtain ⟨raf,iO,pW,ZF,zI⟩:=Kd.Sj yX.out bH (Ja:Int) (of_decide_eq_true (by first|(with_reducible assumption)|assumption)) (by have h_:(Ja:Int) < ((l1.length:Int):Int):=of_decide_eq_true (by first|(with_reducible assumption)|assumption);first|exact h_|(have e_:=(Kd.ee Ce.out).1;omega)|simpa using h_);obtain rfl:=Fh pW;have nR:=Kd.qu yX.out (Ja:Int) (of_decide_eq_true (by first|(with_reducible assumption)|assumption)) (by have h_:(Ja:Int) < ((l1.length:Int):Int):=of_decide_eq_true (by first|(with_reducible assumption)|assumption);first|exact h_|(have e_:=(Kd.ee Ce.out).1;omega)|simpa using h_) (seg:=[.int .i64 (-1),.int .i64 qd]) (j:=0) iO ZF (show 2 ≤ 2 from by decide) (x':=(⟨(-1),qd⟩:Ph)) (Xp _ _ _ (⟨(-1),qd⟩:Ph) ) (fun _ hk=>hk);have zP:=ZF 0 _ rfl;(try simp only [show (ak).sz=2 from rfl,Nat.mul_one,Nat.add_zero] at zP);have cQ:=zI 0;(try simp only [show (ak).sz=2 from rfl,Nat.mul_one,Nat.add_zero] at cQ);have yP:=ZF 1 _ rfl;(try simp only [show (ak).sz=2 from rfl,Nat.mul_one,Nat.add_zero] at yP);have bQ:=zI 1;(try simp only [show (ak).sz=2 from rfl,Nat.mul_one,Nat.add_zero] at bQ);clear iO ZF zI pW)|((with_reducible refine Rf (t:=77) (p:=56) rfl ?_);refine Bf (t:=77) (p:=56) (v:=?vo_w19) (w1:=((sn.setCell ⟨VI,(Ja:Int).toNat * 2,none⟩ (.int .i64 (-1))).setCell ⟨VI,(Ja:Int).toNat * 2 + 1,none⟩ (.int .i64 qd))) ?hg ?ho ?hn ?hr ?_;(case ho=>rfl);(case hg=>rfl);(case hn=>rfl);(case hr=>first|(go_simp;done)|(go_simp;rfl));intro cY hw;have hg:sn.grownBy cY (some VI):=(by rw [hw];exact nR.2);have Sw:Kd.R ak 77 cY w0.heap.size (fun k_=>(Vh k_ ∨ w.heap.size ≤ k_)∧k_ ≠ Ia) (.slice (some ⟨VI,0,none⟩) l1.length co7) y103:=(by rw [hw,sX.out];exact nR.1);clear nR;have Pb:=qa.mk (Sw);have Wb:=qa.mk (qh (g:=Fa) (o:=.cells #[.int .i64 Ec,.int .i64 Ja,.int .i64 Ma,.int .i64 Oa,.int .i64 fc,.int .i64 qd,.string ld] 70 (0,0)) (by (with_reducible repeat (first|refine Ea ?_ _|refine Ga ?_|refine Da ?_ _));exact ua.out) hg (Kd.Qx Ce.out ua.out (by decide)));have nc:=qa.mk (qh (g:=Ia) (o:=.cells #[.int .i64 (-1),.int .i64 qd] 77 (0,0)) (by (with_reducible repeat (first|refine Ea ?_ _|refine Ga ?_|refine Da ?_ _));exact Ba.out) hg (Kd.Ed Ce.out (fun _ hk=>hk.2)));have Nc:=qa.mk ((by rw [hw];exact Aa (Aa (HB.out) GB7.out) GB7.out:Below w0.heap.size w0 cY));have qe:=qa.mk (Kept.Cn (S:=(fun k_=>Vh k_)) hg (by repeat (first|(with_reducible first|exact HK.out|apply Kept.alloc|apply Kept.drewN|apply Kept.drew|refine Kept.setCell ?_ (.inr Nd.out) _|refine Kept.setCell ?_ (.inr Je.out) _)|exact HK.out)) (fun k_ e_=>(Ce.out.1 k_ e_).1));clear Ce;clear ua;clear Ba;clear HB;clear HK;have Ce:=Pb;have ua:=Wb;have Ba:=nc;have HB:=Nc;have HK:=qe;clear Pb Wb nc Nc qe;clear hg hw Sw))
    go_ret
    exact ⟨by first|rfl|(simp [La,Ka] <;> rfl)|(simp [*,La,Ka] <;> rfl),by (with_reducible repeat (first|apply Kd.Qc|apply Kd.Pc|apply Kd.xd));exact Kd.ke Ce.out (fun _ hk=>hk.1),by repeat (first|(with_reducible first|exact HB.out|apply ia|apply ja|apply za|refine Aa ?_ Va.out|refine Aa ?_ Vb.out)|exact HB.out),by repeat (first|(with_reducible first|exact HK.out|apply Kept.alloc|apply Kept.drewN|apply Kept.drew|refine Kept.setCell ?_ (.inr Nd.out) _|refine Kept.setCell ?_ (.inr Je.out) _)|exact HK.out)⟩
   ·rw [if_neg c6] at H
    exact absurd H (by simp)
  ·rw [if_neg c5] at H
   exact absurd H (by simp)
 ·rw [if_neg c4] at H
  have Mh:(Ec == 0)=false:=beq_eq_false_iff_ne.mpr c4
  have yC:(Ec != 0)=true:=bne_iff_ne.mpr c4
  by_cases c20:Ec=1
  ·rw [if_pos c20] at H
   have wO:(Ec == 1)=true:=beq_iff_eq.mpr c20
   have iX:(Ec != 1)=false:=bne_eq_false_iff_eq.mpr c20
   clear c20
   by_cases c21:0 ≤ Ma
   ·rw [if_pos c21] at H
    have kJ:decide (0 ≤ Ma)=true:=decide_eq_true c21
    clear c21
    by_cases c22:Ma < (l1.length:Int)
    ·rw [if_pos c22] at H
     have Kad:decide (Ma < (l1.length:Int))=true:=decide_eq_true c22
     clear c22
     by_cases c23:0 ≤ Ja
     ·rw [if_pos c23] at H
      have Jad:decide (0 ≤ Ja)=true:=decide_eq_true c23
      clear c23
      by_cases c24:Ja < (l1.length:Int)
      ·rw [if_pos c24] at H
       have Iad:decide (Ja < (l1.length:Int))=true:=decide_eq_true c24
       clear c24
       obtain ⟨y105,hy105⟩:∃ y_:List (Ph),y_=(l1.set (Ja:Int).toNat (⟨(Ad l1 Ma).f0,(Ad l1 Ma).f1⟩:Ph)):=⟨_,rfl⟩
       replace H:(some (a2,y105))=some (r1,r2):=by first|(rw [hy105];with_reducible exact H)|(have Tj:=(Option.bind_some _ _).symm.trans H;rw [hy105];with_reducible exact Tj)|(have Tj:=(Option.bind_some _ _).symm.trans H;with_reducible exact Tj)|with_reducible exact H|(rw [hy105];exact H)|exact H
       have vJ:=qa.mk hy105
       clear hy105
       simp only [Option.some.injEq,Prod.mk.injEq] at H
       obtain ⟨rfl,rfl⟩:=H
       go_enter Try.func78,Try.ntmps78
       go_wp2_with (first|((with_reducible refine Mb (N:=3) rfl ?_);refine Jb ?hg (N:=3) ?hd (cs:=#[.int .i64 Ec,.int .i64 Ja,.int .i64 Ma,.int .i64 Oa,.int .i64 fc,.int .i64 qd,.string ld]) (t:=70) ?hr ?_;(case hd=>rfl);(case hg=>rfl);(case hr=>first|(go_simp;done)|(go_simp;rfl));intro Fa hg Sq Qb hb;have Pb:=qa.mk (Kd.Ge (by (with_reducible repeat (first|apply Kd.Qc|apply Kd.Pc|apply Kd.xd));exact Ce.out) hb);have Wb:=qa.mk (Kept.below (S:=(fun k_=>Vh k_)) (by repeat (first|(with_reducible first|exact HK.out|apply Kept.alloc|apply Kept.drewN|apply Kept.drew)|exact HK.out)) hb);have nc:=qa.mk (Pa (by repeat (first|(with_reducible first|exact HB.out|apply ia|apply ja|apply za)|exact HB.out)) hb);have Nc:=qa.mk (Qb);have qe:=qa.mk ((by rw [hg];exact (by first|exact HK.out.1|exact (show Kept w _ (fun k_=>Vh k_) from by repeat (first|(with_reducible first|exact HK.out|apply Kept.alloc|apply Kept.drewN|apply Kept.drew)|exact HK.out)).1):w.heap.size ≤ Fa));have lf:=qa.mk ((by rw [hg];exact (Na (by repeat (first|(with_reducible first|exact HB.out|apply ia|apply ja|apply za)|exact HB.out))):w0.heap.size ≤ Fa));clear Ce;clear HK;clear HB;have Ce:=Pb;have HK:=Wb;have HB:=nc;have ua:=Nc;have Nd:=qe;have Va:=lf;clear Pb Wb nc Nc qe lf;clear hb Qb hg)|((with_reducible refine Mb (N:=7) rfl ?_);refine Jb ?hg (N:=7) ?hd (cs:=#[.int .i64 0,.int .i64 0]) (t:=77) ?hr ?_;(case hd=>rfl);(case hg=>rfl);(case hr=>first|(go_simp;done)|(go_simp;rfl));intro Ia hg bY Qb hb;have Pb:=qa.mk (Kd.Ge (Kd.Np (by (with_reducible repeat (first|apply Kd.Qc|apply Kd.Pc|apply Kd.xd));exact Ce.out) Ia (Nat.le_of_eq hg.symm)) hb);have Wb:=qa.mk (Wa (g:=Fa) (o:=.cells #[.int .i64 Ec,.int .i64 Ja,.int .i64 Ma,.int .i64 Oa,.int .i64 fc,.int .i64 qd,.string ld] 70 (0,0)) (by (with_reducible repeat (first|refine Ea ?_ _|refine Ga ?_|refine Da ?_ _));exact ua.out) hb);have nc:=qa.mk (Kept.below (S:=(fun k_=>Vh k_)) (by repeat (first|(with_reducible first|exact HK.out|apply Kept.alloc|apply Kept.drewN|apply Kept.drew|refine Kept.setCell ?_ (.inr Nd.out) _)|exact HK.out)) hb);have Nc:=qa.mk (Pa (by repeat (first|(with_reducible first|exact HB.out|apply ia|apply ja|apply za|refine Aa ?_ Va.out)|exact HB.out)) hb);have qe:=qa.mk (Qb);have lf:=qa.mk ((by rw [hg];exact (by first|exact HK.out.1|exact (show Kept w _ (fun k_=>Vh k_) from by repeat (first|(with_reducible first|exact HK.out|apply Kept.alloc|apply Kept.drewN|apply Kept.drew|refine Kept.setCell ?_ (.inr Nd.out) _)|exact HK.out)).1):w.heap.size ≤ Ia));have Hf:=qa.mk ((by rw [hg];exact (Na (by repeat (first|(with_reducible first|exact HB.out|apply ia|apply ja|apply za|refine Aa ?_ Va.out)|exact HB.out))):w0.heap.size ≤ Ia));have lp:=qa.mk ((by rw [hg];exact Nat.ne_of_lt (Ac (g:=Fa) (o:=.cells #[.int .i64 Ec,.int .i64 Ja,.int .i64 Ma,.int .i64 Oa,.int .i64 fc,.int .i64 qd,.string ld] 70 (0,0)) (by (with_reducible repeat (first|refine Ea ?_ _|refine Ga ?_|refine Da ?_ _));exact ua.out)):Fa ≠ Ia));have gp:=qa.mk ((by rw [hg];exact Nat.ne_of_gt (Ac (g:=Fa) (o:=.cells #[.int .i64 Ec,.int .i64 Ja,.int .i64 Ma,.int .i64 Oa,.int .i64 fc,.int .i64 qd,.string ld] 70 (0,0)) (by (with_reducible repeat (first|refine Ea ?_ _|refine Ga ?_|refine Da ?_ _));exact ua.out)):Ia ≠ Fa));clear Ce;clear ua;clear HK;clear HB;have Ce:=Pb;have ua:=Wb;have HK:=nc;have HB:=Nc;have Ba:=qe;have Je:=lf;have Vb:=Hf;have Sa:=lp;have qb:=gp;clear Pb Wb nc Nc qe lf Hf lp gp;clear hb Qb hg;have fI:=qb.out;have cI:=Sa.out;have Qm:bY.cell? ⟨Ia,0,none⟩=some (.int .i64 0):=(ga Ba.out 0).trans rfl;have Pm:bY.cell? ⟨Ia,1,none⟩=some (.int .i64 0):=(ga Ba.out 1).trans rfl;have Cm:=aa Ba.out 0;have Bm:=aa Ba.out 1)|((with_reducible refine Rf (t:=77) (p:=7) rfl ?_);refine Bf (t:=77) (p:=7) (v:=?vo_w30) (w1:=((bY.setCell ⟨Ia,0,none⟩ (.int .i64 0)).setCell ⟨Ia,1,none⟩ (.int .i64 0))) ?hg ?ho ?hn ?hr ?_;(case ho=>rfl);(case hg=>rfl);(case hn=>rfl);(case hr=>first|(go_simp;done)|(go_simp;rfl));intro Lt hw;have Pb:qa (Kd.R ak 77 Lt w0.heap.size (fun k_=>(Vh k_ ∨ w.heap.size ≤ k_)∧k_ ≠ Ia) Ml l1):=⟨(by rw [hw];exact (by (with_reducible repeat (first|apply Kd.Qc|apply Kd.Pc|apply Kd.xd));exact Kd.ke (Kd.He (p:=⟨Ia,1,none⟩) (Kd.He (p:=⟨Ia,0,none⟩) (Kd.ke Ce.out (fun k_ hk=>(⟨hk,hk.2⟩:_∧k_ ≠ Ia))) (fun _ hk=>hk.2) (.int .i64 0)) (fun _ hk=>hk.2) (.int .i64 0)) (fun _ hk=>⟨hk.1.1,hk.1.2⟩)))⟩;have Wb:qa (Lt.heap[Fa]? = some (.cells #[.int .i64 Ec,.int .i64 Ja,.int .i64 Ma,.int .i64 Oa,.int .i64 fc,.int .i64 qd,.string ld] 70 (0,0))):=⟨(by rw [hw];exact (by (with_reducible repeat (first|refine Ea ?_ _|refine Ga ?_|refine Da ?_ _));refine Rb ?_ Sa.out _;(with_reducible repeat (first|refine Ea ?_ _|refine Ga ?_|refine Da ?_ _));refine Rb ?_ Sa.out _;(with_reducible repeat (first|refine Ea ?_ _|refine Ga ?_|refine Da ?_ _));exact ua.out))⟩;have nc:qa (Lt.heap[Ia]? = some (.cells #[.int .i64 0,.int .i64 0] 77 (0,0))):=⟨(by rw [hw];exact (by (with_reducible repeat (first|refine Ea ?_ _|refine Ga ?_|refine Da ?_ _));refine Db (cs:=#[.int .i64 0,.int .i64 0]) ?_ 1 _ rfl;(with_reducible repeat (first|refine Ea ?_ _|refine Ga ?_|refine Da ?_ _));refine Db (cs:=#[.int .i64 0,.int .i64 0]) ?_ 0 _ rfl;(with_reducible repeat (first|refine Ea ?_ _|refine Ga ?_|refine Da ?_ _));exact Ba.out))⟩;have Nc:qa (Kept w Lt (fun k_=>Vh k_)):=⟨(by rw [hw];exact (by repeat (first|(with_reducible first|exact HK.out|apply Kept.alloc|apply Kept.drewN|apply Kept.drew|refine Kept.setCell ?_ (.inr Nd.out) _|refine Kept.setCell ?_ (.inr Je.out) _)|exact HK.out)))⟩;have qe:qa (Below w0.heap.size w0 Lt):=⟨(by rw [hw];exact (by repeat (first|(with_reducible first|exact HB.out|apply ia|apply ja|apply za|refine Aa ?_ Va.out|refine Aa ?_ Vb.out)|exact HB.out)))⟩;clear hw;clear Ce;clear ua;clear Ba;clear HK;clear HB;have Ce:=Pb;have ua:=Wb;have Ba:=nc;have HK:=Nc;have HB:=qe;clear Pb Wb nc Nc qe;have Uv:Lt.cell? ⟨Fa,0,none⟩=some (.int .i64 Ec):=(ga ua.out 0).trans rfl;have Tv:Lt.cell? ⟨Fa,1,none⟩=some (.int .i64 Ja):=(ga ua.out 1).trans rfl;have Sv:Lt.cell? ⟨Fa,2,none⟩=some (.int .i64 Ma):=(ga ua.out 2).trans rfl;have Rv:Lt.cell? ⟨Fa,3,none⟩=some (.int .i64 Oa):=(ga ua.out 3).trans rfl;have Qv:Lt.cell? ⟨Fa,4,none⟩=some (.int .i64 fc):=(ga ua.out 4).trans rfl;have G8:Lt.cell? ⟨Fa,5,none⟩=some (.int .i64 qd):=(ga ua.out 5).trans rfl;have F8:Lt.cell? ⟨Fa,6,none⟩=some (.string ld):=(ga ua.out 6).trans rfl;have Su:=aa ua.out 0;have Ru:=aa ua.out 1;have Qu:=aa ua.out 2;have Pu:=aa ua.out 3;have Ou:=aa ua.out 4;have Q2:=aa ua.out 5;have P2:=aa ua.out 6;obtain ⟨Iaf,DQ,Eaa⟩:=Kd.mh Ce.out;subst Eaa;have gr:0 ≤ (Ma:Int):=of_decide_eq_true (by first|(with_reducible assumption)|assumption);have dr:Ma < (l1.length:Int):=of_decide_eq_true (by first|(with_reducible assumption)|assumption);obtain ⟨kG,vC,Th,Tk⟩:=Ax (Kd.ee Ce.out).2.2 Ma gr dr;cases vC;replace gr:=eq_true gr;replace dr:=eq_true dr;have Pv:Lt.cell? ⟨Ia,0,none⟩=some (.int .i64 0):=(ga Ba.out 0).trans rfl;have Ov:Lt.cell? ⟨Ia,1,none⟩=some (.int .i64 0):=(ga Ba.out 1).trans rfl;have Nu:=aa Ba.out 0;have Mu:=aa Ba.out 1)|((with_reducible refine Rf (t:=77) (p:=7) rfl ?_);refine Bf (t:=77) (p:=7) (v:=?vo_w34) (w1:=((Lt.setCell ⟨Ia,0,none⟩ (.int .i64 ((Ad l1 Ma).f0))).setCell ⟨Ia,1,none⟩ (.int .i64 ((Ad l1 Ma).f1)))) ?hg ?ho ?hn ?hr ?_;(case ho=>rfl);(case hg=>rfl);(case hn=>rfl);(case hr=>first|(go_simp;done)|(go_simp;rfl));intro Rq hw;have Pb:qa (Kd.R ak 77 Rq w0.heap.size (fun k_=>(Vh k_ ∨ w.heap.size ≤ k_)∧k_ ≠ Ia) (.slice (some kG) l1.length DQ) l1):=⟨(by rw [hw];exact (by (with_reducible repeat (first|apply Kd.Qc|apply Kd.Pc|apply Kd.xd));exact Kd.ke (Kd.He (p:=⟨Ia,1,none⟩) (Kd.He (p:=⟨Ia,0,none⟩) (Kd.ke Ce.out (fun k_ hk=>(⟨hk,hk.2⟩:_∧k_ ≠ Ia))) (fun _ hk=>hk.2) (.int .i64 ((Ad l1 Ma).f0))) (fun _ hk=>hk.2) (.int .i64 ((Ad l1 Ma).f1))) (fun _ hk=>⟨hk.1.1,hk.1.2⟩)))⟩;have Wb:qa (Rq.heap[Fa]? = some (.cells #[.int .i64 Ec,.int .i64 Ja,.int .i64 Ma,.int .i64 Oa,.int .i64 fc,.int .i64 qd,.string ld] 70 (0,0))):=⟨(by rw [hw];exact (by (with_reducible repeat (first|refine Ea ?_ _|refine Ga ?_|refine Da ?_ _));refine Rb ?_ Sa.out _;(with_reducible repeat (first|refine Ea ?_ _|refine Ga ?_|refine Da ?_ _));refine Rb ?_ Sa.out _;(with_reducible repeat (first|refine Ea ?_ _|refine Ga ?_|refine Da ?_ _));exact ua.out))⟩;have nc:qa (Rq.heap[Ia]? = some (.cells #[.int .i64 ((Ad l1 Ma).f0),.int .i64 ((Ad l1 Ma).f1)] 77 (0,0))):=⟨(by rw [hw];exact (by (with_reducible repeat (first|refine Ea ?_ _|refine Ga ?_|refine Da ?_ _));refine Db (cs:=#[.int .i64 ((Ad l1 Ma).f0),.int .i64 0]) ?_ 1 _ rfl;(with_reducible repeat (first|refine Ea ?_ _|refine Ga ?_|refine Da ?_ _));refine Db (cs:=#[.int .i64 0,.int .i64 0]) ?_ 0 _ rfl;(with_reducible repeat (first|refine Ea ?_ _|refine Ga ?_|refine Da ?_ _));exact Ba.out))⟩;have Nc:qa (Kept w Rq (fun k_=>Vh k_)):=⟨(by rw [hw];exact (by repeat (first|(with_reducible first|exact HK.out|apply Kept.alloc|apply Kept.drewN|apply Kept.drew|refine Kept.setCell ?_ (.inr Nd.out) _|refine Kept.setCell ?_ (.inr Je.out) _)|exact HK.out)))⟩;have qe:qa (Below w0.heap.size w0 Rq):=⟨(by rw [hw];exact (by repeat (first|(with_reducible first|exact HB.out|apply ia|apply ja|apply za|refine Aa ?_ Va.out|refine Aa ?_ Vb.out)|exact HB.out)))⟩;clear hw;clear Ce;clear ua;clear Ba;clear HK;clear HB;have Ce:=Pb;have ua:=Wb;have Ba:=nc;have HK:=Nc;have HB:=qe;clear Pb Wb nc Nc qe;have Ls:Rq.cell? ⟨Fa,0,none⟩=some (.int .i64 Ec):=(ga ua.out 0).trans rfl;have Ks:Rq.cell? ⟨Fa,1,none⟩=some (.int .i64 Ja):=(ga ua.out 1).trans rfl;have yF:Rq.cell? ⟨Fa,2,none⟩=some (.int .i64 Ma):=(ga ua.out 2).trans rfl;have xF:Rq.cell? ⟨Fa,3,none⟩=some (.int .i64 Oa):=(ga ua.out 3).trans rfl;have wF:Rq.cell? ⟨Fa,4,none⟩=some (.int .i64 fc):=(ga ua.out 4).trans rfl;have q8:Rq.cell? ⟨Fa,5,none⟩=some (.int .i64 qd):=(ga ua.out 5).trans rfl;have p8:Rq.cell? ⟨Fa,6,none⟩=some (.string ld):=(ga ua.out 6).trans rfl;have Qr:=aa ua.out 0;have Pr:=aa ua.out 1;have eE:=aa ua.out 2;have cE:=aa ua.out 3;have bE:=aa ua.out 4;have G2:=aa ua.out 5;have F2:=aa ua.out 6;have uq:Rq.cell? ⟨Ia,0,none⟩=some (.int .i64 ((Ad l1 Ma).f0)):=(ga Ba.out 0).trans rfl;have tq:Rq.cell? ⟨Ia,1,none⟩=some (.int .i64 ((Ad l1 Ma).f1)):=(ga Ba.out 1).trans rfl;have Zp:=aa Ba.out 0;have Yp:=aa Ba.out 1;have D9:0 ≤ (Ja:Int):=of_decide_eq_true (by first|(with_reducible assumption)|assumption);have z9:(Ja:Int) < ((l1.length:Int):Int):=of_decide_eq_true (by first|(with_reducible assumption)|assumption);obtain ⟨Zw,faf,JW,vW,zaa,jaf,EX⟩:=Kd.Mp Ce.out (by omega);(first|cases JW|(injection JW with ea_ en_ ec_;(first|subst ea_|(injection ea_ with ea_;subst ea_));subst ec_;clear en_));have KX:=qa.mk vW;have Baf:=qa.mk EX;clear vW zaa EX;have Zaa:=qa.mk (show (Vh Zw ∨ w.heap.size ≤ Zw) from (Ce.out.1 _ rfl).1);(first|simp only [add_plain] at Th|skip);(first|simp only [add_plain] at Tk|skip);obtain ⟨qaf,fW,oW,RI,yI⟩:=Kd.Sj Ce.out bH (Ja:Int) D9 z9;obtain rfl:=Fh oW;have J9:Rq.cell? ⟨Zw,(Ja:Int).toNat * 2,none⟩=some (.int .i64 ((Ad l1 Ja).f0)):=RI 0 _ rfl;have I9:Rq.cell? ⟨Zw,(Ja:Int).toNat * 2 + 1,none⟩=some (.int .i64 ((Ad l1 Ja).f1)):=RI 1 _ rfl;have X_:Rq.frozen? ⟨Zw,(Ja:Int).toNat * 2,none⟩=false:=yI 0;have V_:Rq.frozen? ⟨Zw,(Ja:Int).toNat * 2 + 1,none⟩=false:=yI 1;clear fW RI yI oW;replace D9:=eq_true D9;replace z9:=eq_true z9;have xX:=qa.mk (show Kd.R ak 77 Rq w0.heap.size (fun k_=>(Vh k_ ∨ w.heap.size ≤ k_)∧k_ ≠ Ia) (.slice (some ⟨Zw,0,none⟩) l1.length DQ) l1 from (by (with_reducible repeat (first|apply Kd.Qc|apply Kd.Pc|apply Kd.xd));exact Ce.out));obtain ⟨paf,hO,nW,YF,xI⟩:=Kd.Sj xX.out bH (Ja:Int) (of_decide_eq_true (by first|(with_reducible assumption)|assumption)) (by have h_:(Ja:Int) < ((l1.length:Int):Int):=of_decide_eq_true (by first|(with_reducible assumption)|assumption);first|exact h_|(have e_:=(Kd.ee Ce.out).1;omega)|simpa using h_);obtain rfl:=Fh nW;have mR:=Kd.qu xX.out (Ja:Int) (of_decide_eq_true (by first|(with_reducible assumption)|assumption)) (by have h_:(Ja:Int) < ((l1.length:Int):Int):=of_decide_eq_true (by first|(with_reducible assumption)|assumption);first|exact h_|(have e_:=(Kd.ee Ce.out).1;omega)|simpa using h_) (seg:=[.int .i64 ((Ad l1 Ma).f0),.int .i64 ((Ad l1 Ma).f1)]) (j:=0) hO YF (show 2 ≤ 2 from by decide) (x':=(⟨(Ad l1 Ma).f0,(Ad l1 Ma).f1⟩:Ph)) (Xp _ _ _ (⟨(Ad l1 Ma).f0,(Ad l1 Ma).f1⟩:Ph) ) (fun _ hk=>hk);have xP:=YF 0 _ rfl;(try simp only [show (ak).sz=2 from rfl,Nat.mul_one,Nat.add_zero] at xP);have aQ:=xI 0;(try simp only [show (ak).sz=2 from rfl,Nat.mul_one,Nat.add_zero] at aQ);have wP:=YF 1 _ rfl;(try simp only [show (ak).sz=2 from rfl,Nat.mul_one,Nat.add_zero] at wP);have ZP:=xI 1;(try simp only [show (ak).sz=2 from rfl,Nat.mul_one,Nat.add_zero] at ZP);clear hO YF xI nW)|((with_reducible refine Rf (t:=77) (p:=56) rfl ?_);refine Bf (t:=77) (p:=56) (v:=?vo_w38) (w1:=((Rq.setCell ⟨Zw,(Ja:Int).toNat * 2,none⟩ (.int .i64 ((Ad l1 Ma).f0))).setCell ⟨Zw,(Ja:Int).toNat * 2 + 1,none⟩ (.int .i64 ((Ad l1 Ma).f1)))) ?hg ?ho ?hn ?hr ?_;(case ho=>rfl);(case hg=>rfl);(case hn=>rfl);(case hr=>first|(go_simp;done)|(go_simp;rfl));intro xu hw;have hg:Rq.grownBy xu (some Zw):=(by rw [hw];exact mR.2);have Sw:Kd.R ak 77 xu w0.heap.size (fun k_=>(Vh k_ ∨ w.heap.size ≤ k_)∧k_ ≠ Ia) (.slice (some ⟨Zw,0,none⟩) l1.length DQ) y105:=(by rw [hw,vJ.out];exact mR.1);clear mR;have Pb:=qa.mk (Sw);have Wb:=qa.mk (qh (g:=Fa) (o:=.cells #[.int .i64 Ec,.int .i64 Ja,.int .i64 Ma,.int .i64 Oa,.int .i64 fc,.int .i64 qd,.string ld] 70 (0,0)) (by (with_reducible repeat (first|refine Ea ?_ _|refine Ga ?_|refine Da ?_ _));exact ua.out) hg (Kd.Qx Ce.out ua.out (by decide)));have nc:=qa.mk (qh (g:=Ia) (o:=.cells #[.int .i64 ((Ad l1 Ma).f0),.int .i64 ((Ad l1 Ma).f1)] 77 (0,0)) (by (with_reducible repeat (first|refine Ea ?_ _|refine Ga ?_|refine Da ?_ _));exact Ba.out) hg (Kd.Ed Ce.out (fun _ hk=>hk.2)));have Nc:=qa.mk ((by rw [hw];exact Aa (Aa (HB.out) KX.out) KX.out:Below w0.heap.size w0 xu));have qe:=qa.mk (Kept.Cn (S:=(fun k_=>Vh k_)) hg (by repeat (first|(with_reducible first|exact HK.out|apply Kept.alloc|apply Kept.drewN|apply Kept.drew|refine Kept.setCell ?_ (.inr Nd.out) _|refine Kept.setCell ?_ (.inr Je.out) _)|exact HK.out)) (fun k_ e_=>(Ce.out.1 k_ e_).1));clear Ce;clear ua;clear Ba;clear HB;clear HK;have Ce:=Pb;have ua:=Wb;have Ba:=nc;have HB:=Nc;have HK:=qe;clear Pb Wb nc Nc qe;clear hg hw Sw))
       go_ret
       exact ⟨by first|rfl|(simp [La,Ka] <;> rfl)|(simp [*,La,Ka] <;> rfl),by (with_reducible repeat (first|apply Kd.Qc|apply Kd.Pc|apply Kd.xd));exact Kd.ke Ce.out (fun _ hk=>hk.1),by repeat (first|(with_reducible first|exact HB.out|apply ia|apply ja|apply za|refine Aa ?_ Va.out|refine Aa ?_ Vb.out)|exact HB.out),by repeat (first|(with_reducible first|exact HK.out|apply Kept.alloc|apply Kept.drewN|apply Kept.drew|refine Kept.setCell ?_ (.inr Nd.out) _|refine Kept.setCell ?_ (.inr Je.out) _)|exact HK.out)⟩
      ·rw [if_neg c24] at H
       exact absurd H (by simp)
     ·rw [if_neg c23] at H
      exact absurd H (by simp)
    ·rw [if_neg c22] at H
     exact absurd H (by simp)
   ·rw [if_neg c21] at H
    exact absurd H (by simp)
  ·rw [if_neg c20] at H
   have wO:(Ec == 1)=false:=beq_eq_false_iff_ne.mpr c20
   have iX:(Ec != 1)=true:=bne_iff_ne.mpr c20
   by_cases c39:Ec=2
   ·rw [if_pos c39] at H
    have pO:(Ec == 2)=true:=beq_iff_eq.mpr c39
    have oO:(Ec != 2)=false:=bne_eq_false_iff_eq.mpr c39
    clear c39
    by_cases c40:0 ≤ Ma
    ·rw [if_pos c40] at H
     have Had:decide (0 ≤ Ma)=true:=decide_eq_true c40
     clear c40
     by_cases c41:Ma < (l1.length:Int)
     ·rw [if_pos c41] at H
      have Gad:decide (Ma < (l1.length:Int))=true:=decide_eq_true c41
      clear c41
      by_cases c42:0 ≤ Oa
      ·rw [if_pos c42] at H
       have Fad:decide (0 ≤ Oa)=true:=decide_eq_true c42
       clear c42
       by_cases c43:Oa < (l1.length:Int)
       ·rw [if_pos c43] at H
        have Ead:decide (Oa < (l1.length:Int))=true:=decide_eq_true c43
        clear c43
        replace H:=Option.bind_eq_some_iff.mp H
        obtain ⟨⟨t108,t109,t110⟩,PX,H⟩:=H
        replace H:(if t110=true then (if 0 ≤ Ja then (if Ja < (l1.length:Int) then (some (a2,(l1.set (Ja:Int).toNat (⟨t108,t109⟩:Ph)))) else (none)) else (none)) else (if 0 ≤ Ja then (if Ja < (l1.length:Int) then (some (wrap64 (a2 + 1),(l1.set (Ja:Int).toNat (⟨a2,0⟩:Ph)))) else (none)) else (none)))=some (r1,r2):=H
        have A44:=qa.mk PX
        clear PX
        by_cases c45:t110=true
        ·subst c45
         have H1:(if 0 ≤ Ja then (if Ja < (l1.length:Int) then (some (a2,(l1.set (Ja:Int).toNat (⟨t108,t109⟩:Ph)))) else (none)) else (none))=some (r1,r2):=by rw [if_pos rfl] at H;exact H
         clear H
         have H:=H1
         clear H1
         by_cases c46:0 ≤ Ja
         ·rw [if_pos c46] at H
          have eG:decide (0 ≤ Ja)=true:=decide_eq_true c46
          clear c46
          by_cases c47:Ja < (l1.length:Int)
          ·rw [if_pos c47] at H
           have Dad:decide (Ja < (l1.length:Int))=true:=decide_eq_true c47
           clear c47
           obtain ⟨y111,hy111⟩:∃ y_:List (Ph),y_=(l1.set (Ja:Int).toNat (⟨t108,t109⟩:Ph)):=⟨_,rfl⟩
           replace H:(some (a2,y111))=some (r1,r2):=by first|(rw [hy111];with_reducible exact H)|(have Tj:=(Option.bind_some _ _).symm.trans H;rw [hy111];with_reducible exact Tj)|(have Tj:=(Option.bind_some _ _).symm.trans H;with_reducible exact Tj)|with_reducible exact H|(rw [hy111];exact H)|exact H
           have qX:=qa.mk hy111
           clear hy111
           simp only [Option.some.injEq,Prod.mk.injEq] at H
           obtain ⟨rfl,rfl⟩:=H
           go_enter Try.func78,Try.ntmps78
           try go_wp2_with (first|((with_reducible refine Mb (N:=3) rfl ?_);refine Jb ?hg (N:=3) ?hd (cs:=#[.int .i64 Ec,.int .i64 Ja,.int .i64 Ma,.int .i64 Oa,.int .i64 fc,.int .i64 qd,.string ld]) (t:=70) ?hr ?_;(case hd=>rfl);(case hg=>rfl);(case hr=>first|(go_simp;done)|(go_simp;rfl));intro Fa hg w49 Qb hb;have Pb:=qa.mk (Kd.Ge (by (with_reducible repeat (first|apply Kd.Qc|apply Kd.Pc|apply Kd.xd));exact Ce.out) hb);have Wb:=qa.mk (Kept.below (S:=(fun k_=>Vh k_)) (by repeat (first|(with_reducible first|exact HK.out|apply Kept.alloc|apply Kept.drewN|apply Kept.drew)|exact HK.out)) hb);have nc:=qa.mk (Pa (by repeat (first|(with_reducible first|exact HB.out|apply ia|apply ja|apply za)|exact HB.out)) hb);have Nc:=qa.mk (Qb);have qe:=qa.mk ((by rw [hg];exact (by first|exact HK.out.1|exact (show Kept w _ (fun k_=>Vh k_) from by repeat (first|(with_reducible first|exact HK.out|apply Kept.alloc|apply Kept.drewN|apply Kept.drew)|exact HK.out)).1):w.heap.size ≤ Fa));have lf:=qa.mk ((by rw [hg];exact (Na (by repeat (first|(with_reducible first|exact HB.out|apply ia|apply ja|apply za)|exact HB.out))):w0.heap.size ≤ Fa));clear Ce;clear HK;clear HB;have Ce:=Pb;have HK:=Wb;have HB:=nc;have ua:=Nc;have Nd:=qe;have Va:=lf;clear Pb Wb nc Nc qe lf;clear hb Qb hg)|((with_reducible refine Mb (N:=7) rfl ?_);refine Jb ?hg (N:=7) ?hd (cs:=#[.int .i64 0,.int .i64 0]) (t:=77) ?hr ?_;(case hd=>rfl);(case hg=>rfl);(case hr=>first|(go_simp;done)|(go_simp;rfl));intro Ia hg fu Qb hb;have Pb:=qa.mk (Kd.Ge (Kd.Np (by (with_reducible repeat (first|apply Kd.Qc|apply Kd.Pc|apply Kd.xd));exact Ce.out) Ia (Nat.le_of_eq hg.symm)) hb);have Wb:=qa.mk (Wa (g:=Fa) (o:=.cells #[.int .i64 Ec,.int .i64 Ja,.int .i64 Ma,.int .i64 Oa,.int .i64 fc,.int .i64 qd,.string ld] 70 (0,0)) (by (with_reducible repeat (first|refine Ea ?_ _|refine Ga ?_|refine Da ?_ _));exact ua.out) hb);have nc:=qa.mk (Kept.below (S:=(fun k_=>Vh k_)) (by repeat (first|(with_reducible first|exact HK.out|apply Kept.alloc|apply Kept.drewN|apply Kept.drew|refine Kept.setCell ?_ (.inr Nd.out) _)|exact HK.out)) hb);have Nc:=qa.mk (Pa (by repeat (first|(with_reducible first|exact HB.out|apply ia|apply ja|apply za|refine Aa ?_ Va.out)|exact HB.out)) hb);have qe:=qa.mk (Qb);have lf:=qa.mk ((by rw [hg];exact (by first|exact HK.out.1|exact (show Kept w _ (fun k_=>Vh k_) from by repeat (first|(with_reducible first|exact HK.out|apply Kept.alloc|apply Kept.drewN|apply Kept.drew|refine Kept.setCell ?_ (.inr Nd.out) _)|exact HK.out)).1):w.heap.size ≤ Ia));have Hf:=qa.mk ((by rw [hg];exact (Na (by repeat (first|(with_reducible first|exact HB.out|apply ia|apply ja|apply za|refine Aa ?_ Va.out)|exact HB.out))):w0.heap.size ≤ Ia));have lp:=qa.mk ((by rw [hg];exact Nat.ne_of_lt (Ac (g:=Fa) (o:=.cells #[.int .i64 Ec,.int .i64 Ja,.int .i64 Ma,.int .i64 Oa,.int .i64 fc,.int .i64 qd,.string ld] 70 (0,0)) (by (with_reducible repeat (first|refine Ea ?_ _|refine Ga ?_|refine Da ?_ _));exact ua.out)):Fa ≠ Ia));have gp:=qa.mk ((by rw [hg];exact Nat.ne_of_gt (Ac (g:=Fa) (o:=.cells #[.int .i64 Ec,.int .i64 Ja,.int .i64 Ma,.int .i64 Oa,.int .i64 fc,.int .i64 qd,.string ld] 70 (0,0)) (by (with_reducible repeat (first|refine Ea ?_ _|refine Ga ?_|refine Da ?_ _));exact ua.out)):Ia ≠ Fa));clear Ce;clear ua;clear HK;clear HB;have Ce:=Pb;have ua:=Wb;have HK:=nc;have HB:=Nc;have Ba:=qe;have Je:=lf;have Vb:=Hf;have Sa:=lp;have qb:=gp;clear Pb Wb nc Nc qe lf Hf lp gp;clear hb Qb hg;have eI:=qb.out;have bI:=Sa.out;have rz:fu.cell? ⟨Ia,0,none⟩=some (.int .i64 0):=(ga Ba.out 0).trans rfl;have qz:fu.cell? ⟨Ia,1,none⟩=some (.int .i64 0):=(ga Ba.out 1).trans rfl;have Qy:=aa Ba.out 0;have Py:=aa Ba.out 1;have pz:fu.cell? ⟨Fa,0,none⟩=some (.int .i64 Ec):=(ga ua.out 0).trans rfl;have oz:fu.cell? ⟨Fa,1,none⟩=some (.int .i64 Ja):=(ga ua.out 1).trans rfl;have uM:fu.cell? ⟨Fa,2,none⟩=some (.int .i64 Ma):=(ga ua.out 2).trans rfl;have tM:fu.cell? ⟨Fa,3,none⟩=some (.int .i64 Oa):=(ga ua.out 3).trans rfl;have sM:fu.cell? ⟨Fa,4,none⟩=some (.int .i64 fc):=(ga ua.out 4).trans rfl;have D7:fu.cell? ⟨Fa,5,none⟩=some (.int .i64 qd):=(ga ua.out 5).trans rfl;have z7:fu.cell? ⟨Fa,6,none⟩=some (.string ld):=(ga ua.out 6).trans rfl;have Oy:=aa ua.out 0;have My:=aa ua.out 1;have OK:=aa ua.out 2;have NK:=aa ua.out 3;have MK:=aa ua.out 4;have V0:=aa ua.out 5;have U0:=aa ua.out 6))
           have Pb:qa (Kd.R ak 77 ((fu.setCell ⟨Ia,0,none⟩ (.int .i64 0)).setCell ⟨Ia,1,none⟩ (.int .i64 0)) w0.heap.size (fun k_=>(Vh k_ ∨ w.heap.size ≤ k_)∧k_ ≠ Ia) Ml l1):=⟨by (with_reducible repeat (first|apply Kd.Qc|apply Kd.Pc|apply Kd.xd));exact Kd.ke (Kd.He (p:=⟨Ia,1,none⟩) (Kd.He (p:=⟨Ia,0,none⟩) (Kd.ke Ce.out (fun k_ hk=>(⟨hk,hk.2⟩:_∧k_ ≠ Ia))) (fun _ hk=>hk.2) (.int .i64 0)) (fun _ hk=>hk.2) (.int .i64 0)) (fun _ hk=>⟨hk.1.1,hk.1.2⟩)⟩
           have Wb:qa (((fu.setCell ⟨Ia,0,none⟩ (.int .i64 0)).setCell ⟨Ia,1,none⟩ (.int .i64 0)).heap[Fa]? = some (.cells #[.int .i64 Ec,.int .i64 Ja,.int .i64 Ma,.int .i64 Oa,.int .i64 fc,.int .i64 qd,.string ld] 70 (0,0))):=⟨by (with_reducible repeat (first|refine Ea ?_ _|refine Ga ?_|refine Da ?_ _));refine Rb ?_ Sa.out _;(with_reducible repeat (first|refine Ea ?_ _|refine Ga ?_|refine Da ?_ _));refine Rb ?_ Sa.out _;(with_reducible repeat (first|refine Ea ?_ _|refine Ga ?_|refine Da ?_ _));exact ua.out⟩
           have nc:qa (((fu.setCell ⟨Ia,0,none⟩ (.int .i64 0)).setCell ⟨Ia,1,none⟩ (.int .i64 0)).heap[Ia]? = some (.cells #[.int .i64 0,.int .i64 0] 77 (0,0))):=⟨by (with_reducible repeat (first|refine Ea ?_ _|refine Ga ?_|refine Da ?_ _));refine Db (cs:=#[.int .i64 0,.int .i64 0]) ?_ 1 _ rfl;(with_reducible repeat (first|refine Ea ?_ _|refine Ga ?_|refine Da ?_ _));refine Db (cs:=#[.int .i64 0,.int .i64 0]) ?_ 0 _ rfl;(with_reducible repeat (first|refine Ea ?_ _|refine Ga ?_|refine Da ?_ _));exact Ba.out⟩
           have Nc:qa (Kept w ((fu.setCell ⟨Ia,0,none⟩ (.int .i64 0)).setCell ⟨Ia,1,none⟩ (.int .i64 0)) (fun k_=>Vh k_)):=⟨by repeat (first|(with_reducible first|exact HK.out|apply Kept.alloc|apply Kept.drewN|apply Kept.drew|refine Kept.setCell ?_ (.inr Nd.out) _|refine Kept.setCell ?_ (.inr Je.out) _)|exact HK.out)⟩
           have qe:qa (Below w0.heap.size w0 ((fu.setCell ⟨Ia,0,none⟩ (.int .i64 0)).setCell ⟨Ia,1,none⟩ (.int .i64 0))):=⟨by repeat (first|(with_reducible first|exact HB.out|apply ia|apply ja|apply za|refine Aa ?_ Va.out|refine Aa ?_ Vb.out)|exact HB.out)⟩
           (try clear Ce)
           (try clear ua)
           (try clear Ba)
           (try clear HK)
           (try clear HB)
           generalize ((fu.setCell ⟨Ia,0,none⟩ (.int .i64 0)).setCell ⟨Ia,1,none⟩ (.int .i64 0))=w54 at Pb Wb nc Nc qe ⊢
           have Ce:=Pb
           have ua:=Wb
           have Ba:=nc
           have HK:=Nc
           have HB:=qe
           clear Pb Wb nc Nc qe
           have Pb:=qa.mk (Kd.xd Ce.out)
           have Wb:=qa.mk (Ga ua.out)
           have nc:=qa.mk (Ga Ba.out)
           have Nc:=qa.mk (Kept.drew HK.out)
           have qe:=qa.mk (za HB.out)
           clear Ce
           clear ua
           clear Ba
           clear HK
           clear HB
           have Ce:=Pb
           have ua:=Wb
           have Ba:=nc
           have HK:=Nc
           have HB:=qe
           clear Pb Wb nc Nc qe
           obtain ⟨Gaf,CQ,EW⟩:=Kd.mh Ce.out
           (first|subst EW|(injection EW with f1_ f2_ f3_;have wQ:=f1_.symm;have vQ:=f3_.symm;clear f1_ f2_ f3_;subst wQ;subst vQ))
           have Bu:0 ≤ (Ma:Int):=of_decide_eq_true (by first|(with_reducible assumption)|assumption)
           have Au:Ma < (l1.length:Int):=of_decide_eq_true (by first|(with_reducible assumption)|assumption)
           obtain ⟨Pj,bJ,Gi,Ei⟩:=Ax (Kd.ee Ce.out).2.2 Ma Bu Au
           cases bJ
           replace Bu:=eq_true Bu
           replace Au:=eq_true Au
           have rA:0 ≤ (Oa:Int):=of_decide_eq_true (by first|(with_reducible assumption)|assumption)
           have qA:Oa < (l1.length:Int):=of_decide_eq_true (by first|(with_reducible assumption)|assumption)
           obtain ⟨qJ,AQ,ym,xm⟩:=Ax (Kd.ee Ce.out).2.2 Oa rA qA
           obtain rfl:Pj=qJ:=(by injection AQ)
           replace rA:=eq_true rA
           replace qA:=eq_true qA
           refine Pg (n:=18) (S:=fun w'=>w'.cell? ⟨Fa,0,none⟩=some (.int .i64 Ec)∧w'.cell? ⟨Fa,1,none⟩=some (.int .i64 Ja)∧w'.cell? ⟨Fa,2,none⟩=some (.int .i64 Ma)∧w'.cell? ⟨Fa,3,none⟩=some (.int .i64 Oa)∧w'.cell? ⟨Fa,4,none⟩=some (.int .i64 fc)∧w'.cell? ⟨Fa,5,none⟩=some (.int .i64 qd)∧w'.cell? ⟨Fa,6,none⟩=some (.string ld)∧w'.cell? (Pj.add ((Ma).toNat * 2))=some (.int .i64 ((Ad l1 Ma).f0))∧w'.cell? ⟨(Pj.add ((Ma).toNat * 2)).block,(Pj.add ((Ma).toNat * 2)).off + 1,none⟩=some (.int .i64 ((Ad l1 Ma).f1))∧w'.cell? (Pj.add ((Oa).toNat * 2))=some (.int .i64 ((Ad l1 Oa).f0))∧w'.cell? ⟨(Pj.add ((Oa).toNat * 2)).block,(Pj.add ((Oa).toNat * 2)).off + 1,none⟩=some (.int .i64 ((Ad l1 Oa).f1))) (ds:=[]) #[false,false,false,false,false,false,false,false,false,false,false,false,false,false,false,false,false,false] (by kernel_rfl) rfl rfl ⟨(ga ua.out 0).trans rfl,(ga ua.out 1).trans rfl,(ga ua.out 2).trans rfl,(ga ua.out 3).trans rfl,(ga ua.out 4).trans rfl,(ga ua.out 5).trans rfl,(ga ua.out 6).trans rfl,Gi,Ei,ym,xm⟩ (fun hHeld=>?_);refine nh Zb.FR Zb.yO (fun ef Pn=>?_)
           generalize w54.drew=w55 at Ce ua Ba HK HB Gi Ei ym xm hHeld ⊢
           refine Nb (i:=0) (N:=some 28) (v:=?_) (a':=?_) #[true,false,false,false,false,false,false,false,false,false,false,false,false,false,false,false,false,false] rfl rfl (Oc ef.out (by kernel_rfl)) (fun _ _ _ h=>h) (Or.inl ⟨by rfl,?_⟩) ?_ ?_
           rotate_left
           ·intro w'
            go_simp
            with_reducible rfl
           rotate_left
           ·simp only [Act.put,List.setIfInBounds_toArray,List.set_cons_zero,List.set_cons_succ,Za,gb]
            rfl
           refine Nb (i:=2) (N:=some 30) (v:=?_) (a':=?_) #[true,false,true,false,false,false,false,false,false,false,false,false,false,false,false,false,false,false] rfl rfl (Oc ef.out (by kernel_rfl)) (fun _ _ _ h=>h) (Or.inl ⟨by rfl,?_⟩) ?_ ?_
           rotate_left
           ·intro w'
            go_simp
            with_reducible rfl
           rotate_left
           ·simp only [Act.put,List.setIfInBounds_toArray,List.set_cons_zero,List.set_cons_succ,Za,gb]
            rfl
           refine Nb (i:=3) (N:=some 31) (v:=?_) (a':=?_) #[true,false,true,true,false,false,false,false,false,false,false,false,false,false,false,false,false,false] rfl rfl (Oc ef.out (by kernel_rfl)) (fun _ _ _ h=>h) (Or.inl ⟨by rfl,?_⟩) ?_ ?_
           rotate_left
           ·intro w'
            go_simp
            with_reducible rfl
           rotate_left
           ·simp only [Act.put,List.setIfInBounds_toArray,List.set_cons_zero,List.set_cons_succ,Za,gb]
            rfl
           refine Nb (i:=7) (N:=some 35) (v:=?_) (a':=?_) #[true,false,true,true,false,false,false,true,false,false,false,false,false,false,false,false,false,false] rfl rfl (Oc ef.out (by kernel_rfl)) (fun _ _ _ h=>h) (Or.inl ⟨by rfl,?_⟩) ?_ ?_
           rotate_left
           ·intro w'
            go_simp
            with_reducible rfl
           rotate_left
           ·simp only [Act.put,List.setIfInBounds_toArray,List.set_cons_zero,List.set_cons_succ,Za,gb]
            rfl
           refine Nb (i:=8) (N:=some 36) (v:=?_) (a':=?_) #[true,false,true,true,false,false,false,true,true,false,false,false,false,false,false,false,false,false] rfl rfl (Oc ef.out (by kernel_rfl)) (fun _ _ _ h=>h) (Or.inl ⟨by rfl,?_⟩) ?_ ?_
           rotate_left
           ·intro w'
            go_simp
            with_reducible rfl
           rotate_left
           ·simp only [Act.put,List.setIfInBounds_toArray,List.set_cons_zero,List.set_cons_succ,Za,gb]
            rfl
           refine Jd (i:=1) (N:=some 29) (v:=?_) (a':=?_) #[true,true,true,true,false,false,false,true,true,false,false,false,false,false,false,false,false,false] rfl rfl (Fe ef.out Pn.out (by kernel_rfl)) (fun _ _ _ h=>h) (Or.inl ⟨by rfl,?_⟩) hHeld ?_ ?_
           rotate_left
           ·rintro w' ⟨s0,s1,s2,s3,s4,s5,s6,s7,s8,s9,xy⟩
            go_simp
            with_reducible rfl
           rotate_left
           ·simp only [Act.put,List.setIfInBounds_toArray,List.set_cons_zero,List.set_cons_succ,Za,gb]
            rfl
           refine Jd (i:=4) (N:=some 32) (v:=?_) (a':=?_) #[true,true,true,true,true,false,false,true,true,false,false,false,false,false,false,false,false,false] rfl rfl (Fe ef.out Pn.out (by kernel_rfl)) (fun _ _ _ h=>h) (Or.inl ⟨by rfl,?_⟩) hHeld ?_ ?_
           rotate_left
           ·rintro w' ⟨s0,s1,s2,s3,s4,s5,s6,s7,s8,s9,xy⟩
            go_simp
            with_reducible rfl
           rotate_left
           ·simp only [Act.put,List.setIfInBounds_toArray,List.set_cons_zero,List.set_cons_succ,Za,gb]
            rfl
           refine Nb (i:=5) (N:=some 33) (v:=?_) (a':=?_) #[true,true,true,true,true,true,false,true,true,false,false,false,false,false,false,false,false,false] rfl rfl (Oc ef.out (by kernel_rfl)) (fun _ _ _ h=>h) (Or.inl ⟨by rfl,?_⟩) ?_ ?_
           rotate_left
           ·intro w'
            go_simp
            with_reducible rfl
           rotate_left
           ·simp only [Act.put,List.setIfInBounds_toArray,List.set_cons_zero,List.set_cons_succ,Za,gb]
            rfl
           refine Jd (i:=6) (N:=some 34) (v:=?_) (a':=?_) #[true,true,true,true,true,true,true,true,true,false,false,false,false,false,false,false,false,false] rfl rfl (Fe ef.out Pn.out (by kernel_rfl)) (fun _ _ _ h=>h) (Or.inl ⟨by rfl,?_⟩) hHeld ?_ ?_
           rotate_left
           ·rintro w' ⟨s0,s1,s2,s3,s4,s5,s6,s7,s8,s9,xy⟩
            go_simp
            with_reducible rfl
           rotate_left
           ·simp only [Act.put,List.setIfInBounds_toArray,List.set_cons_zero,List.set_cons_succ,Za,gb]
            rfl
           refine Jd (i:=9) (N:=some 37) (v:=?_) (a':=?_) #[true,true,true,true,true,true,true,true,true,true,false,false,false,false,false,false,false,false] rfl rfl (Fe ef.out Pn.out (by kernel_rfl)) (fun _ _ _ h=>h) (Or.inl ⟨by rfl,?_⟩) hHeld ?_ ?_
           rotate_left
           ·rintro w' ⟨s0,s1,s2,s3,s4,s5,s6,s7,s8,s9,xy⟩
            go_simp
            with_reducible rfl
           rotate_left
           ·simp only [Act.put,List.setIfInBounds_toArray,List.set_cons_zero,List.set_cons_succ,Za,gb]
            rfl
           refine Nb (i:=10) (N:=some 38) (v:=?_) (a':=?_) #[true,true,true,true,true,true,true,true,true,true,true,false,false,false,false,false,false,false] rfl rfl (Oc ef.out (by kernel_rfl)) (fun _ _ _ h=>h) (Or.inl ⟨by rfl,?_⟩) ?_ ?_
           rotate_left
           ·intro w'
            go_simp
            with_reducible rfl
           rotate_left
           ·simp only [Act.put,List.setIfInBounds_toArray,List.set_cons_zero,List.set_cons_succ,Za,gb]
            rfl
           refine Jd (i:=11) (N:=some 39) (v:=?_) (a':=?_) #[true,true,true,true,true,true,true,true,true,true,true,true,false,false,false,false,false,false] rfl rfl (Fe ef.out Pn.out (by kernel_rfl)) (fun _ _ _ h=>h) (Or.inl ⟨by rfl,?_⟩) hHeld ?_ ?_
           rotate_left
           ·rintro w' ⟨s0,s1,s2,s3,s4,s5,s6,s7,s8,s9,xy⟩
            go_simp
            with_reducible rfl
           rotate_left
           ·simp only [Act.put,List.setIfInBounds_toArray,List.set_cons_zero,List.set_cons_succ,Za,gb]
            rfl
           refine gh (i:=12) (N:=some 40) #[true,true,true,true,true,true,true,true,true,true,true,true,true,false,false,false,false,false] rfl rfl (Mk ef.out (by kernel_rfl)) (by decide) (fun K hK=>?_)
           refine Gn Try.func106 (by kernel_rfl) rfl #[.string ld,.agg #[.int .i64 ((Ad l1 Ma).f0),.int .i64 ((Ad l1 Ma).f1)],.agg #[.int .i64 ((Ad l1 Oa).f0),.int .i64 ((Ad l1 Oa).f1)]] (by rfl) rfl rfl (by (try simp only [List.map_toArray,List.map_cons,List.map_nil]);first|done|rfl|(simp only [List.length_drop,List.length_take];rfl)) ?_
           with_reducible refine (Cb.calls k ld ((Ad l1 Ma).f0) ((Ad l1 Ma).f1) ((Ad l1 Oa).f0) ((Ad l1 Oa).f1) t108 t109 true _ A44.out).mono ?_
           rintro e NN ⟨rfl,hb⟩
           have jR:=(hb.cell (World.block_lt_of_cell? _ _ (hHeld.2.2.2.2.2.2.2.1))).trans (hHeld.2.2.2.2.2.2.2.1)
           have iR:=(hb.cell (World.block_lt_of_cell? _ _ (hHeld.2.2.2.2.2.2.2.2.1))).trans (hHeld.2.2.2.2.2.2.2.2.1)
           have gR:=(hb.cell (World.block_lt_of_cell? _ _ (hHeld.2.2.2.2.2.2.2.2.2.1))).trans (hHeld.2.2.2.2.2.2.2.2.2.1)
           have xJ:=(hb.cell (World.block_lt_of_cell? _ _ (hHeld.2.2.2.2.2.2.2.2.2.2))).trans (hHeld.2.2.2.2.2.2.2.2.2.2)
           refine ⟨_,rfl,?_⟩
           have Pb:=qa.mk (Kd.Ge (by (with_reducible repeat (first|apply Kd.Qc|apply Kd.Pc|apply Kd.xd));exact Ce.out) hb)
           have Wb:=qa.mk (Wa (g:=Fa) (o:=.cells #[.int .i64 Ec,.int .i64 Ja,.int .i64 Ma,.int .i64 Oa,.int .i64 fc,.int .i64 qd,.string ld] 70 (0,0)) (by (with_reducible repeat (first|refine Ea ?_ _|refine Ga ?_|refine Da ?_ _));exact ua.out) hb)
           have nc:=qa.mk (Wa (g:=Ia) (o:=.cells #[.int .i64 0,.int .i64 0] 77 (0,0)) (by (with_reducible repeat (first|refine Ea ?_ _|refine Ga ?_|refine Da ?_ _));exact Ba.out) hb)
           have Nc:=qa.mk (Kept.below (S:=(fun k_=>Vh k_)) (by repeat (first|(with_reducible first|exact HK.out|apply Kept.alloc|apply Kept.drewN|apply Kept.drew|refine Kept.setCell ?_ (.inr Nd.out) _|refine Kept.setCell ?_ (.inr Je.out) _)|exact HK.out)) hb)
           have qe:=qa.mk (Pa (by repeat (first|(with_reducible first|exact HB.out|apply ia|apply ja|apply za|refine Aa ?_ Va.out|refine Aa ?_ Vb.out)|exact HB.out)) hb)
           clear Ce
           clear ua
           clear Ba
           clear HK
           clear HB
           have Ce:=Pb
           have ua:=Wb
           have Ba:=nc
           have HK:=Nc
           have HB:=qe
           clear Pb Wb nc Nc qe
           (try clear hb)
           (try clear hb2)
           (try clear hk)
           (try clear hi)
           refine hK.out _ _ ⟨(ga ua.out 0).trans rfl,(ga ua.out 1).trans rfl,(ga ua.out 2).trans rfl,(ga ua.out 3).trans rfl,(ga ua.out 4).trans rfl,(ga ua.out 5).trans rfl,(ga ua.out 6).trans rfl,jR,iR,gR,xJ⟩ (fun hHeld=>?_)
           clear hK K
           refine Xd (a':=?_) ?_ ?_
           rotate_left
           ·show Act.put _ (some 40) _=_
            simp only [Act.put,List.setIfInBounds_toArray,List.set_cons_zero,List.set_cons_succ,Za,gb]
            rfl
           refine Nb (i:=13) (N:=some 27) (v:=?_) (a':=?_) #[true,true,true,true,true,true,true,true,true,true,true,true,true,true,false,false,false,false] rfl rfl (Oc ef.out (by kernel_rfl)) (fun _ _ _ h=>h) (Or.inl ⟨by rfl,?_⟩) ?_ ?_
           rotate_left
           ·intro w'
            go_simp
            with_reducible rfl
           rotate_left
           ·simp only [Act.put,List.setIfInBounds_toArray,List.set_cons_zero,List.set_cons_succ,Za,gb]
            rfl
           refine Nb (i:=14) (N:=some 41) (v:=?_) (a':=?_) #[true,true,true,true,true,true,true,true,true,true,true,true,true,true,true,false,false,false] rfl rfl (Oc ef.out (by kernel_rfl)) (fun _ _ _ h=>h) (Or.inl ⟨by rfl,?_⟩) ?_ ?_
           rotate_left
           ·intro w'
            go_simp
            with_reducible rfl
           rotate_left
           ·simp only [Act.put,List.setIfInBounds_toArray,List.set_cons_zero,List.set_cons_succ,Za,gb]
            rfl
           refine Nb (i:=15) (N:=some 42) (v:=?_) (a':=?_) #[true,true,true,true,true,true,true,true,true,true,true,true,true,true,true,true,false,false] rfl rfl (Oc ef.out (by kernel_rfl)) (fun _ _ _ h=>h) (Or.inl ⟨by rfl,?_⟩) ?_ ?_
           rotate_left
           ·intro w'
            go_simp
            with_reducible rfl
           rotate_left
           ·simp only [Act.put,List.setIfInBounds_toArray,List.set_cons_zero,List.set_cons_succ,Za,gb]
            rfl
           refine gh (i:=16) (N:=none) #[true,true,true,true,true,true,true,true,true,true,true,true,true,true,true,true,true,false] rfl rfl (Mk ef.out (by kernel_rfl)) (by decide) (fun K hK=>?_)
           have Iae:NN.cell? ⟨Ia,0,none⟩=some (.int .i64 0):=(ga Ba.out 0).trans rfl
           have lad:=aa Ba.out 0
           have hY:=Sa.out
           have lY:=qb.out
           have Hae:NN.cell? ⟨Ia,1,none⟩=some (.int .i64 0):=(ga Ba.out 1).trans rfl
           have kad:=aa Ba.out 1
           have gY:=Sa.out
           have kY:=qb.out
           refine si (w1:=?_) (by rfl) rfl ?_ ?_
           rotate_left
           ·go_simp
            rfl
           refine hK.out _ _ ⟨((cell_far (p:=⟨Ia,_,none⟩) Sa.out _).trans (((cell_far (p:=⟨Ia,_,none⟩) Sa.out _).trans (hHeld.1)))),((cell_far (p:=⟨Ia,_,none⟩) Sa.out _).trans (((cell_far (p:=⟨Ia,_,none⟩) Sa.out _).trans (hHeld.2.1)))),((cell_far (p:=⟨Ia,_,none⟩) Sa.out _).trans (((cell_far (p:=⟨Ia,_,none⟩) Sa.out _).trans (hHeld.2.2.1)))),((cell_far (p:=⟨Ia,_,none⟩) Sa.out _).trans (((cell_far (p:=⟨Ia,_,none⟩) Sa.out _).trans (hHeld.2.2.2.1)))),((cell_far (p:=⟨Ia,_,none⟩) Sa.out _).trans (((cell_far (p:=⟨Ia,_,none⟩) Sa.out _).trans (hHeld.2.2.2.2.1)))),((cell_far (p:=⟨Ia,_,none⟩) Sa.out _).trans (((cell_far (p:=⟨Ia,_,none⟩) Sa.out _).trans (hHeld.2.2.2.2.2.1)))),((cell_far (p:=⟨Ia,_,none⟩) Sa.out _).trans (((cell_far (p:=⟨Ia,_,none⟩) Sa.out _).trans (hHeld.2.2.2.2.2.2.1)))),((cell_far (p:=⟨Ia,_,none⟩) (by first|exact Kd.Wc (Kd.Ed Ce.out (fun _ hk=>hk.2))|(rw [Yd];exact Kd.Wc (Kd.Ed Ce.out (fun _ hk=>hk.2)))|(show (Addr.add _ _).block ≠ _;rw [Yd];exact Kd.Wc (Kd.Ed Ce.out (fun _ hk=>hk.2)))|(dsimp only;exact Kd.Wc (Kd.Ed Ce.out (fun _ hk=>hk.2)))) _).trans (((cell_far (p:=⟨Ia,_,none⟩) (by first|exact Kd.Wc (Kd.Ed Ce.out (fun _ hk=>hk.2))|(rw [Yd];exact Kd.Wc (Kd.Ed Ce.out (fun _ hk=>hk.2)))|(show (Addr.add _ _).block ≠ _;rw [Yd];exact Kd.Wc (Kd.Ed Ce.out (fun _ hk=>hk.2)))|(dsimp only;exact Kd.Wc (Kd.Ed Ce.out (fun _ hk=>hk.2)))) _).trans (hHeld.2.2.2.2.2.2.2.1)))),((cell_far (p:=⟨Ia,_,none⟩) (by first|exact Kd.Wc (Kd.Ed Ce.out (fun _ hk=>hk.2))|(rw [Yd];exact Kd.Wc (Kd.Ed Ce.out (fun _ hk=>hk.2)))|(show (Addr.add _ _).block ≠ _;rw [Yd];exact Kd.Wc (Kd.Ed Ce.out (fun _ hk=>hk.2)))|(dsimp only;exact Kd.Wc (Kd.Ed Ce.out (fun _ hk=>hk.2)))) _).trans (((cell_far (p:=⟨Ia,_,none⟩) (by first|exact Kd.Wc (Kd.Ed Ce.out (fun _ hk=>hk.2))|(rw [Yd];exact Kd.Wc (Kd.Ed Ce.out (fun _ hk=>hk.2)))|(show (Addr.add _ _).block ≠ _;rw [Yd];exact Kd.Wc (Kd.Ed Ce.out (fun _ hk=>hk.2)))|(dsimp only;exact Kd.Wc (Kd.Ed Ce.out (fun _ hk=>hk.2)))) _).trans (hHeld.2.2.2.2.2.2.2.2.1)))),((cell_far (p:=⟨Ia,_,none⟩) (by first|exact Kd.Wc (Kd.Ed Ce.out (fun _ hk=>hk.2))|(rw [Yd];exact Kd.Wc (Kd.Ed Ce.out (fun _ hk=>hk.2)))|(show (Addr.add _ _).block ≠ _;rw [Yd];exact Kd.Wc (Kd.Ed Ce.out (fun _ hk=>hk.2)))|(dsimp only;exact Kd.Wc (Kd.Ed Ce.out (fun _ hk=>hk.2)))) _).trans (((cell_far (p:=⟨Ia,_,none⟩) (by first|exact Kd.Wc (Kd.Ed Ce.out (fun _ hk=>hk.2))|(rw [Yd];exact Kd.Wc (Kd.Ed Ce.out (fun _ hk=>hk.2)))|(show (Addr.add _ _).block ≠ _;rw [Yd];exact Kd.Wc (Kd.Ed Ce.out (fun _ hk=>hk.2)))|(dsimp only;exact Kd.Wc (Kd.Ed Ce.out (fun _ hk=>hk.2)))) _).trans (hHeld.2.2.2.2.2.2.2.2.2.1)))),((cell_far (p:=⟨Ia,_,none⟩) (by first|exact Kd.Wc (Kd.Ed Ce.out (fun _ hk=>hk.2))|(rw [Yd];exact Kd.Wc (Kd.Ed Ce.out (fun _ hk=>hk.2)))|(show (Addr.add _ _).block ≠ _;rw [Yd];exact Kd.Wc (Kd.Ed Ce.out (fun _ hk=>hk.2)))|(dsimp only;exact Kd.Wc (Kd.Ed Ce.out (fun _ hk=>hk.2)))) _).trans (((cell_far (p:=⟨Ia,_,none⟩) (by first|exact Kd.Wc (Kd.Ed Ce.out (fun _ hk=>hk.2))|(rw [Yd];exact Kd.Wc (Kd.Ed Ce.out (fun _ hk=>hk.2)))|(show (Addr.add _ _).block ≠ _;rw [Yd];exact Kd.Wc (Kd.Ed Ce.out (fun _ hk=>hk.2)))|(dsimp only;exact Kd.Wc (Kd.Ed Ce.out (fun _ hk=>hk.2)))) _).trans (hHeld.2.2.2.2.2.2.2.2.2.2))))⟩ (fun hHeld=>?_)
           clear hK K
           refine Nb (i:=17) (N:=some 8) (v:=?_) (a':=?_) #[true,true,true,true,true,true,true,true,true,true,true,true,true,true,true,true,true,true] rfl rfl (Oc ef.out (by kernel_rfl)) (fun _ _ _ h=>h) (Or.inl ⟨by rfl,?_⟩) ?_ ?_
           rotate_left
           ·intro w'
            go_simp
            with_reducible rfl
           rotate_left
           ·simp only [Act.put,List.setIfInBounds_toArray,List.set_cons_zero,List.set_cons_succ,Za,gb]
            rfl
           refine Yh (Oj ef.out (by kernel_rfl)) ?_
           have Pb:qa (Kd.R ak 77 ((NN.setCell ⟨Ia,0,none⟩ (.int .i64 t108)).setCell ⟨Ia,1,none⟩ (.int .i64 t109)) w0.heap.size (fun k_=>(Vh k_ ∨ w.heap.size ≤ k_)∧k_ ≠ Ia) (.slice (some Pj) l1.length CQ) l1):=⟨by (with_reducible repeat (first|apply Kd.Qc|apply Kd.Pc|apply Kd.xd));exact Kd.ke (Kd.He (p:=⟨Ia,1,none⟩) (Kd.He (p:=⟨Ia,0,none⟩) (Kd.ke Ce.out (fun k_ hk=>(⟨hk,hk.2⟩:_∧k_ ≠ Ia))) (fun _ hk=>hk.2) (.int .i64 t108)) (fun _ hk=>hk.2) (.int .i64 t109)) (fun _ hk=>⟨hk.1.1,hk.1.2⟩)⟩
           have Wb:qa (((NN.setCell ⟨Ia,0,none⟩ (.int .i64 t108)).setCell ⟨Ia,1,none⟩ (.int .i64 t109)).heap[Fa]? = some (.cells #[.int .i64 Ec,.int .i64 Ja,.int .i64 Ma,.int .i64 Oa,.int .i64 fc,.int .i64 qd,.string ld] 70 (0,0))):=⟨by (with_reducible repeat (first|refine Ea ?_ _|refine Ga ?_|refine Da ?_ _));refine Rb ?_ Sa.out _;(with_reducible repeat (first|refine Ea ?_ _|refine Ga ?_|refine Da ?_ _));refine Rb ?_ Sa.out _;(with_reducible repeat (first|refine Ea ?_ _|refine Ga ?_|refine Da ?_ _));exact ua.out⟩
           have nc:qa (((NN.setCell ⟨Ia,0,none⟩ (.int .i64 t108)).setCell ⟨Ia,1,none⟩ (.int .i64 t109)).heap[Ia]? = some (.cells #[.int .i64 t108,.int .i64 t109] 77 (0,0))):=⟨by (with_reducible repeat (first|refine Ea ?_ _|refine Ga ?_|refine Da ?_ _));refine Db (cs:=#[.int .i64 t108,.int .i64 0]) ?_ 1 _ rfl;(with_reducible repeat (first|refine Ea ?_ _|refine Ga ?_|refine Da ?_ _));refine Db (cs:=#[.int .i64 0,.int .i64 0]) ?_ 0 _ rfl;(with_reducible repeat (first|refine Ea ?_ _|refine Ga ?_|refine Da ?_ _));exact Ba.out⟩
           have Nc:qa (Kept w ((NN.setCell ⟨Ia,0,none⟩ (.int .i64 t108)).setCell ⟨Ia,1,none⟩ (.int .i64 t109)) (fun k_=>Vh k_)):=⟨by repeat (first|(with_reducible first|exact HK.out|apply Kept.alloc|apply Kept.drewN|apply Kept.drew|refine Kept.setCell ?_ (.inr Nd.out) _|refine Kept.setCell ?_ (.inr Je.out) _)|exact HK.out)⟩
           have qe:qa (Below w0.heap.size w0 ((NN.setCell ⟨Ia,0,none⟩ (.int .i64 t108)).setCell ⟨Ia,1,none⟩ (.int .i64 t109))):=⟨by repeat (first|(with_reducible first|exact HB.out|apply ia|apply ja|apply za|refine Aa ?_ Va.out|refine Aa ?_ Vb.out)|exact HB.out)⟩
           (try clear Ce)
           (try clear ua)
           (try clear Ba)
           (try clear HK)
           (try clear HB)
           generalize ((NN.setCell ⟨Ia,0,none⟩ (.int .i64 t108)).setCell ⟨Ia,1,none⟩ (.int .i64 t109))=w60 at Pb Wb nc Nc qe ⊢
           have Ce:=Pb
           have ua:=Wb
           have Ba:=nc
           have HK:=Nc
           have HB:=qe
           clear Pb Wb nc Nc qe
           have iM:w60.cell? ⟨Fa,0,none⟩=some (.int .i64 Ec):=(ga ua.out 0).trans rfl
           have gM:w60.cell? ⟨Fa,1,none⟩=some (.int .i64 Ja):=(ga ua.out 1).trans rfl
           have fM:w60.cell? ⟨Fa,2,none⟩=some (.int .i64 Ma):=(ga ua.out 2).trans rfl
           have eM:w60.cell? ⟨Fa,3,none⟩=some (.int .i64 Oa):=(ga ua.out 3).trans rfl
           have dM:w60.cell? ⟨Fa,4,none⟩=some (.int .i64 fc):=(ga ua.out 4).trans rfl
           have cM:w60.cell? ⟨Fa,5,none⟩=some (.int .i64 qd):=(ga ua.out 5).trans rfl
           have bM:w60.cell? ⟨Fa,6,none⟩=some (.string ld):=(ga ua.out 6).trans rfl
           have AK:=aa ua.out 0
           have zK:=aa ua.out 1
           have yK:=aa ua.out 2
           have xK:=aa ua.out 3
           have wK:=aa ua.out 4
           have vK:=aa ua.out 5
           have uK:=aa ua.out 6
           have XE:w60.cell? ⟨Ia,0,none⟩=some (.int .i64 t108):=(ga Ba.out 0).trans rfl
           have WE:w60.cell? ⟨Ia,1,none⟩=some (.int .i64 t109):=(ga Ba.out 1).trans rfl
           have DD:=aa Ba.out 0
           have CD:=aa Ba.out 1
           have TR:0 ≤ (Ja:Int):=of_decide_eq_true (by first|(with_reducible assumption)|assumption)
           have RR:(Ja:Int) < ((l1.length:Int):Int):=of_decide_eq_true (by first|(with_reducible assumption)|assumption)
           obtain ⟨Yw,eaf,FW,uW,yaa,iaf,DX⟩:=Kd.Mp Ce.out (by omega)
           (first|cases FW|(injection FW with ea_ en_ ec_;(first|subst ea_|(injection ea_ with ea_;subst ea_));subst ec_;clear en_))
           have JX:=qa.mk uW
           have Aaf:=qa.mk DX
           clear uW yaa DX
           have Yaa:=qa.mk (show (Vh Yw ∨ w.heap.size ≤ Yw) from (Ce.out.1 _ rfl).1)
           (first|simp only [add_plain] at Gi|skip)
           (first|simp only [add_plain] at Ei|skip)
           (first|simp only [add_plain] at ym|skip)
           (first|simp only [add_plain] at xm|skip)
           obtain ⟨oaf,dW,mW,QI,wI⟩:=Kd.Sj Ce.out bH (Ja:Int) TR RR
           obtain rfl:=Fh mW
           have vP:w60.cell? ⟨Yw,(Ja:Int).toNat * 2,none⟩=some (.int .i64 ((Ad l1 Ja).f0)):=QI 0 _ rfl
           have uP:w60.cell? ⟨Yw,(Ja:Int).toNat * 2 + 1,none⟩=some (.int .i64 ((Ad l1 Ja).f1)):=QI 1 _ rfl
           have U_:w60.frozen? ⟨Yw,(Ja:Int).toNat * 2,none⟩=false:=wI 0
           have T_:w60.frozen? ⟨Yw,(Ja:Int).toNat * 2 + 1,none⟩=false:=wI 1
           clear dW QI wI mW
           replace TR:=eq_true TR
           replace RR:=eq_true RR
           have wX:=qa.mk (show Kd.R ak 77 w60 w0.heap.size (fun k_=>(Vh k_ ∨ w.heap.size ≤ k_)∧k_ ≠ Ia) (.slice (some ⟨Yw,0,none⟩) l1.length CQ) l1 from (by (with_reducible repeat (first|apply Kd.Qc|apply Kd.Pc|apply Kd.xd));exact Ce.out))
           obtain ⟨naf,gO,lW,XF,vI⟩:=Kd.Sj wX.out bH (Ja:Int) (of_decide_eq_true (by first|(with_reducible assumption)|assumption)) (by have h_:(Ja:Int) < ((l1.length:Int):Int):=of_decide_eq_true (by first|(with_reducible assumption)|assumption);first|exact h_|(have e_:=(Kd.ee Ce.out).1;omega)|simpa using h_)
           obtain rfl:=Fh lW
           have lR:=Kd.qu wX.out (Ja:Int) (of_decide_eq_true (by first|(with_reducible assumption)|assumption)) (by have h_:(Ja:Int) < ((l1.length:Int):Int):=of_decide_eq_true (by first|(with_reducible assumption)|assumption);first|exact h_|(have e_:=(Kd.ee Ce.out).1;omega)|simpa using h_) (seg:=[.int .i64 t108,.int .i64 t109]) (j:=0) gO XF (show 2 ≤ 2 from by decide) (x':=(⟨t108,t109⟩:Ph)) (Xp _ _ _ (⟨t108,t109⟩:Ph) ) (fun _ hk=>hk)
           have UH:=XF 0 _ rfl
           (try simp only [show (ak).sz=2 from rfl,Nat.mul_one,Nat.add_zero] at UH)
           have YP:=vI 0
           (try simp only [show (ak).sz=2 from rfl,Nat.mul_one,Nat.add_zero] at YP)
           have TH:=XF 1 _ rfl
           (try simp only [show (ak).sz=2 from rfl,Nat.mul_one,Nat.add_zero] at TH)
           have XP:=vI 1
           (try simp only [show (ak).sz=2 from rfl,Nat.mul_one,Nat.add_zero] at XP)
           clear gO XF vI lW
           try go_wp2_with (first|((with_reducible refine Rf (t:=77) (p:=56) rfl ?_);refine Bf (t:=77) (p:=56) (v:=?vo_w64) (w1:=((w60.setCell ⟨Yw,(Ja:Int).toNat * 2,none⟩ (.int .i64 t108)).setCell ⟨Yw,(Ja:Int).toNat * 2 + 1,none⟩ (.int .i64 t109))) ?hg ?ho ?hn ?hr ?_;(case ho=>rfl);(case hg=>rfl);(case hn=>rfl);(case hr=>first|(go_simp;done)|(go_simp;rfl));intro n9 hw;have hg:w60.grownBy n9 (some Yw):=(by rw [hw];exact lR.2);have Sw:Kd.R ak 77 n9 w0.heap.size (fun k_=>(Vh k_ ∨ w.heap.size ≤ k_)∧k_ ≠ Ia) (.slice (some ⟨Yw,0,none⟩) l1.length CQ) y111:=(by rw [hw,qX.out];exact lR.1);clear lR;have Pb:=qa.mk (Sw);have Wb:=qa.mk (qh (g:=Fa) (o:=.cells #[.int .i64 Ec,.int .i64 Ja,.int .i64 Ma,.int .i64 Oa,.int .i64 fc,.int .i64 qd,.string ld] 70 (0,0)) (by (with_reducible repeat (first|refine Ea ?_ _|refine Ga ?_|refine Da ?_ _));exact ua.out) hg (Kd.Qx Ce.out ua.out (by decide)));have nc:=qa.mk (qh (g:=Ia) (o:=.cells #[.int .i64 t108,.int .i64 t109] 77 (0,0)) (by (with_reducible repeat (first|refine Ea ?_ _|refine Ga ?_|refine Da ?_ _));exact Ba.out) hg (Kd.Ed Ce.out (fun _ hk=>hk.2)));have Nc:=qa.mk ((by rw [hw];exact Aa (Aa (HB.out) JX.out) JX.out:Below w0.heap.size w0 n9));have qe:=qa.mk (Kept.Cn (S:=(fun k_=>Vh k_)) hg (by repeat (first|(with_reducible first|exact HK.out|apply Kept.alloc|apply Kept.drewN|apply Kept.drew|refine Kept.setCell ?_ (.inr Nd.out) _|refine Kept.setCell ?_ (.inr Je.out) _)|exact HK.out)) (fun k_ e_=>(Ce.out.1 k_ e_).1));clear Ce;clear ua;clear Ba;clear HB;clear HK;have Ce:=Pb;have ua:=Wb;have Ba:=nc;have HB:=Nc;have HK:=qe;clear Pb Wb nc Nc qe;clear hg hw Sw))
           go_ret
           exact ⟨by first|rfl|(simp [La,Ka] <;> rfl)|(simp [*,La,Ka] <;> rfl),by (with_reducible repeat (first|apply Kd.Qc|apply Kd.Pc|apply Kd.xd));exact Kd.ke Ce.out (fun _ hk=>hk.1),by repeat (first|(with_reducible first|exact HB.out|apply ia|apply ja|apply za|refine Aa ?_ Va.out|refine Aa ?_ Vb.out)|exact HB.out),by repeat (first|(with_reducible first|exact HK.out|apply Kept.alloc|apply Kept.drewN|apply Kept.drew|refine Kept.setCell ?_ (.inr Nd.out) _|refine Kept.setCell ?_ (.inr Je.out) _)|exact HK.out)⟩
          ·rw [if_neg c47] at H
           exact absurd H (by simp)
         ·rw [if_neg c46] at H
          exact absurd H (by simp)
        ·replace c45:=Bool.eq_false_iff.mpr c45
         subst c45
         have H1:(if 0 ≤ Ja then (if Ja < (l1.length:Int) then (some (wrap64 (a2 + 1),(l1.set (Ja:Int).toNat (⟨a2,0⟩:Ph)))) else (none)) else (none))=some (r1,r2):=by rw [if_neg (show ¬ (false=true) by decide)] at H;exact H
         clear H
         have H:=H1
         clear H1
         by_cases c65:0 ≤ Ja
         ·rw [if_pos c65] at H
          have eJ:decide (0 ≤ Ja)=true:=decide_eq_true c65
          clear c65
          by_cases c66:Ja < (l1.length:Int)
          ·rw [if_pos c66] at H
           have TW:decide (Ja < (l1.length:Int))=true:=decide_eq_true c66
           clear c66
           obtain ⟨y112,hy112⟩:∃ y_:List (Ph),y_=(l1.set (Ja:Int).toNat (⟨a2,0⟩:Ph)):=⟨_,rfl⟩
           replace H:(some (wrap64 (a2 + 1),y112))=some (r1,r2):=by first|(rw [hy112];with_reducible exact H)|(have Tj:=(Option.bind_some _ _).symm.trans H;rw [hy112];with_reducible exact Tj)|(have Tj:=(Option.bind_some _ _).symm.trans H;with_reducible exact Tj)|with_reducible exact H|(rw [hy112];exact H)|exact H
           have dB:=qa.mk hy112
           clear hy112
           simp only [Option.some.injEq,Prod.mk.injEq] at H
           obtain ⟨rfl,rfl⟩:=H
           go_enter Try.func78,Try.ntmps78
           try go_wp2_with (first|((with_reducible refine Mb (N:=3) rfl ?_);refine Jb ?hg (N:=3) ?hd (cs:=#[.int .i64 Ec,.int .i64 Ja,.int .i64 Ma,.int .i64 Oa,.int .i64 fc,.int .i64 qd,.string ld]) (t:=70) ?hr ?_;(case hd=>rfl);(case hg=>rfl);(case hr=>first|(go_simp;done)|(go_simp;rfl));intro Fa hg w68 Qb hb;have Pb:=qa.mk (Kd.Ge (by (with_reducible repeat (first|apply Kd.Qc|apply Kd.Pc|apply Kd.xd));exact Ce.out) hb);have Wb:=qa.mk (Kept.below (S:=(fun k_=>Vh k_)) (by repeat (first|(with_reducible first|exact HK.out|apply Kept.alloc|apply Kept.drewN|apply Kept.drew)|exact HK.out)) hb);have nc:=qa.mk (Pa (by repeat (first|(with_reducible first|exact HB.out|apply ia|apply ja|apply za)|exact HB.out)) hb);have Nc:=qa.mk (Qb);have qe:=qa.mk ((by rw [hg];exact (by first|exact HK.out.1|exact (show Kept w _ (fun k_=>Vh k_) from by repeat (first|(with_reducible first|exact HK.out|apply Kept.alloc|apply Kept.drewN|apply Kept.drew)|exact HK.out)).1):w.heap.size ≤ Fa));have lf:=qa.mk ((by rw [hg];exact (Na (by repeat (first|(with_reducible first|exact HB.out|apply ia|apply ja|apply za)|exact HB.out))):w0.heap.size ≤ Fa));clear Ce;clear HK;clear HB;have Ce:=Pb;have HK:=Wb;have HB:=nc;have ua:=Nc;have Nd:=qe;have Va:=lf;clear Pb Wb nc Nc qe lf;clear hb Qb hg)|((with_reducible refine Mb (N:=7) rfl ?_);refine Jb ?hg (N:=7) ?hd (cs:=#[.int .i64 0,.int .i64 0]) (t:=77) ?hr ?_;(case hd=>rfl);(case hg=>rfl);(case hr=>first|(go_simp;done)|(go_simp;rfl));intro Ia hg mB Qb hb;have Pb:=qa.mk (Kd.Ge (Kd.Np (by (with_reducible repeat (first|apply Kd.Qc|apply Kd.Pc|apply Kd.xd));exact Ce.out) Ia (Nat.le_of_eq hg.symm)) hb);have Wb:=qa.mk (Wa (g:=Fa) (o:=.cells #[.int .i64 Ec,.int .i64 Ja,.int .i64 Ma,.int .i64 Oa,.int .i64 fc,.int .i64 qd,.string ld] 70 (0,0)) (by (with_reducible repeat (first|refine Ea ?_ _|refine Ga ?_|refine Da ?_ _));exact ua.out) hb);have nc:=qa.mk (Kept.below (S:=(fun k_=>Vh k_)) (by repeat (first|(with_reducible first|exact HK.out|apply Kept.alloc|apply Kept.drewN|apply Kept.drew|refine Kept.setCell ?_ (.inr Nd.out) _)|exact HK.out)) hb);have Nc:=qa.mk (Pa (by repeat (first|(with_reducible first|exact HB.out|apply ia|apply ja|apply za|refine Aa ?_ Va.out)|exact HB.out)) hb);have qe:=qa.mk (Qb);have lf:=qa.mk ((by rw [hg];exact (by first|exact HK.out.1|exact (show Kept w _ (fun k_=>Vh k_) from by repeat (first|(with_reducible first|exact HK.out|apply Kept.alloc|apply Kept.drewN|apply Kept.drew|refine Kept.setCell ?_ (.inr Nd.out) _)|exact HK.out)).1):w.heap.size ≤ Ia));have Hf:=qa.mk ((by rw [hg];exact (Na (by repeat (first|(with_reducible first|exact HB.out|apply ia|apply ja|apply za|refine Aa ?_ Va.out)|exact HB.out))):w0.heap.size ≤ Ia));have lp:=qa.mk ((by rw [hg];exact Nat.ne_of_lt (Ac (g:=Fa) (o:=.cells #[.int .i64 Ec,.int .i64 Ja,.int .i64 Ma,.int .i64 Oa,.int .i64 fc,.int .i64 qd,.string ld] 70 (0,0)) (by (with_reducible repeat (first|refine Ea ?_ _|refine Ga ?_|refine Da ?_ _));exact ua.out)):Fa ≠ Ia));have gp:=qa.mk ((by rw [hg];exact Nat.ne_of_gt (Ac (g:=Fa) (o:=.cells #[.int .i64 Ec,.int .i64 Ja,.int .i64 Ma,.int .i64 Oa,.int .i64 fc,.int .i64 qd,.string ld] 70 (0,0)) (by (with_reducible repeat (first|refine Ea ?_ _|refine Ga ?_|refine Da ?_ _));exact ua.out)):Ia ≠ Fa));clear Ce;clear ua;clear HK;clear HB;have Ce:=Pb;have ua:=Wb;have HK:=nc;have HB:=Nc;have Ba:=qe;have Je:=lf;have Vb:=Hf;have Sa:=lp;have qb:=gp;clear Pb Wb nc Nc qe lf Hf lp gp;clear hb Qb hg;have xS:=qb.out;have dS:=Sa.out;have VE:mB.cell? ⟨Ia,0,none⟩=some (.int .i64 0):=(ga Ba.out 0).trans rfl;have UE:mB.cell? ⟨Ia,1,none⟩=some (.int .i64 0):=(ga Ba.out 1).trans rfl;have BD:=aa Ba.out 0;have zD:=aa Ba.out 1;have TE:mB.cell? ⟨Fa,0,none⟩=some (.int .i64 Ec):=(ga ua.out 0).trans rfl;have SE:mB.cell? ⟨Fa,1,none⟩=some (.int .i64 Ja):=(ga ua.out 1).trans rfl;have RE:mB.cell? ⟨Fa,2,none⟩=some (.int .i64 Ma):=(ga ua.out 2).trans rfl;have QE:mB.cell? ⟨Fa,3,none⟩=some (.int .i64 Oa):=(ga ua.out 3).trans rfl;have PE:mB.cell? ⟨Fa,4,none⟩=some (.int .i64 fc):=(ga ua.out 4).trans rfl;have OE:mB.cell? ⟨Fa,5,none⟩=some (.int .i64 qd):=(ga ua.out 5).trans rfl;have ME:mB.cell? ⟨Fa,6,none⟩=some (.string ld):=(ga ua.out 6).trans rfl;have yD:=aa ua.out 0;have xD:=aa ua.out 1;have wD:=aa ua.out 2;have vD:=aa ua.out 3;have uD:=aa ua.out 4;have tD:=aa ua.out 5;have sD:=aa ua.out 6))
           have Pb:qa (Kd.R ak 77 ((mB.setCell ⟨Ia,0,none⟩ (.int .i64 0)).setCell ⟨Ia,1,none⟩ (.int .i64 0)) w0.heap.size (fun k_=>(Vh k_ ∨ w.heap.size ≤ k_)∧k_ ≠ Ia) Ml l1):=⟨by (with_reducible repeat (first|apply Kd.Qc|apply Kd.Pc|apply Kd.xd));exact Kd.ke (Kd.He (p:=⟨Ia,1,none⟩) (Kd.He (p:=⟨Ia,0,none⟩) (Kd.ke Ce.out (fun k_ hk=>(⟨hk,hk.2⟩:_∧k_ ≠ Ia))) (fun _ hk=>hk.2) (.int .i64 0)) (fun _ hk=>hk.2) (.int .i64 0)) (fun _ hk=>⟨hk.1.1,hk.1.2⟩)⟩
           have Wb:qa (((mB.setCell ⟨Ia,0,none⟩ (.int .i64 0)).setCell ⟨Ia,1,none⟩ (.int .i64 0)).heap[Fa]? = some (.cells #[.int .i64 Ec,.int .i64 Ja,.int .i64 Ma,.int .i64 Oa,.int .i64 fc,.int .i64 qd,.string ld] 70 (0,0))):=⟨by (with_reducible repeat (first|refine Ea ?_ _|refine Ga ?_|refine Da ?_ _));refine Rb ?_ Sa.out _;(with_reducible repeat (first|refine Ea ?_ _|refine Ga ?_|refine Da ?_ _));refine Rb ?_ Sa.out _;(with_reducible repeat (first|refine Ea ?_ _|refine Ga ?_|refine Da ?_ _));exact ua.out⟩
           have nc:qa (((mB.setCell ⟨Ia,0,none⟩ (.int .i64 0)).setCell ⟨Ia,1,none⟩ (.int .i64 0)).heap[Ia]? = some (.cells #[.int .i64 0,.int .i64 0] 77 (0,0))):=⟨by (with_reducible repeat (first|refine Ea ?_ _|refine Ga ?_|refine Da ?_ _));refine Db (cs:=#[.int .i64 0,.int .i64 0]) ?_ 1 _ rfl;(with_reducible repeat (first|refine Ea ?_ _|refine Ga ?_|refine Da ?_ _));refine Db (cs:=#[.int .i64 0,.int .i64 0]) ?_ 0 _ rfl;(with_reducible repeat (first|refine Ea ?_ _|refine Ga ?_|refine Da ?_ _));exact Ba.out⟩
           have Nc:qa (Kept w ((mB.setCell ⟨Ia,0,none⟩ (.int .i64 0)).setCell ⟨Ia,1,none⟩ (.int .i64 0)) (fun k_=>Vh k_)):=⟨by repeat (first|(with_reducible first|exact HK.out|apply Kept.alloc|apply Kept.drewN|apply Kept.drew|refine Kept.setCell ?_ (.inr Nd.out) _|refine Kept.setCell ?_ (.inr Je.out) _)|exact HK.out)⟩
           have qe:qa (Below w0.heap.size w0 ((mB.setCell ⟨Ia,0,none⟩ (.int .i64 0)).setCell ⟨Ia,1,none⟩ (.int .i64 0))):=⟨by repeat (first|(with_reducible first|exact HB.out|apply ia|apply ja|apply za|refine Aa ?_ Va.out|refine Aa ?_ Vb.out)|exact HB.out)⟩
           (try clear Ce)
           (try clear ua)
           (try clear Ba)
           (try clear HK)
           (try clear HB)
           generalize ((mB.setCell ⟨Ia,0,none⟩ (.int .i64 0)).setCell ⟨Ia,1,none⟩ (.int .i64 0))=UJ at Pb Wb nc Nc qe ⊢
           have Ce:=Pb
           have ua:=Wb
           have Ba:=nc
           have HK:=Nc
           have HB:=qe
           clear Pb Wb nc Nc qe
           have Pb:=qa.mk (Kd.xd Ce.out)
           have Wb:=qa.mk (Ga ua.out)
           have nc:=qa.mk (Ga Ba.out)
           have Nc:=qa.mk (Kept.drew HK.out)
           have qe:=qa.mk (za HB.out)
           clear Ce
           clear ua
           clear Ba
           clear HK
           clear HB
           have Ce:=Pb
           have ua:=Wb
           have Ba:=nc
           have HK:=Nc
           have HB:=qe
           clear Pb Wb nc Nc qe
           obtain ⟨Faf,wN,CW⟩:=Kd.mh Ce.out
           (first|subst CW|(injection CW with f1_ f2_ f3_;have wQ:=f1_.symm;have vQ:=f3_.symm;clear f1_ f2_ f3_;subst wQ;subst vQ))
           have Bu:0 ≤ (Ma:Int):=of_decide_eq_true (by first|(with_reducible assumption)|assumption)
           have Au:Ma < (l1.length:Int):=of_decide_eq_true (by first|(with_reducible assumption)|assumption)
           obtain ⟨Pj,bJ,Gi,Ei⟩:=Ax (Kd.ee Ce.out).2.2 Ma Bu Au
           cases bJ
           replace Bu:=eq_true Bu
           replace Au:=eq_true Au
           have rA:0 ≤ (Oa:Int):=of_decide_eq_true (by first|(with_reducible assumption)|assumption)
           have qA:Oa < (l1.length:Int):=of_decide_eq_true (by first|(with_reducible assumption)|assumption)
           obtain ⟨qJ,AQ,ym,xm⟩:=Ax (Kd.ee Ce.out).2.2 Oa rA qA
           obtain rfl:Pj=qJ:=(by injection AQ)
           replace rA:=eq_true rA
           replace qA:=eq_true qA
           refine Pg (n:=18) (S:=fun w'=>w'.cell? ⟨Fa,0,none⟩=some (.int .i64 Ec)∧w'.cell? ⟨Fa,1,none⟩=some (.int .i64 Ja)∧w'.cell? ⟨Fa,2,none⟩=some (.int .i64 Ma)∧w'.cell? ⟨Fa,3,none⟩=some (.int .i64 Oa)∧w'.cell? ⟨Fa,4,none⟩=some (.int .i64 fc)∧w'.cell? ⟨Fa,5,none⟩=some (.int .i64 qd)∧w'.cell? ⟨Fa,6,none⟩=some (.string ld)∧w'.cell? (Pj.add ((Ma).toNat * 2))=some (.int .i64 ((Ad l1 Ma).f0))∧w'.cell? ⟨(Pj.add ((Ma).toNat * 2)).block,(Pj.add ((Ma).toNat * 2)).off + 1,none⟩=some (.int .i64 ((Ad l1 Ma).f1))∧w'.cell? (Pj.add ((Oa).toNat * 2))=some (.int .i64 ((Ad l1 Oa).f0))∧w'.cell? ⟨(Pj.add ((Oa).toNat * 2)).block,(Pj.add ((Oa).toNat * 2)).off + 1,none⟩=some (.int .i64 ((Ad l1 Oa).f1))) (ds:=[]) #[false,false,false,false,false,false,false,false,false,false,false,false,false,false,false,false,false,false] (by kernel_rfl) rfl rfl ⟨(ga ua.out 0).trans rfl,(ga ua.out 1).trans rfl,(ga ua.out 2).trans rfl,(ga ua.out 3).trans rfl,(ga ua.out 4).trans rfl,(ga ua.out 5).trans rfl,(ga ua.out 6).trans rfl,Gi,Ei,ym,xm⟩ (fun hHeld=>?_);refine nh Zb.FR Zb.yO (fun ef Pn=>?_)
           generalize UJ.drew=w74 at Ce ua Ba HK HB Gi Ei ym xm hHeld ⊢
           refine Nb (i:=0) (N:=some 28) (v:=?_) (a':=?_) #[true,false,false,false,false,false,false,false,false,false,false,false,false,false,false,false,false,false] rfl rfl (Oc ef.out (by kernel_rfl)) (fun _ _ _ h=>h) (Or.inl ⟨by rfl,?_⟩) ?_ ?_
           rotate_left
           ·intro w'
            go_simp
            with_reducible rfl
           rotate_left
           ·simp only [Act.put,List.setIfInBounds_toArray,List.set_cons_zero,List.set_cons_succ,Za,gb]
            rfl
           refine Nb (i:=2) (N:=some 30) (v:=?_) (a':=?_) #[true,false,true,false,false,false,false,false,false,false,false,false,false,false,false,false,false,false] rfl rfl (Oc ef.out (by kernel_rfl)) (fun _ _ _ h=>h) (Or.inl ⟨by rfl,?_⟩) ?_ ?_
           rotate_left
           ·intro w'
            go_simp
            with_reducible rfl
           rotate_left
           ·simp only [Act.put,List.setIfInBounds_toArray,List.set_cons_zero,List.set_cons_succ,Za,gb]
            rfl
           refine Nb (i:=3) (N:=some 31) (v:=?_) (a':=?_) #[true,false,true,true,false,false,false,false,false,false,false,false,false,false,false,false,false,false] rfl rfl (Oc ef.out (by kernel_rfl)) (fun _ _ _ h=>h) (Or.inl ⟨by rfl,?_⟩) ?_ ?_
           rotate_left
           ·intro w'
            go_simp
            with_reducible rfl
           rotate_left
           ·simp only [Act.put,List.setIfInBounds_toArray,List.set_cons_zero,List.set_cons_succ,Za,gb]
            rfl
           refine Nb (i:=7) (N:=some 35) (v:=?_) (a':=?_) #[true,false,true,true,false,false,false,true,false,false,false,false,false,false,false,false,false,false] rfl rfl (Oc ef.out (by kernel_rfl)) (fun _ _ _ h=>h) (Or.inl ⟨by rfl,?_⟩) ?_ ?_
           rotate_left
           ·intro w'
            go_simp
            with_reducible rfl
           rotate_left
           ·simp only [Act.put,List.setIfInBounds_toArray,List.set_cons_zero,List.set_cons_succ,Za,gb]
            rfl
           refine Nb (i:=8) (N:=some 36) (v:=?_) (a':=?_) #[true,false,true,true,false,false,false,true,true,false,false,false,false,false,false,false,false,false] rfl rfl (Oc ef.out (by kernel_rfl)) (fun _ _ _ h=>h) (Or.inl ⟨by rfl,?_⟩) ?_ ?_
           rotate_left
           ·intro w'
            go_simp
            with_reducible rfl
           rotate_left
           ·simp only [Act.put,List.setIfInBounds_toArray,List.set_cons_zero,List.set_cons_succ,Za,gb]
            rfl
           refine Jd (i:=1) (N:=some 29) (v:=?_) (a':=?_) #[true,true,true,true,false,false,false,true,true,false,false,false,false,false,false,false,false,false] rfl rfl (Fe ef.out Pn.out (by kernel_rfl)) (fun _ _ _ h=>h) (Or.inl ⟨by rfl,?_⟩) hHeld ?_ ?_
           rotate_left
           ·rintro w' ⟨s0,s1,s2,s3,s4,s5,s6,s7,s8,s9,xy⟩
            go_simp
            with_reducible rfl
           rotate_left
           ·simp only [Act.put,List.setIfInBounds_toArray,List.set_cons_zero,List.set_cons_succ,Za,gb]
            rfl
           refine Jd (i:=4) (N:=some 32) (v:=?_) (a':=?_) #[true,true,true,true,true,false,false,true,true,false,false,false,false,false,false,false,false,false] rfl rfl (Fe ef.out Pn.out (by kernel_rfl)) (fun _ _ _ h=>h) (Or.inl ⟨by rfl,?_⟩) hHeld ?_ ?_
           rotate_left
           ·rintro w' ⟨s0,s1,s2,s3,s4,s5,s6,s7,s8,s9,xy⟩
            go_simp
            with_reducible rfl
           rotate_left
           ·simp only [Act.put,List.setIfInBounds_toArray,List.set_cons_zero,List.set_cons_succ,Za,gb]
            rfl
           refine Nb (i:=5) (N:=some 33) (v:=?_) (a':=?_) #[true,true,true,true,true,true,false,true,true,false,false,false,false,false,false,false,false,false] rfl rfl (Oc ef.out (by kernel_rfl)) (fun _ _ _ h=>h) (Or.inl ⟨by rfl,?_⟩) ?_ ?_
           rotate_left
           ·intro w'
            go_simp
            with_reducible rfl
           rotate_left
           ·simp only [Act.put,List.setIfInBounds_toArray,List.set_cons_zero,List.set_cons_succ,Za,gb]
            rfl
           refine Jd (i:=6) (N:=some 34) (v:=?_) (a':=?_) #[true,true,true,true,true,true,true,true,true,false,false,false,false,false,false,false,false,false] rfl rfl (Fe ef.out Pn.out (by kernel_rfl)) (fun _ _ _ h=>h) (Or.inl ⟨by rfl,?_⟩) hHeld ?_ ?_
           rotate_left
           ·rintro w' ⟨s0,s1,s2,s3,s4,s5,s6,s7,s8,s9,xy⟩
            go_simp
            with_reducible rfl
           rotate_left
           ·simp only [Act.put,List.setIfInBounds_toArray,List.set_cons_zero,List.set_cons_succ,Za,gb]
            rfl
           refine Jd (i:=9) (N:=some 37) (v:=?_) (a':=?_) #[true,true,true,true,true,true,true,true,true,true,false,false,false,false,false,false,false,false] rfl rfl (Fe ef.out Pn.out (by kernel_rfl)) (fun _ _ _ h=>h) (Or.inl ⟨by rfl,?_⟩) hHeld ?_ ?_
           rotate_left
           ·rintro w' ⟨s0,s1,s2,s3,s4,s5,s6,s7,s8,s9,xy⟩
            go_simp
            with_reducible rfl
           rotate_left
           ·simp only [Act.put,List.setIfInBounds_toArray,List.set_cons_zero,List.set_cons_succ,Za,gb]
            rfl
           refine Nb (i:=10) (N:=some 38) (v:=?_) (a':=?_) #[true,true,true,true,true,true,true,true,true,true,true,false,false,false,false,false,false,false] rfl rfl (Oc ef.out (by kernel_rfl)) (fun _ _ _ h=>h) (Or.inl ⟨by rfl,?_⟩) ?_ ?_
           rotate_left
           ·intro w'
            go_simp
            with_reducible rfl
           rotate_left
           ·simp only [Act.put,List.setIfInBounds_toArray,List.set_cons_zero,List.set_cons_succ,Za,gb]
            rfl
           refine Jd (i:=11) (N:=some 39) (v:=?_) (a':=?_) #[true,true,true,true,true,true,true,true,true,true,true,true,false,false,false,false,false,false] rfl rfl (Fe ef.out Pn.out (by kernel_rfl)) (fun _ _ _ h=>h) (Or.inl ⟨by rfl,?_⟩) hHeld ?_ ?_
           rotate_left
           ·rintro w' ⟨s0,s1,s2,s3,s4,s5,s6,s7,s8,s9,xy⟩
            go_simp
            with_reducible rfl
           rotate_left
           ·simp only [Act.put,List.setIfInBounds_toArray,List.set_cons_zero,List.set_cons_succ,Za,gb]
            rfl
           refine gh (i:=12) (N:=some 40) #[true,true,true,true,true,true,true,true,true,true,true,true,true,false,false,false,false,false] rfl rfl (Mk ef.out (by kernel_rfl)) (by decide) (fun K hK=>?_)
           refine Gn Try.func106 (by kernel_rfl) rfl #[.string ld,.agg #[.int .i64 ((Ad l1 Ma).f0),.int .i64 ((Ad l1 Ma).f1)],.agg #[.int .i64 ((Ad l1 Oa).f0),.int .i64 ((Ad l1 Oa).f1)]] (by rfl) rfl rfl (by (try simp only [List.map_toArray,List.map_cons,List.map_nil]);first|done|rfl|(simp only [List.length_drop,List.length_take];rfl)) ?_
           with_reducible refine (Cb.calls k ld ((Ad l1 Ma).f0) ((Ad l1 Ma).f1) ((Ad l1 Oa).f0) ((Ad l1 Oa).f1) t108 t109 false _ A44.out).mono ?_
           rintro e MN ⟨rfl,hb⟩
           have jR:=(hb.cell (World.block_lt_of_cell? _ _ (hHeld.2.2.2.2.2.2.2.1))).trans (hHeld.2.2.2.2.2.2.2.1)
           have iR:=(hb.cell (World.block_lt_of_cell? _ _ (hHeld.2.2.2.2.2.2.2.2.1))).trans (hHeld.2.2.2.2.2.2.2.2.1)
           have gR:=(hb.cell (World.block_lt_of_cell? _ _ (hHeld.2.2.2.2.2.2.2.2.2.1))).trans (hHeld.2.2.2.2.2.2.2.2.2.1)
           have xJ:=(hb.cell (World.block_lt_of_cell? _ _ (hHeld.2.2.2.2.2.2.2.2.2.2))).trans (hHeld.2.2.2.2.2.2.2.2.2.2)
           refine ⟨_,rfl,?_⟩
           have Pb:=qa.mk (Kd.Ge (by (with_reducible repeat (first|apply Kd.Qc|apply Kd.Pc|apply Kd.xd));exact Ce.out) hb)
           have Wb:=qa.mk (Wa (g:=Fa) (o:=.cells #[.int .i64 Ec,.int .i64 Ja,.int .i64 Ma,.int .i64 Oa,.int .i64 fc,.int .i64 qd,.string ld] 70 (0,0)) (by (with_reducible repeat (first|refine Ea ?_ _|refine Ga ?_|refine Da ?_ _));exact ua.out) hb)
           have nc:=qa.mk (Wa (g:=Ia) (o:=.cells #[.int .i64 0,.int .i64 0] 77 (0,0)) (by (with_reducible repeat (first|refine Ea ?_ _|refine Ga ?_|refine Da ?_ _));exact Ba.out) hb)
           have Nc:=qa.mk (Kept.below (S:=(fun k_=>Vh k_)) (by repeat (first|(with_reducible first|exact HK.out|apply Kept.alloc|apply Kept.drewN|apply Kept.drew|refine Kept.setCell ?_ (.inr Nd.out) _|refine Kept.setCell ?_ (.inr Je.out) _)|exact HK.out)) hb)
           have qe:=qa.mk (Pa (by repeat (first|(with_reducible first|exact HB.out|apply ia|apply ja|apply za|refine Aa ?_ Va.out|refine Aa ?_ Vb.out)|exact HB.out)) hb)
           clear Ce
           clear ua
           clear Ba
           clear HK
           clear HB
           have Ce:=Pb
           have ua:=Wb
           have Ba:=nc
           have HK:=Nc
           have HB:=qe
           clear Pb Wb nc Nc qe
           (try clear hb)
           (try clear hb2)
           (try clear hk)
           (try clear hi)
           refine hK.out _ _ ⟨(ga ua.out 0).trans rfl,(ga ua.out 1).trans rfl,(ga ua.out 2).trans rfl,(ga ua.out 3).trans rfl,(ga ua.out 4).trans rfl,(ga ua.out 5).trans rfl,(ga ua.out 6).trans rfl,jR,iR,gR,xJ⟩ (fun hHeld=>?_)
           clear hK K
           refine Xd (a':=?_) ?_ ?_
           rotate_left
           ·show Act.put _ (some 40) _=_
            simp only [Act.put,List.setIfInBounds_toArray,List.set_cons_zero,List.set_cons_succ,Za,gb]
            rfl
           refine Nb (i:=13) (N:=some 27) (v:=?_) (a':=?_) #[true,true,true,true,true,true,true,true,true,true,true,true,true,true,false,false,false,false] rfl rfl (Oc ef.out (by kernel_rfl)) (fun _ _ _ h=>h) (Or.inl ⟨by rfl,?_⟩) ?_ ?_
           rotate_left
           ·intro w'
            go_simp
            with_reducible rfl
           rotate_left
           ·simp only [Act.put,List.setIfInBounds_toArray,List.set_cons_zero,List.set_cons_succ,Za,gb]
            rfl
           refine Nb (i:=14) (N:=some 41) (v:=?_) (a':=?_) #[true,true,true,true,true,true,true,true,true,true,true,true,true,true,true,false,false,false] rfl rfl (Oc ef.out (by kernel_rfl)) (fun _ _ _ h=>h) (Or.inl ⟨by rfl,?_⟩) ?_ ?_
           rotate_left
           ·intro w'
            go_simp
            with_reducible rfl
           rotate_left
           ·simp only [Act.put,List.setIfInBounds_toArray,List.set_cons_zero,List.set_cons_succ,Za,gb]
            rfl
           refine Nb (i:=15) (N:=some 42) (v:=?_) (a':=?_) #[true,true,true,true,true,true,true,true,true,true,true,true,true,true,true,true,false,false] rfl rfl (Oc ef.out (by kernel_rfl)) (fun _ _ _ h=>h) (Or.inl ⟨by rfl,?_⟩) ?_ ?_
           rotate_left
           ·intro w'
            go_simp
            with_reducible rfl
           rotate_left
           ·simp only [Act.put,List.setIfInBounds_toArray,List.set_cons_zero,List.set_cons_succ,Za,gb]
            rfl
           refine gh (i:=16) (N:=none) #[true,true,true,true,true,true,true,true,true,true,true,true,true,true,true,true,true,false] rfl rfl (Mk ef.out (by kernel_rfl)) (by decide) (fun K hK=>?_)
           have Gae:MN.cell? ⟨Ia,0,none⟩=some (.int .i64 0):=(ga Ba.out 0).trans rfl
           have jad:=aa Ba.out 0
           have fY:=Sa.out
           have jY:=qb.out
           have Fae:MN.cell? ⟨Ia,1,none⟩=some (.int .i64 0):=(ga Ba.out 1).trans rfl
           have iad:=aa Ba.out 1
           have eY:=Sa.out
           have iY:=qb.out
           refine si (w1:=?_) (by rfl) rfl ?_ ?_
           rotate_left
           ·go_simp
            rfl
           refine hK.out _ _ ⟨((cell_far (p:=⟨Ia,_,none⟩) Sa.out _).trans (((cell_far (p:=⟨Ia,_,none⟩) Sa.out _).trans (hHeld.1)))),((cell_far (p:=⟨Ia,_,none⟩) Sa.out _).trans (((cell_far (p:=⟨Ia,_,none⟩) Sa.out _).trans (hHeld.2.1)))),((cell_far (p:=⟨Ia,_,none⟩) Sa.out _).trans (((cell_far (p:=⟨Ia,_,none⟩) Sa.out _).trans (hHeld.2.2.1)))),((cell_far (p:=⟨Ia,_,none⟩) Sa.out _).trans (((cell_far (p:=⟨Ia,_,none⟩) Sa.out _).trans (hHeld.2.2.2.1)))),((cell_far (p:=⟨Ia,_,none⟩) Sa.out _).trans (((cell_far (p:=⟨Ia,_,none⟩) Sa.out _).trans (hHeld.2.2.2.2.1)))),((cell_far (p:=⟨Ia,_,none⟩) Sa.out _).trans (((cell_far (p:=⟨Ia,_,none⟩) Sa.out _).trans (hHeld.2.2.2.2.2.1)))),((cell_far (p:=⟨Ia,_,none⟩) Sa.out _).trans (((cell_far (p:=⟨Ia,_,none⟩) Sa.out _).trans (hHeld.2.2.2.2.2.2.1)))),((cell_far (p:=⟨Ia,_,none⟩) (by first|exact Kd.Wc (Kd.Ed Ce.out (fun _ hk=>hk.2))|(rw [Yd];exact Kd.Wc (Kd.Ed Ce.out (fun _ hk=>hk.2)))|(show (Addr.add _ _).block ≠ _;rw [Yd];exact Kd.Wc (Kd.Ed Ce.out (fun _ hk=>hk.2)))|(dsimp only;exact Kd.Wc (Kd.Ed Ce.out (fun _ hk=>hk.2)))) _).trans (((cell_far (p:=⟨Ia,_,none⟩) (by first|exact Kd.Wc (Kd.Ed Ce.out (fun _ hk=>hk.2))|(rw [Yd];exact Kd.Wc (Kd.Ed Ce.out (fun _ hk=>hk.2)))|(show (Addr.add _ _).block ≠ _;rw [Yd];exact Kd.Wc (Kd.Ed Ce.out (fun _ hk=>hk.2)))|(dsimp only;exact Kd.Wc (Kd.Ed Ce.out (fun _ hk=>hk.2)))) _).trans (hHeld.2.2.2.2.2.2.2.1)))),((cell_far (p:=⟨Ia,_,none⟩) (by first|exact Kd.Wc (Kd.Ed Ce.out (fun _ hk=>hk.2))|(rw [Yd];exact Kd.Wc (Kd.Ed Ce.out (fun _ hk=>hk.2)))|(show (Addr.add _ _).block ≠ _;rw [Yd];exact Kd.Wc (Kd.Ed Ce.out (fun _ hk=>hk.2)))|(dsimp only;exact Kd.Wc (Kd.Ed Ce.out (fun _ hk=>hk.2)))) _).trans (((cell_far (p:=⟨Ia,_,none⟩) (by first|exact Kd.Wc (Kd.Ed Ce.out (fun _ hk=>hk.2))|(rw [Yd];exact Kd.Wc (Kd.Ed Ce.out (fun _ hk=>hk.2)))|(show (Addr.add _ _).block ≠ _;rw [Yd];exact Kd.Wc (Kd.Ed Ce.out (fun _ hk=>hk.2)))|(dsimp only;exact Kd.Wc (Kd.Ed Ce.out (fun _ hk=>hk.2)))) _).trans (hHeld.2.2.2.2.2.2.2.2.1)))),((cell_far (p:=⟨Ia,_,none⟩) (by first|exact Kd.Wc (Kd.Ed Ce.out (fun _ hk=>hk.2))|(rw [Yd];exact Kd.Wc (Kd.Ed Ce.out (fun _ hk=>hk.2)))|(show (Addr.add _ _).block ≠ _;rw [Yd];exact Kd.Wc (Kd.Ed Ce.out (fun _ hk=>hk.2)))|(dsimp only;exact Kd.Wc (Kd.Ed Ce.out (fun _ hk=>hk.2)))) _).trans (((cell_far (p:=⟨Ia,_,none⟩) (by first|exact Kd.Wc (Kd.Ed Ce.out (fun _ hk=>hk.2))|(rw [Yd];exact Kd.Wc (Kd.Ed Ce.out (fun _ hk=>hk.2)))|(show (Addr.add _ _).block ≠ _;rw [Yd];exact Kd.Wc (Kd.Ed Ce.out (fun _ hk=>hk.2)))|(dsimp only;exact Kd.Wc (Kd.Ed Ce.out (fun _ hk=>hk.2)))) _).trans (hHeld.2.2.2.2.2.2.2.2.2.1)))),((cell_far (p:=⟨Ia,_,none⟩) (by first|exact Kd.Wc (Kd.Ed Ce.out (fun _ hk=>hk.2))|(rw [Yd];exact Kd.Wc (Kd.Ed Ce.out (fun _ hk=>hk.2)))|(show (Addr.add _ _).block ≠ _;rw [Yd];exact Kd.Wc (Kd.Ed Ce.out (fun _ hk=>hk.2)))|(dsimp only;exact Kd.Wc (Kd.Ed Ce.out (fun _ hk=>hk.2)))) _).trans (((cell_far (p:=⟨Ia,_,none⟩) (by first|exact Kd.Wc (Kd.Ed Ce.out (fun _ hk=>hk.2))|(rw [Yd];exact Kd.Wc (Kd.Ed Ce.out (fun _ hk=>hk.2)))|(show (Addr.add _ _).block ≠ _;rw [Yd];exact Kd.Wc (Kd.Ed Ce.out (fun _ hk=>hk.2)))|(dsimp only;exact Kd.Wc (Kd.Ed Ce.out (fun _ hk=>hk.2)))) _).trans (hHeld.2.2.2.2.2.2.2.2.2.2))))⟩ (fun hHeld=>?_)
           clear hK K
           refine Nb (i:=17) (N:=some 8) (v:=?_) (a':=?_) #[true,true,true,true,true,true,true,true,true,true,true,true,true,true,true,true,true,true] rfl rfl (Oc ef.out (by kernel_rfl)) (fun _ _ _ h=>h) (Or.inl ⟨by rfl,?_⟩) ?_ ?_
           rotate_left
           ·intro w'
            go_simp
            with_reducible rfl
           rotate_left
           ·simp only [Act.put,List.setIfInBounds_toArray,List.set_cons_zero,List.set_cons_succ,Za,gb]
            rfl
           refine Yh (Oj ef.out (by kernel_rfl)) ?_
           have Pb:qa (Kd.R ak 77 ((MN.setCell ⟨Ia,0,none⟩ (.int .i64 t108)).setCell ⟨Ia,1,none⟩ (.int .i64 t109)) w0.heap.size (fun k_=>(Vh k_ ∨ w.heap.size ≤ k_)∧k_ ≠ Ia) (.slice (some Pj) l1.length wN) l1):=⟨by (with_reducible repeat (first|apply Kd.Qc|apply Kd.Pc|apply Kd.xd));exact Kd.ke (Kd.He (p:=⟨Ia,1,none⟩) (Kd.He (p:=⟨Ia,0,none⟩) (Kd.ke Ce.out (fun k_ hk=>(⟨hk,hk.2⟩:_∧k_ ≠ Ia))) (fun _ hk=>hk.2) (.int .i64 t108)) (fun _ hk=>hk.2) (.int .i64 t109)) (fun _ hk=>⟨hk.1.1,hk.1.2⟩)⟩
           have Wb:qa (((MN.setCell ⟨Ia,0,none⟩ (.int .i64 t108)).setCell ⟨Ia,1,none⟩ (.int .i64 t109)).heap[Fa]? = some (.cells #[.int .i64 Ec,.int .i64 Ja,.int .i64 Ma,.int .i64 Oa,.int .i64 fc,.int .i64 qd,.string ld] 70 (0,0))):=⟨by (with_reducible repeat (first|refine Ea ?_ _|refine Ga ?_|refine Da ?_ _));refine Rb ?_ Sa.out _;(with_reducible repeat (first|refine Ea ?_ _|refine Ga ?_|refine Da ?_ _));refine Rb ?_ Sa.out _;(with_reducible repeat (first|refine Ea ?_ _|refine Ga ?_|refine Da ?_ _));exact ua.out⟩
           have nc:qa (((MN.setCell ⟨Ia,0,none⟩ (.int .i64 t108)).setCell ⟨Ia,1,none⟩ (.int .i64 t109)).heap[Ia]? = some (.cells #[.int .i64 t108,.int .i64 t109] 77 (0,0))):=⟨by (with_reducible repeat (first|refine Ea ?_ _|refine Ga ?_|refine Da ?_ _));refine Db (cs:=#[.int .i64 t108,.int .i64 0]) ?_ 1 _ rfl;(with_reducible repeat (first|refine Ea ?_ _|refine Ga ?_|refine Da ?_ _));refine Db (cs:=#[.int .i64 0,.int .i64 0]) ?_ 0 _ rfl;(with_reducible repeat (first|refine Ea ?_ _|refine Ga ?_|refine Da ?_ _));exact Ba.out⟩
           have Nc:qa (Kept w ((MN.setCell ⟨Ia,0,none⟩ (.int .i64 t108)).setCell ⟨Ia,1,none⟩ (.int .i64 t109)) (fun k_=>Vh k_)):=⟨by repeat (first|(with_reducible first|exact HK.out|apply Kept.alloc|apply Kept.drewN|apply Kept.drew|refine Kept.setCell ?_ (.inr Nd.out) _|refine Kept.setCell ?_ (.inr Je.out) _)|exact HK.out)⟩
           have qe:qa (Below w0.heap.size w0 ((MN.setCell ⟨Ia,0,none⟩ (.int .i64 t108)).setCell ⟨Ia,1,none⟩ (.int .i64 t109))):=⟨by repeat (first|(with_reducible first|exact HB.out|apply ia|apply ja|apply za|refine Aa ?_ Va.out|refine Aa ?_ Vb.out)|exact HB.out)⟩
           (try clear Ce)
           (try clear ua)
           (try clear Ba)
           (try clear HK)
           (try clear HB)
           generalize ((MN.setCell ⟨Ia,0,none⟩ (.int .i64 t108)).setCell ⟨Ia,1,none⟩ (.int .i64 t109))=w79 at Pb Wb nc Nc qe ⊢
           have Ce:=Pb
           have ua:=Wb
           have Ba:=nc
           have HK:=Nc
           have HB:=qe
           clear Pb Wb nc Nc qe
           have KE:w79.cell? ⟨Ia,0,none⟩=some (.int .i64 t108):=(ga Ba.out 0).trans rfl
           have JE:w79.cell? ⟨Ia,1,none⟩=some (.int .i64 t109):=(ga Ba.out 1).trans rfl
           have rD:=aa Ba.out 0
           have qD:=aa Ba.out 1
           try go_wp2_with (first|((with_reducible refine Rf (t:=77) (p:=7) rfl ?_);refine Bf (t:=77) (p:=7) (v:=?vo_w81) (w1:=((w79.setCell ⟨Ia,0,none⟩ (.int .i64 a2)).setCell ⟨Ia,1,none⟩ (.int .i64 0))) ?hg ?ho ?hn ?hr ?_;(case ho=>rfl);(case hg=>rfl);(case hn=>rfl);(case hr=>first|(go_simp;done)|(go_simp;rfl));intro Ix hw;have Pb:qa (Kd.R ak 77 Ix w0.heap.size (fun k_=>(Vh k_ ∨ w.heap.size ≤ k_)∧k_ ≠ Ia) (.slice (some Pj) l1.length wN) l1):=⟨(by rw [hw];exact (by (with_reducible repeat (first|apply Kd.Qc|apply Kd.Pc|apply Kd.xd));exact Kd.ke (Kd.He (p:=⟨Ia,1,none⟩) (Kd.He (p:=⟨Ia,0,none⟩) (Kd.ke Ce.out (fun k_ hk=>(⟨hk,hk.2⟩:_∧k_ ≠ Ia))) (fun _ hk=>hk.2) (.int .i64 a2)) (fun _ hk=>hk.2) (.int .i64 0)) (fun _ hk=>⟨hk.1.1,hk.1.2⟩)))⟩;have Wb:qa (Ix.heap[Fa]? = some (.cells #[.int .i64 Ec,.int .i64 Ja,.int .i64 Ma,.int .i64 Oa,.int .i64 fc,.int .i64 qd,.string ld] 70 (0,0))):=⟨(by rw [hw];exact (by (with_reducible repeat (first|refine Ea ?_ _|refine Ga ?_|refine Da ?_ _));refine Rb ?_ Sa.out _;(with_reducible repeat (first|refine Ea ?_ _|refine Ga ?_|refine Da ?_ _));refine Rb ?_ Sa.out _;(with_reducible repeat (first|refine Ea ?_ _|refine Ga ?_|refine Da ?_ _));exact ua.out))⟩;have nc:qa (Ix.heap[Ia]? = some (.cells #[.int .i64 a2,.int .i64 0] 77 (0,0))):=⟨(by rw [hw];exact (by (with_reducible repeat (first|refine Ea ?_ _|refine Ga ?_|refine Da ?_ _));refine Db (cs:=#[.int .i64 a2,.int .i64 t109]) ?_ 1 _ rfl;(with_reducible repeat (first|refine Ea ?_ _|refine Ga ?_|refine Da ?_ _));refine Db (cs:=#[.int .i64 t108,.int .i64 t109]) ?_ 0 _ rfl;(with_reducible repeat (first|refine Ea ?_ _|refine Ga ?_|refine Da ?_ _));exact Ba.out))⟩;have Nc:qa (Kept w Ix (fun k_=>Vh k_)):=⟨(by rw [hw];exact (by repeat (first|(with_reducible first|exact HK.out|apply Kept.alloc|apply Kept.drewN|apply Kept.drew|refine Kept.setCell ?_ (.inr Nd.out) _|refine Kept.setCell ?_ (.inr Je.out) _)|exact HK.out)))⟩;have qe:qa (Below w0.heap.size w0 Ix):=⟨(by rw [hw];exact (by repeat (first|(with_reducible first|exact HB.out|apply ia|apply ja|apply za|refine Aa ?_ Va.out|refine Aa ?_ Vb.out)|exact HB.out)))⟩;clear hw;clear Ce;clear ua;clear Ba;clear HK;clear HB;have Ce:=Pb;have ua:=Wb;have Ba:=nc;have HK:=Nc;have HB:=qe;clear Pb Wb nc Nc qe;have IE:Ix.cell? ⟨Fa,0,none⟩=some (.int .i64 Ec):=(ga ua.out 0).trans rfl;have HE:Ix.cell? ⟨Fa,1,none⟩=some (.int .i64 Ja):=(ga ua.out 1).trans rfl;have FE:Ix.cell? ⟨Fa,2,none⟩=some (.int .i64 Ma):=(ga ua.out 2).trans rfl;have EE:Ix.cell? ⟨Fa,3,none⟩=some (.int .i64 Oa):=(ga ua.out 3).trans rfl;have DE:Ix.cell? ⟨Fa,4,none⟩=some (.int .i64 fc):=(ga ua.out 4).trans rfl;have CE:Ix.cell? ⟨Fa,5,none⟩=some (.int .i64 qd):=(ga ua.out 5).trans rfl;have AE:Ix.cell? ⟨Fa,6,none⟩=some (.string ld):=(ga ua.out 6).trans rfl;have oD:=aa ua.out 0;have nD:=aa ua.out 1;have mD:=aa ua.out 2;have lD:=aa ua.out 3;have kD:=aa ua.out 4;have jD:=aa ua.out 5;have iD:=aa ua.out 6;have aM:Ix.cell? ⟨Ia,0,none⟩=some (.int .i64 a2):=(ga Ba.out 0).trans rfl;have ZL:Ix.cell? ⟨Ia,1,none⟩=some (.int .i64 0):=(ga Ba.out 1).trans rfl;have tK:=aa Ba.out 0;have sK:=aa Ba.out 1;have SR:0 ≤ (Ja:Int):=of_decide_eq_true (by first|(with_reducible assumption)|assumption);have PR:(Ja:Int) < ((l1.length:Int):Int):=of_decide_eq_true (by first|(with_reducible assumption)|assumption);obtain ⟨Xw,caf,DW,tW,xaa,haf,CX⟩:=Kd.Mp Ce.out (by omega);(first|cases DW|(injection DW with ea_ en_ ec_;(first|subst ea_|(injection ea_ with ea_;subst ea_));subst ec_;clear en_));have IX:=qa.mk tW;have zaf:=qa.mk CX;clear tW xaa CX;have Xaa:=qa.mk (show (Vh Xw ∨ w.heap.size ≤ Xw) from (Ce.out.1 _ rfl).1);(first|simp only [add_plain] at Gi|skip);(first|simp only [add_plain] at Ei|skip);(first|simp only [add_plain] at ym|skip);(first|simp only [add_plain] at xm|skip);obtain ⟨maf,cW,kW,PI,uI⟩:=Kd.Sj Ce.out bH (Ja:Int) SR PR;obtain rfl:=Fh kW;have tP:Ix.cell? ⟨Xw,(Ja:Int).toNat * 2,none⟩=some (.int .i64 ((Ad l1 Ja).f0)):=PI 0 _ rfl;have sP:Ix.cell? ⟨Xw,(Ja:Int).toNat * 2 + 1,none⟩=some (.int .i64 ((Ad l1 Ja).f1)):=PI 1 _ rfl;have S_:Ix.frozen? ⟨Xw,(Ja:Int).toNat * 2,none⟩=false:=uI 0;have R_:Ix.frozen? ⟨Xw,(Ja:Int).toNat * 2 + 1,none⟩=false:=uI 1;clear cW PI uI kW;replace SR:=eq_true SR;replace PR:=eq_true PR;have vX:=qa.mk (show Kd.R ak 77 Ix w0.heap.size (fun k_=>(Vh k_ ∨ w.heap.size ≤ k_)∧k_ ≠ Ia) (.slice (some ⟨Xw,0,none⟩) l1.length wN) l1 from (by (with_reducible repeat (first|apply Kd.Qc|apply Kd.Pc|apply Kd.xd));exact Ce.out));obtain ⟨laf,fO,jW,VF,tI⟩:=Kd.Sj vX.out bH (Ja:Int) (of_decide_eq_true (by first|(with_reducible assumption)|assumption)) (by have h_:(Ja:Int) < ((l1.length:Int):Int):=of_decide_eq_true (by first|(with_reducible assumption)|assumption);first|exact h_|(have e_:=(Kd.ee Ce.out).1;omega)|simpa using h_);obtain rfl:=Fh jW;have kR:=Kd.qu vX.out (Ja:Int) (of_decide_eq_true (by first|(with_reducible assumption)|assumption)) (by have h_:(Ja:Int) < ((l1.length:Int):Int):=of_decide_eq_true (by first|(with_reducible assumption)|assumption);first|exact h_|(have e_:=(Kd.ee Ce.out).1;omega)|simpa using h_) (seg:=[.int .i64 a2,.int .i64 0]) (j:=0) fO VF (show 2 ≤ 2 from by decide) (x':=(⟨a2,0⟩:Ph)) (Xp _ _ _ (⟨a2,0⟩:Ph) ) (fun _ hk=>hk);have SH:=VF 0 _ rfl;(try simp only [show (ak).sz=2 from rfl,Nat.mul_one,Nat.add_zero] at SH);have VP:=tI 0;(try simp only [show (ak).sz=2 from rfl,Nat.mul_one,Nat.add_zero] at VP);have RH:=VF 1 _ rfl;(try simp only [show (ak).sz=2 from rfl,Nat.mul_one,Nat.add_zero] at RH);have TP:=tI 1;(try simp only [show (ak).sz=2 from rfl,Nat.mul_one,Nat.add_zero] at TP);clear fO VF tI jW)|((with_reducible refine Rf (t:=77) (p:=56) rfl ?_);refine Bf (t:=77) (p:=56) (v:=?vo_w85) (w1:=((Ix.setCell ⟨Xw,(Ja:Int).toNat * 2,none⟩ (.int .i64 a2)).setCell ⟨Xw,(Ja:Int).toNat * 2 + 1,none⟩ (.int .i64 0))) ?hg ?ho ?hn ?hr ?_;(case ho=>rfl);(case hg=>rfl);(case hn=>rfl);(case hr=>first|(go_simp;done)|(go_simp;rfl));intro m9 hw;have hg:Ix.grownBy m9 (some Xw):=(by rw [hw];exact kR.2);have Sw:Kd.R ak 77 m9 w0.heap.size (fun k_=>(Vh k_ ∨ w.heap.size ≤ k_)∧k_ ≠ Ia) (.slice (some ⟨Xw,0,none⟩) l1.length wN) y112:=(by rw [hw,dB.out];exact kR.1);clear kR;have Pb:=qa.mk (Sw);have Wb:=qa.mk (qh (g:=Fa) (o:=.cells #[.int .i64 Ec,.int .i64 Ja,.int .i64 Ma,.int .i64 Oa,.int .i64 fc,.int .i64 qd,.string ld] 70 (0,0)) (by (with_reducible repeat (first|refine Ea ?_ _|refine Ga ?_|refine Da ?_ _));exact ua.out) hg (Kd.Qx Ce.out ua.out (by decide)));have nc:=qa.mk (qh (g:=Ia) (o:=.cells #[.int .i64 a2,.int .i64 0] 77 (0,0)) (by (with_reducible repeat (first|refine Ea ?_ _|refine Ga ?_|refine Da ?_ _));exact Ba.out) hg (Kd.Ed Ce.out (fun _ hk=>hk.2)));have Nc:=qa.mk ((by rw [hw];exact Aa (Aa (HB.out) IX.out) IX.out:Below w0.heap.size w0 m9));have qe:=qa.mk (Kept.Cn (S:=(fun k_=>Vh k_)) hg (by repeat (first|(with_reducible first|exact HK.out|apply Kept.alloc|apply Kept.drewN|apply Kept.drew|refine Kept.setCell ?_ (.inr Nd.out) _|refine Kept.setCell ?_ (.inr Je.out) _)|exact HK.out)) (fun k_ e_=>(Ce.out.1 k_ e_).1));clear Ce;clear ua;clear Ba;clear HB;clear HK;have Ce:=Pb;have ua:=Wb;have Ba:=nc;have HB:=Nc;have HK:=qe;clear Pb Wb nc Nc qe;clear hg hw Sw))
           go_ret
           exact ⟨by first|rfl|(simp [La,Ka] <;> rfl)|(simp [*,La,Ka] <;> rfl),by (with_reducible repeat (first|apply Kd.Qc|apply Kd.Pc|apply Kd.xd));exact Kd.ke Ce.out (fun _ hk=>hk.1),by repeat (first|(with_reducible first|exact HB.out|apply ia|apply ja|apply za|refine Aa ?_ Va.out|refine Aa ?_ Vb.out)|exact HB.out),by repeat (first|(with_reducible first|exact HK.out|apply Kept.alloc|apply Kept.drewN|apply Kept.drew|refine Kept.setCell ?_ (.inr Nd.out) _|refine Kept.setCell ?_ (.inr Je.out) _)|exact HK.out)⟩
          ·rw [if_neg c66] at H
           exact absurd H (by simp)
         ·rw [if_neg c65] at H
          exact absurd H (by simp)
       ·rw [if_neg c43] at H
        exact absurd H (by simp)
      ·rw [if_neg c42] at H
       exact absurd H (by simp)
     ·rw [if_neg c41] at H
      exact absurd H (by simp)
    ·rw [if_neg c40] at H
     exact absurd H (by simp)
   ·rw [if_neg c39] at H
    have pO:(Ec == 2)=false:=beq_eq_false_iff_ne.mpr c39
    have oO:(Ec != 2)=true:=bne_iff_ne.mpr c39
    have pR:=qa.mk H
    clear H
    go_enter Try.func78,Try.ntmps78
    go_upto_if 43 with (first|((with_reducible refine Mb (N:=3) rfl ?_);refine Jb ?hg (N:=3) ?hd (cs:=#[.int .i64 Ec,.int .i64 Ja,.int .i64 Ma,.int .i64 Oa,.int .i64 fc,.int .i64 qd,.string ld]) (t:=70) ?hr ?_;(case hd=>rfl);(case hg=>rfl);(case hr=>first|(go_simp;done)|(go_simp;rfl));intro Fa hg w87 Qb hb;have Pb:=qa.mk (Kd.Ge (by (with_reducible repeat (first|apply Kd.Qc|apply Kd.Pc|apply Kd.xd));exact Ce.out) hb);have Wb:=qa.mk (Kept.below (S:=(fun k_=>Vh k_)) (by repeat (first|(with_reducible first|exact HK.out|apply Kept.alloc|apply Kept.drewN|apply Kept.drew)|exact HK.out)) hb);have nc:=qa.mk (Pa (by repeat (first|(with_reducible first|exact HB.out|apply ia|apply ja|apply za)|exact HB.out)) hb);have Nc:=qa.mk (Qb);have qe:=qa.mk ((by rw [hg];exact (by first|exact HK.out.1|exact (show Kept w _ (fun k_=>Vh k_) from by repeat (first|(with_reducible first|exact HK.out|apply Kept.alloc|apply Kept.drewN|apply Kept.drew)|exact HK.out)).1):w.heap.size ≤ Fa));have lf:=qa.mk ((by rw [hg];exact (Na (by repeat (first|(with_reducible first|exact HB.out|apply ia|apply ja|apply za)|exact HB.out))):w0.heap.size ≤ Fa));clear Ce;clear HK;clear HB;have Ce:=Pb;have HK:=Wb;have HB:=nc;have ua:=Nc;have Nd:=qe;have Va:=lf;clear Pb Wb nc Nc qe lf;clear hb Qb hg)|((with_reducible refine Mb (N:=7) rfl ?_);refine Jb ?hg (N:=7) ?hd (cs:=#[.int .i64 0,.int .i64 0]) (t:=77) ?hr ?_;(case hd=>rfl);(case hg=>rfl);(case hr=>first|(go_simp;done)|(go_simp;rfl));intro Ia hg TJ Qb hb;have Pb:=qa.mk (Kd.Ge (Kd.Np (by (with_reducible repeat (first|apply Kd.Qc|apply Kd.Pc|apply Kd.xd));exact Ce.out) Ia (Nat.le_of_eq hg.symm)) hb);have Wb:=qa.mk (Wa (g:=Fa) (o:=.cells #[.int .i64 Ec,.int .i64 Ja,.int .i64 Ma,.int .i64 Oa,.int .i64 fc,.int .i64 qd,.string ld] 70 (0,0)) (by (with_reducible repeat (first|refine Ea ?_ _|refine Ga ?_|refine Da ?_ _));exact ua.out) hb);have nc:=qa.mk (Kept.below (S:=(fun k_=>Vh k_)) (by repeat (first|(with_reducible first|exact HK.out|apply Kept.alloc|apply Kept.drewN|apply Kept.drew|refine Kept.setCell ?_ (.inr Nd.out) _)|exact HK.out)) hb);have Nc:=qa.mk (Pa (by repeat (first|(with_reducible first|exact HB.out|apply ia|apply ja|apply za|refine Aa ?_ Va.out)|exact HB.out)) hb);have qe:=qa.mk (Qb);have lf:=qa.mk ((by rw [hg];exact (by first|exact HK.out.1|exact (show Kept w _ (fun k_=>Vh k_) from by repeat (first|(with_reducible first|exact HK.out|apply Kept.alloc|apply Kept.drewN|apply Kept.drew|refine Kept.setCell ?_ (.inr Nd.out) _)|exact HK.out)).1):w.heap.size ≤ Ia));have Hf:=qa.mk ((by rw [hg];exact (Na (by repeat (first|(with_reducible first|exact HB.out|apply ia|apply ja|apply za|refine Aa ?_ Va.out)|exact HB.out))):w0.heap.size ≤ Ia));have lp:=qa.mk ((by rw [hg];exact Nat.ne_of_lt (Ac (g:=Fa) (o:=.cells #[.int .i64 Ec,.int .i64 Ja,.int .i64 Ma,.int .i64 Oa,.int .i64 fc,.int .i64 qd,.string ld] 70 (0,0)) (by (with_reducible repeat (first|refine Ea ?_ _|refine Ga ?_|refine Da ?_ _));exact ua.out)):Fa ≠ Ia));have gp:=qa.mk ((by rw [hg];exact Nat.ne_of_gt (Ac (g:=Fa) (o:=.cells #[.int .i64 Ec,.int .i64 Ja,.int .i64 Ma,.int .i64 Oa,.int .i64 fc,.int .i64 qd,.string ld] 70 (0,0)) (by (with_reducible repeat (first|refine Ea ?_ _|refine Ga ?_|refine Da ?_ _));exact ua.out)):Ia ≠ Fa));clear Ce;clear ua;clear HK;clear HB;have Ce:=Pb;have ua:=Wb;have HK:=nc;have HB:=Nc;have Ba:=qe;have Je:=lf;have Vb:=Hf;have Sa:=lp;have qb:=gp;clear Pb Wb nc Nc qe lf Hf lp gp;clear hb Qb hg;have wS:=qb.out;have cS:=Sa.out;have zE:TJ.cell? ⟨Ia,0,none⟩=some (.int .i64 0):=(ga Ba.out 0).trans rfl;have yE:TJ.cell? ⟨Ia,1,none⟩=some (.int .i64 0):=(ga Ba.out 1).trans rfl;have hD:=aa Ba.out 0;have gD:=aa Ba.out 1;have YL:TJ.cell? ⟨Fa,0,none⟩=some (.int .i64 Ec):=(ga ua.out 0).trans rfl;have XL:TJ.cell? ⟨Fa,1,none⟩=some (.int .i64 Ja):=(ga ua.out 1).trans rfl;have WL:TJ.cell? ⟨Fa,2,none⟩=some (.int .i64 Ma):=(ga ua.out 2).trans rfl;have VL:TJ.cell? ⟨Fa,3,none⟩=some (.int .i64 Oa):=(ga ua.out 3).trans rfl;have UL:TJ.cell? ⟨Fa,4,none⟩=some (.int .i64 fc):=(ga ua.out 4).trans rfl;have TL:TJ.cell? ⟨Fa,5,none⟩=some (.int .i64 qd):=(ga ua.out 5).trans rfl;have SL:TJ.cell? ⟨Fa,6,none⟩=some (.string ld):=(ga ua.out 6).trans rfl;have rK:=aa ua.out 0;have qK:=aa ua.out 1;have pK:=aa ua.out 2;have oK:=aa ua.out 3;have nK:=aa ua.out 4;have mK:=aa ua.out 5;have lK:=aa ua.out 6))
    (try simp only [Act.put,List.setIfInBounds_toArray,List.set_cons_zero,List.set_cons_succ])
    go_cut [43] (fun v43 wc=>∃ (kq:Nat) (oy:Bool),v43 = .bool oy∧qa (Zb.j0 kq l1 a2 oy Ec Ja Ma Oa fc qd ld=some (r1,r2))∧qa (kq ≤ k)∧qa (Kd.R ak 77 wc w0.heap.size (fun k_=>(Vh k_ ∨ w.heap.size ≤ k_)∧k_ ≠ Ia) Ml l1)∧qa (wc.heap[Fa]? = some (.cells #[.int .i64 Ec,.int .i64 Ja,.int .i64 Ma,.int .i64 Oa,.int .i64 fc,.int .i64 qd,.string ld] 70 (0,0)))∧qa (wc.heap[Ia]? = some (.cells #[.int .i64 0,.int .i64 0] 77 (0,0)))∧qa (Kept w wc (fun k_=>Vh k_))∧qa (Below w0.heap.size w0 wc))
    case first =>
     have H:=pR.out
     clear pR
     by_cases c92:Ec=3
     ·rw [if_pos c92] at H
      have nu:(Ec == 3)=true:=beq_iff_eq.mpr c92
      have dG:(Ec != 3)=false:=bne_eq_false_iff_eq.mpr c92
      clear c92
      (first|rw [nu]|(simp only [Za,gb];rw [nu])|skip)
      have H':=qa.mk H
      clear H
      go_wp2
      go_meet
      case rel=>exact ⟨_,((Ec == 3)),(by first|rfl|(simp;done)|(simp [*];done)),H',⟨by first|omega|exact Nat.le_refl _⟩,⟨by (with_reducible repeat (first|apply Kd.Qc|apply Kd.Pc|apply Kd.xd));exact Kd.ke (Kd.He (p:=⟨Ia,1,none⟩) (Kd.He (p:=⟨Ia,0,none⟩) (Kd.ke Ce.out (fun k_ hk=>(⟨hk,hk.2⟩:_∧k_ ≠ Ia))) (fun _ hk=>hk.2) (.int .i64 0)) (fun _ hk=>hk.2) (.int .i64 0)) (fun _ hk=>⟨hk.1.1,hk.1.2⟩)⟩,⟨by (with_reducible repeat (first|refine Ea ?_ _|refine Ga ?_|refine Da ?_ _));refine Rb ?_ Sa.out _;(with_reducible repeat (first|refine Ea ?_ _|refine Ga ?_|refine Da ?_ _));refine Rb ?_ Sa.out _;(with_reducible repeat (first|refine Ea ?_ _|refine Ga ?_|refine Da ?_ _));exact ua.out⟩,⟨by (with_reducible repeat (first|refine Ea ?_ _|refine Ga ?_|refine Da ?_ _));refine Db (cs:=#[.int .i64 0,.int .i64 0]) ?_ 1 _ rfl;(with_reducible repeat (first|refine Ea ?_ _|refine Ga ?_|refine Da ?_ _));refine Db (cs:=#[.int .i64 0,.int .i64 0]) ?_ 0 _ rfl;(with_reducible repeat (first|refine Ea ?_ _|refine Ga ?_|refine Da ?_ _));exact Ba.out⟩,⟨by repeat (first|(with_reducible first|exact HK.out|apply Kept.alloc|apply Kept.drewN|apply Kept.drew|refine Kept.setCell ?_ (.inr Nd.out) _|refine Kept.setCell ?_ (.inr Je.out) _)|exact HK.out)⟩,⟨by repeat (first|(with_reducible first|exact HB.out|apply ia|apply ja|apply za|refine Aa ?_ Va.out|refine Aa ?_ Vb.out)|exact HB.out)⟩⟩
     ·rw [if_neg c92] at H
      have nu:(Ec == 3)=false:=beq_eq_false_iff_ne.mpr c92
      have dG:(Ec != 3)=true:=bne_iff_ne.mpr c92
      (first|rw [nu]|(simp only [Za,gb];rw [nu])|skip)
      have H':=qa.mk H
      clear H
      go_wp2
      go_meet
      case rel=>exact ⟨_,((Ec == 5)),(by first|rfl|(simp;done)|(simp [*];done)),H',⟨by first|omega|exact Nat.le_refl _⟩,⟨by (with_reducible repeat (first|apply Kd.Qc|apply Kd.Pc|apply Kd.xd));exact Kd.ke (Kd.He (p:=⟨Ia,1,none⟩) (Kd.He (p:=⟨Ia,0,none⟩) (Kd.ke Ce.out (fun k_ hk=>(⟨hk,hk.2⟩:_∧k_ ≠ Ia))) (fun _ hk=>hk.2) (.int .i64 0)) (fun _ hk=>hk.2) (.int .i64 0)) (fun _ hk=>⟨hk.1.1,hk.1.2⟩)⟩,⟨by (with_reducible repeat (first|refine Ea ?_ _|refine Ga ?_|refine Da ?_ _));refine Rb ?_ Sa.out _;(with_reducible repeat (first|refine Ea ?_ _|refine Ga ?_|refine Da ?_ _));refine Rb ?_ Sa.out _;(with_reducible repeat (first|refine Ea ?_ _|refine Ga ?_|refine Da ?_ _));exact ua.out⟩,⟨by (with_reducible repeat (first|refine Ea ?_ _|refine Ga ?_|refine Da ?_ _));refine Db (cs:=#[.int .i64 0,.int .i64 0]) ?_ 1 _ rfl;(with_reducible repeat (first|refine Ea ?_ _|refine Ga ?_|refine Da ?_ _));refine Db (cs:=#[.int .i64 0,.int .i64 0]) ?_ 0 _ rfl;(with_reducible repeat (first|refine Ea ?_ _|refine Ga ?_|refine Da ?_ _));exact Ba.out⟩,⟨by repeat (first|(with_reducible first|exact HK.out|apply Kept.alloc|apply Kept.drewN|apply Kept.drew|refine Kept.setCell ?_ (.inr Nd.out) _|refine Kept.setCell ?_ (.inr Je.out) _)|exact HK.out)⟩,⟨by repeat (first|(with_reducible first|exact HB.out|apply ia|apply ja|apply za|refine Aa ?_ Va.out|refine Aa ?_ Vb.out)|exact HB.out)⟩⟩
    case rest =>
     clear pR
     try clear c1
     try clear p1
     try clear q1
     try clear hx1
     try clear p2
     try clear c3
     try clear c4
     try clear p4
     try clear q4
     try clear qm
     try clear hf4
     try clear c6
     try clear p6
     try clear q6
     try clear om
     try clear hf6
     try clear c7
     try clear c8
     try clear hx8
     try clear hf8
     try clear c9
     try clear Jt
     try clear xH
     try clear wH
     try clear hx10
     try clear c39
     try clear pO
     try clear oO
     try clear c40
     try clear c41
     try clear c42
     try clear c43
     try clear c45
     try clear c46
     try clear c47
     try clear c48
     try clear TR
     try clear RR
     try clear hx48
     try clear hf48
     try clear c63
     try clear hx63
     try clear hf63
     try clear p64
     try clear c65
     try clear eJ
     try clear c66
     try clear TW
     try clear c67
     try clear SR
     try clear PR
     try clear hx67
     try clear hf67
     try clear c70
     try clear c78
     try clear c84
     try clear hx84
     try clear hf84
     try clear c89
     try clear c92
     try clear nu
     try clear dG
     try clear iM
     try clear gM
     try clear fM
     try clear eM
     try clear dM
     try clear cM
     try clear bM
     try clear XE
     try clear WE
     try clear VE
     try clear UE
     try clear TE
     try clear SE
     try clear RE
     try clear QE
     try clear PE
     try clear OE
     try clear ME
     try clear KE
     try clear JE
     try clear IE
     try clear HE
     try clear FE
     try clear EE
     try clear DE
     try clear CE
     try clear AE
     try clear aM
     try clear ZL
     try clear zE
     try clear yE
     try clear YL
     try clear XL
     try clear WL
     try clear VL
     try clear UL
     try clear TL
     try clear SL
     try clear AK
     try clear zK
     try clear yK
     try clear xK
     try clear wK
     try clear vK
     try clear uK
     try clear DD
     try clear CD
     try clear BD
     try clear zD
     try clear yD
     try clear xD
     try clear wD
     try clear vD
     try clear uD
     try clear tD
     try clear sD
     try clear rD
     try clear qD
     try clear oD
     try clear nD
     try clear mD
     try clear lD
     try clear kD
     try clear jD
     try clear iD
     try clear tK
     try clear sK
     try clear hD
     try clear gD
     try clear rK
     try clear qK
     try clear pK
     try clear oK
     try clear nK
     try clear mK
     try clear lK
     try clear Gi
     try clear Ei
     try clear ym
     try clear xm
     try clear vP
     try clear uP
     try clear UH
     try clear TH
     try clear tP
     try clear sP
     try clear SH
     try clear RH
     try clear Bu
     try clear rA
     try clear TR
     try clear SR
     try clear Au
     try clear qA
     try clear RR
     try clear PR
     obtain ⟨kq,oy,rfl,HA,vaf,Oq,ua,Ba,HK,HB⟩:=hcut
     cases kq with
     | zero=>exact absurd HA.out (by simp [Zb.j0])
     | succ kj85 =>
      have H:=HA.out
      clear HA
      simp only [Zb.j0] at H
      by_cases c93:oy=true
      ·subst c93
       have H1:(if 0 ≤ Ja then (if Ja < (l1.length:Int) then (some (wrap64 (a2 + 1),(l1.set (Ja:Int).toNat (⟨a2,0⟩:Ph)))) else (none)) else (none))=some (r1,r2):=by rw [if_pos rfl] at H;exact H
       clear H
       have H:=H1
       clear H1
       by_cases c94:0 ≤ Ja
       ·rw [if_pos c94] at H
        have Cad:decide (0 ≤ Ja)=true:=decide_eq_true c94
        clear c94
        by_cases c95:Ja < (l1.length:Int)
        ·rw [if_pos c95] at H
         have Bad:decide (Ja < (l1.length:Int))=true:=decide_eq_true c95
         clear c95
         obtain ⟨y113,hy113⟩:∃ y_:List (Ph),y_=(l1.set (Ja:Int).toNat (⟨a2,0⟩:Ph)):=⟨_,rfl⟩
         replace H:(some (wrap64 (a2 + 1),y113))=some (r1,r2):=by first|(rw [hy113];with_reducible exact H)|(have Tj:=(Option.bind_some _ _).symm.trans H;rw [hy113];with_reducible exact Tj)|(have Tj:=(Option.bind_some _ _).symm.trans H;with_reducible exact Tj)|with_reducible exact H|(rw [hy113];exact H)|exact H
         have pX:=qa.mk hy113
         clear hy113
         simp only [Option.some.injEq,Prod.mk.injEq] at H
         obtain ⟨rfl,rfl⟩:=H
         have qac:=qb.out
         have Cab:=Sa.out
         have S3:wc.cell? ⟨Ia,0,none⟩=some (.int .i64 0):=(ga Ba.out 0).trans rfl
         have R3:wc.cell? ⟨Ia,1,none⟩=some (.int .i64 0):=(ga Ba.out 1).trans rfl
         have uY:=aa Ba.out 0
         have tY:=aa Ba.out 1
         go_wp2_with (first|((with_reducible refine Rf (t:=77) (p:=7) rfl ?_);refine Bf (t:=77) (p:=7) (v:=?vo_w99) (w1:=((wc.setCell ⟨Ia,0,none⟩ (.int .i64 a2)).setCell ⟨Ia,1,none⟩ (.int .i64 0))) ?hg ?ho ?hn ?hr ?_;(case ho=>rfl);(case hg=>rfl);(case hn=>rfl);(case hr=>first|(go_simp;done)|(go_simp;rfl));intro Hx hw;have Pb:qa (Kd.R ak 77 Hx w0.heap.size (fun k_=>(Vh k_ ∨ w.heap.size ≤ k_)∧k_ ≠ Ia) Ml l1):=⟨(by rw [hw];exact (by (with_reducible repeat (first|apply Kd.Qc|apply Kd.Pc|apply Kd.xd));exact Kd.ke (Kd.He (p:=⟨Ia,1,none⟩) (Kd.He (p:=⟨Ia,0,none⟩) (Kd.ke Oq.out (fun k_ hk=>(⟨hk,hk.2⟩:_∧k_ ≠ Ia))) (fun _ hk=>hk.2) (.int .i64 a2)) (fun _ hk=>hk.2) (.int .i64 0)) (fun _ hk=>⟨hk.1.1,hk.1.2⟩)))⟩;have Wb:qa (Hx.heap[Fa]? = some (.cells #[.int .i64 Ec,.int .i64 Ja,.int .i64 Ma,.int .i64 Oa,.int .i64 fc,.int .i64 qd,.string ld] 70 (0,0))):=⟨(by rw [hw];exact (by (with_reducible repeat (first|refine Ea ?_ _|refine Ga ?_|refine Da ?_ _));refine Rb ?_ Sa.out _;(with_reducible repeat (first|refine Ea ?_ _|refine Ga ?_|refine Da ?_ _));refine Rb ?_ Sa.out _;(with_reducible repeat (first|refine Ea ?_ _|refine Ga ?_|refine Da ?_ _));exact ua.out))⟩;have nc:qa (Hx.heap[Ia]? = some (.cells #[.int .i64 a2,.int .i64 0] 77 (0,0))):=⟨(by rw [hw];exact (by (with_reducible repeat (first|refine Ea ?_ _|refine Ga ?_|refine Da ?_ _));refine Db (cs:=#[.int .i64 a2,.int .i64 0]) ?_ 1 _ rfl;(with_reducible repeat (first|refine Ea ?_ _|refine Ga ?_|refine Da ?_ _));refine Db (cs:=#[.int .i64 0,.int .i64 0]) ?_ 0 _ rfl;(with_reducible repeat (first|refine Ea ?_ _|refine Ga ?_|refine Da ?_ _));exact Ba.out))⟩;have Nc:qa (Kept w Hx (fun k_=>Vh k_)):=⟨(by rw [hw];exact (by repeat (first|(with_reducible first|exact HK.out|apply Kept.alloc|apply Kept.drewN|apply Kept.drew|refine Kept.setCell ?_ (.inr Nd.out) _|refine Kept.setCell ?_ (.inr Je.out) _)|exact HK.out)))⟩;have qe:qa (Below w0.heap.size w0 Hx):=⟨(by rw [hw];exact (by repeat (first|(with_reducible first|exact HB.out|apply ia|apply ja|apply za|refine Aa ?_ Va.out|refine Aa ?_ Vb.out)|exact HB.out)))⟩;clear hw;clear Oq;clear ua;clear Ba;clear HK;clear HB;have Oq:=Pb;have ua:=Wb;have Ba:=nc;have HK:=Nc;have HB:=qe;clear Pb Wb nc Nc qe;have ZV:Hx.cell? ⟨Fa,0,none⟩=some (.int .i64 Ec):=(ga ua.out 0).trans rfl;have YV:Hx.cell? ⟨Fa,1,none⟩=some (.int .i64 Ja):=(ga ua.out 1).trans rfl;have XV:Hx.cell? ⟨Fa,2,none⟩=some (.int .i64 Ma):=(ga ua.out 2).trans rfl;have WV:Hx.cell? ⟨Fa,3,none⟩=some (.int .i64 Oa):=(ga ua.out 3).trans rfl;have VV:Hx.cell? ⟨Fa,4,none⟩=some (.int .i64 fc):=(ga ua.out 4).trans rfl;have TV:Hx.cell? ⟨Fa,5,none⟩=some (.int .i64 qd):=(ga ua.out 5).trans rfl;have SV:Hx.cell? ⟨Fa,6,none⟩=some (.string ld):=(ga ua.out 6).trans rfl;have zU:=aa ua.out 0;have yU:=aa ua.out 1;have xU:=aa ua.out 2;have wU:=aa ua.out 3;have vU:=aa ua.out 4;have uU:=aa ua.out 5;have tU:=aa ua.out 6;have KI:Hx.cell? ⟨Ia,0,none⟩=some (.int .i64 a2):=(ga Ba.out 0).trans rfl;have JI:Hx.cell? ⟨Ia,1,none⟩=some (.int .i64 0):=(ga Ba.out 1).trans rfl;have rI:=aa Ba.out 0;have qI:=aa Ba.out 1;have C9:0 ≤ (Ja:Int):=of_decide_eq_true (by first|(with_reducible assumption)|assumption);have u9:(Ja:Int) < ((l1.length:Int):Int):=of_decide_eq_true (by first|(with_reducible assumption)|assumption);obtain ⟨Ww,KW,AW,sW,waa,gaf,BX⟩:=Kd.Mp Oq.out (by omega);(first|cases AW|(injection AW with ea_ en_ ec_;(first|subst ea_|(injection ea_ with ea_;subst ea_));subst ec_;clear en_));have GX:=qa.mk sW;have yaf:=qa.mk BX;clear sW waa BX;have Waa:=qa.mk (show (Vh Ww ∨ w.heap.size ≤ Ww) from (Oq.out.1 _ rfl).1);obtain ⟨kaf,bW,iW,OI,sI⟩:=Kd.Sj Oq.out bH (Ja:Int) C9 u9;obtain rfl:=Fh iW;have H9:Hx.cell? ⟨Ww,(Ja:Int).toNat * 2,none⟩=some (.int .i64 ((Ad l1 Ja).f0)):=OI 0 _ rfl;have G9:Hx.cell? ⟨Ww,(Ja:Int).toNat * 2 + 1,none⟩=some (.int .i64 ((Ad l1 Ja).f1)):=OI 1 _ rfl;have Q_:Hx.frozen? ⟨Ww,(Ja:Int).toNat * 2,none⟩=false:=sI 0;have P_:Hx.frozen? ⟨Ww,(Ja:Int).toNat * 2 + 1,none⟩=false:=sI 1;clear bW OI sI iW;replace C9:=eq_true C9;replace u9:=eq_true u9;have JO:=qa.mk (show Kd.R ak 77 Hx w0.heap.size (fun k_=>(Vh k_ ∨ w.heap.size ≤ k_)∧k_ ≠ Ia) (.slice (some ⟨Ww,0,none⟩) l1.length KW) l1 from (by (with_reducible repeat (first|apply Kd.Qc|apply Kd.Pc|apply Kd.xd));exact Oq.out));obtain ⟨Aad,LI,lO,Oz,WB⟩:=Kd.Sj JO.out bH (Ja:Int) (of_decide_eq_true (by first|(with_reducible assumption)|assumption)) (by have h_:(Ja:Int) < ((l1.length:Int):Int):=of_decide_eq_true (by first|(with_reducible assumption)|assumption);first|exact h_|(have e_:=(Kd.ee Oq.out).1;omega)|simpa using h_);obtain rfl:=Fh lO;have yJ:=Kd.qu JO.out (Ja:Int) (of_decide_eq_true (by first|(with_reducible assumption)|assumption)) (by have h_:(Ja:Int) < ((l1.length:Int):Int):=of_decide_eq_true (by first|(with_reducible assumption)|assumption);first|exact h_|(have e_:=(Kd.ee Oq.out).1;omega)|simpa using h_) (seg:=[.int .i64 a2,.int .i64 0]) (j:=0) LI Oz (show 2 ≤ 2 from by decide) (x':=(⟨a2,0⟩:Ph)) (Xp _ _ _ (⟨a2,0⟩:Ph) ) (fun _ hk=>hk);have Ee:=Oz 0 _ rfl;(try simp only [show (ak).sz=2 from rfl,Nat.mul_one,Nat.add_zero] at Ee);have QL:=WB 0;(try simp only [show (ak).sz=2 from rfl,Nat.mul_one,Nat.add_zero] at QL);have Ff:=Oz 1 _ rfl;(try simp only [show (ak).sz=2 from rfl,Nat.mul_one,Nat.add_zero] at Ff);have PL:=WB 1;(try simp only [show (ak).sz=2 from rfl,Nat.mul_one,Nat.add_zero] at PL);clear LI Oz WB lO)|((with_reducible refine Rf (t:=77) (p:=56) rfl ?_);refine Bf (t:=77) (p:=56) (v:=?vo_w103) (w1:=((Hx.setCell ⟨Ww,(Ja:Int).toNat * 2,none⟩ (.int .i64 a2)).setCell ⟨Ww,(Ja:Int).toNat * 2 + 1,none⟩ (.int .i64 0))) ?hg ?ho ?hn ?hr ?_;(case ho=>rfl);(case hg=>rfl);(case hn=>rfl);(case hr=>first|(go_simp;done)|(go_simp;rfl));intro bP hw;have hg:Hx.grownBy bP (some Ww):=(by rw [hw];exact yJ.2);have Sw:Kd.R ak 77 bP w0.heap.size (fun k_=>(Vh k_ ∨ w.heap.size ≤ k_)∧k_ ≠ Ia) (.slice (some ⟨Ww,0,none⟩) l1.length KW) y113:=(by rw [hw,pX.out];exact yJ.1);clear yJ;have Pb:=qa.mk (Sw);have Wb:=qa.mk (qh (g:=Fa) (o:=.cells #[.int .i64 Ec,.int .i64 Ja,.int .i64 Ma,.int .i64 Oa,.int .i64 fc,.int .i64 qd,.string ld] 70 (0,0)) (by (with_reducible repeat (first|refine Ea ?_ _|refine Ga ?_|refine Da ?_ _));exact ua.out) hg (Kd.Qx Oq.out ua.out (by decide)));have nc:=qa.mk (qh (g:=Ia) (o:=.cells #[.int .i64 a2,.int .i64 0] 77 (0,0)) (by (with_reducible repeat (first|refine Ea ?_ _|refine Ga ?_|refine Da ?_ _));exact Ba.out) hg (Kd.Ed Oq.out (fun _ hk=>hk.2)));have Nc:=qa.mk ((by rw [hw];exact Aa (Aa (HB.out) GX.out) GX.out:Below w0.heap.size w0 bP));have qe:=qa.mk (Kept.Cn (S:=(fun k_=>Vh k_)) hg (by repeat (first|(with_reducible first|exact HK.out|apply Kept.alloc|apply Kept.drewN|apply Kept.drew|refine Kept.setCell ?_ (.inr Nd.out) _|refine Kept.setCell ?_ (.inr Je.out) _)|exact HK.out)) (fun k_ e_=>(Oq.out.1 k_ e_).1));clear Oq;clear ua;clear Ba;clear HB;clear HK;have Oq:=Pb;have ua:=Wb;have Ba:=nc;have HB:=Nc;have HK:=qe;clear Pb Wb nc Nc qe;clear hg hw Sw))
         go_ret
         exact ⟨by first|rfl|(simp [La,Ka] <;> rfl)|(simp [*,La,Ka] <;> rfl),by (with_reducible repeat (first|apply Kd.Qc|apply Kd.Pc|apply Kd.xd));exact Kd.ke Oq.out (fun _ hk=>hk.1),by repeat (first|(with_reducible first|exact HB.out|apply ia|apply ja|apply za|refine Aa ?_ Va.out|refine Aa ?_ Vb.out)|exact HB.out),by repeat (first|(with_reducible first|exact HK.out|apply Kept.alloc|apply Kept.drewN|apply Kept.drew|refine Kept.setCell ?_ (.inr Nd.out) _|refine Kept.setCell ?_ (.inr Je.out) _)|exact HK.out)⟩
        ·rw [if_neg c95] at H
         exact absurd H (by simp)
       ·rw [if_neg c94] at H
        exact absurd H (by simp)
      ·replace c93:=Bool.eq_false_iff.mpr c93
       subst c93
       have H1:(some (a2,l1))=some (r1,r2):=by rw [if_neg (show ¬ (false=true) by decide)] at H;exact H
       clear H
       have H:=H1
       clear H1
       simp only [Option.some.injEq,Prod.mk.injEq] at H
       obtain ⟨rfl,rfl⟩:=H
       go_wp2
       go_ret
       exact ⟨by first|rfl|(simp [La,Ka] <;> rfl)|(simp [*,La,Ka] <;> rfl),by (with_reducible repeat (first|apply Kd.Qc|apply Kd.Pc|apply Kd.xd));exact Kd.ke Oq.out (fun _ hk=>hk.1),by repeat (first|(with_reducible first|exact HB.out|apply ia|apply ja|apply za|refine Aa ?_ Va.out|refine Aa ?_ Vb.out)|exact HB.out),by repeat (first|(with_reducible first|exact HK.out|apply Kept.alloc|apply Kept.drewN|apply Kept.drew|refine Kept.setCell ?_ (.inr Nd.out) _|refine Kept.setCell ?_ (.inr Je.out) _)|exact HK.out)⟩
end Go.Proofs.Ytmifdccaajngcaa.P
