import Derived.Test.YtmifdccaajngcaaQKnown1
import Derived.Test.YtmifdccaajngcaaQKnown4
namespace Go.Proofs.Ytmifdccaajngcaa.P
open Go.RowKit Go.Proofs.Na.mc Go.Proofs.Na.jf Go.Proofs.Na.xg
attribute [local go_sem] Hj Fj Rk Qk Li Ki Gj Ej
set_option linter.unusedVariables false
set_option linter.unusedSimpArgs false
def jc.j0:Nat→List (Lj)→Int→Bool→Int→Int→Int→Int→Int→Int→ByteArray→Option (Int × (List (Lj)))
 | 0,_,_,_,_,_,_,_,_,_,_=>none
 | k + 1,x1,x2,x43,x102000,ke,x102002,x102003,x102004,x102005,x102006=>if x43=true then (if 0 ≤ ke then (if ke < (x1.length:Int) then (some (wrap64 (x2 + 1),(x1.set (ke:Int).toNat (⟨x2,0⟩:Lj)))) else (none)) else (none)) else (some (x2,x1))
def jc.f (k:Nat) (Pc:Int) (Ma:Int) (Oa:Int) (Pa:Int) (nc:Int) (Od:Int) (Nd:ByteArray) (l1:List (Lj)) (a2:Int):Option (Int × (List (Lj))):=if Pc=0 then (if 0 ≤ Ma then (if Ma < (l1.length:Int) then (some (a2,(l1.set (Ma:Int).toNat (⟨(-1),Od⟩:Lj)))) else (none)) else (none)) else (if Pc=1 then (if 0 ≤ Oa then (if Oa < (l1.length:Int) then (if 0 ≤ Ma then (if Ma < (l1.length:Int) then (some (a2,(l1.set (Ma:Int).toNat (⟨(Ld l1 Oa).f0,(Ld l1 Oa).f1⟩:Lj)))) else (none)) else (none)) else (none)) else (none)) else (if Pc=2 then (if 0 ≤ Oa then (if Oa < (l1.length:Int) then (if 0 ≤ Pa then (if Pa < (l1.length:Int) then ((qb.f k Nd ((Ld l1 Oa).f0) ((Ld l1 Oa).f1) ((Ld l1 Pa).f0) ((Ld l1 Pa).f1)).bind fun Hy=>(if Hy.2.2=true then (if 0 ≤ Ma then (if Ma < (l1.length:Int) then (some (a2,(l1.set (Ma:Int).toNat (⟨Hy.1,Hy.2.1⟩:Lj)))) else (none)) else (none)) else (if 0 ≤ Ma then (if Ma < (l1.length:Int) then (some (wrap64 (a2 + 1),(l1.set (Ma:Int).toNat (⟨a2,0⟩:Lj)))) else (none)) else (none)))) else (none)) else (none)) else (none)) else (none)) else (if Pc=3 then (jc.j0 k l1 a2 (Pc == 3) Pc Ma Oa Pa nc Od Nd) else (jc.j0 k l1 a2 (Pc == 5) Pc Ma Oa Pa nc Od Nd))))
theorem jc.Sd:∀ k,(∀ y0 y1 y2 y3 y4 y5 y6 y7 y8 y9,Lb (jc.j0 k y0 y1 y2 y3 y4 y5 y6 y7 y8 y9) (jc.j0 (k + 1) y0 y1 y2 y3 y4 y5 y6 y7 y8 y9))
 | 0=>fun _ _ _ _ _ _ _ _ _ _ r h=>by simp [jc.j0] at h
 | k + 1=>by
  have Ff:=jc.Sd k
  ·intro y0 y1 y2 y3 y4 y5 y6 y7 y8 y9
   unfold jc.j0
   repeat' first
   | (with_reducible exact Ff _ _ _ _ _ _ _ _ _ _)
   | (with_reducible exact qb.mono _ _ _ _ _ _)
   | (with_reducible exact Lb.refl _)
   | (with_reducible exact Lb.none _)
   | (with_reducible refine Lb.ite ?_ ?_)
   | (with_reducible refine Lb.bind ?_ (fun _=>?_))
   | exact Ff _ _ _ _ _ _ _ _ _ _
   | exact qb.mono _ _ _ _ _ _
   | exact Lb.none _
   | refine Lb.ite ?_ ?_
   | refine Lb.bind ?_ (fun _=>?_)
theorem jc.mono:∀ a0 a1 a2 a3 a4 a5 a6 a7 a8 k,Lb (jc.f k a0 a1 a2 a3 a4 a5 a6 a7 a8) (jc.f (k + 1) a0 a1 a2 a3 a4 a5 a6 a7 a8):=by
 intro a0 a1 a2 a3 a4 a5 a6 a7 a8 k
 have Ff:=jc.Sd k
 unfold jc.f
 repeat' first
   | (with_reducible exact Ff _ _ _ _ _ _ _ _ _ _)
   | (with_reducible exact qb.mono _ _ _ _ _ _)
   | (with_reducible exact Lb.refl _)
   | (with_reducible exact Lb.none _)
   | (with_reducible refine Lb.ite ?_ ?_)
   | (with_reducible refine Lb.bind ?_ (fun _=>?_))
   | exact Ff _ _ _ _ _ _ _ _ _ _
   | exact qb.mono _ _ _ _ _ _
   | exact Lb.none _
   | refine Lb.ite ?_ ?_
   | refine Lb.bind ?_ (fun _=>?_)
def jc.T9:Bool × List (List Nat × List Nat):=(true,[([],[]),([0],[0]),([],[]),([],[]),([3],[3]),([2,4],[2,4]),([5],[5]),([],[]),([],[]),([8],[8]),([7,9],[7,9]),([10],[10]),([1,6,11],[1,6,11]),([12],[12]),([13],[13]),([13],[13]),([14,12,0,1,2,3,4,5,6,7,8,9,10,11,12,13,14],[14]),([15,16,0,1,2,3,4,5,6,7,8,9,10,11,12,13,14,15,16],[15])])
def jc.B9:List Nat:=[0,1,0,0,8,28,60,0,0,256,896,1920,4095,8191,16383,16383,32767,131071]
theorem jc.WV:Xl .any (opsOf Try.f78 9)=jc.T9:=by kernel_rfl
theorem jc.RR:Ml jc.T9.2 jc.B9=true:=by kernel_rfl
set_option maxHeartbeats 8000000 in
set_option maxRecDepth 100000 in
theorem jc.calls (k:Nat) (Pc:Int) (Ma:Int) (Oa:Int) (Pa:Int) (nc:Int) (Od:Int) (Nd:ByteArray) (Uj:Nat→Prop) (Cg:Value) (l1:List (Lj)) (a2:Int) (r1:Int) (r2:List (Lj)) (w0 w:World) (hB:Below w0.heap.size w0 w) (ho1:Kd.R Jl 77 w w0.heap.size Uj Cg l1) (h:jc.f k Pc Ma Oa Pa nc Od Nd l1 a2=some (r1,r2)) :
  Calls Try.prog 78 #[.agg #[.int .i64 Pc,.int .i64 Ma,.int .i64 Oa,.int .i64 Pa,.int .i64 nc,.int .i64 Od,.string Nd],Cg,.int .i64 a2] w fun e w'=>e = .returned (.int .i64 r1)∧Kd.R Jl 77 w' w0.heap.size (fun k_=>(Uj k_ ∨ w.heap.size ≤ k_)) Cg r2∧Below w0.heap.size w0 w'∧Kept w w' (fun k_=>Uj k_):=by
 have YB:=Try.underlying70
 have sW:=Try.underlying77
 have gf:=ja.mk (show Kd.R Jl 77 w w0.heap.size (fun k_=>(Uj k_ ∨ w.heap.size ≤ k_)) Cg l1 from Kd.Oe ho1 (fun k_ hk=>(.inl hk)))
 have HK:=ja.mk (Kept.refl w (fun k_=>Uj k_))
 have HW0:=ja.mk hB.size
 have HB:=ja.mk hB
 clear hB
 have H:(if Pc=0 then (if 0 ≤ Ma then (if Ma < (l1.length:Int) then (some (a2,(l1.set (Ma:Int).toNat (⟨(-1),Od⟩:Lj)))) else (none)) else (none)) else (if Pc=1 then (if 0 ≤ Oa then (if Oa < (l1.length:Int) then (if 0 ≤ Ma then (if Ma < (l1.length:Int) then (some (a2,(l1.set (Ma:Int).toNat (⟨(Ld l1 Oa).f0,(Ld l1 Oa).f1⟩:Lj)))) else (none)) else (none)) else (none)) else (none)) else (if Pc=2 then (if 0 ≤ Oa then (if Oa < (l1.length:Int) then (if 0 ≤ Pa then (if Pa < (l1.length:Int) then ((qb.f k Nd ((Ld l1 Oa).f0) ((Ld l1 Oa).f1) ((Ld l1 Pa).f0) ((Ld l1 Pa).f1)).bind fun Hy=>(if Hy.2.2=true then (if 0 ≤ Ma then (if Ma < (l1.length:Int) then (some (a2,(l1.set (Ma:Int).toNat (⟨Hy.1,Hy.2.1⟩:Lj)))) else (none)) else (none)) else (if 0 ≤ Ma then (if Ma < (l1.length:Int) then (some (wrap64 (a2 + 1),(l1.set (Ma:Int).toNat (⟨a2,0⟩:Lj)))) else (none)) else (none)))) else (none)) else (none)) else (none)) else (none)) else (if Pc=3 then (jc.j0 k l1 a2 (Pc == 3) Pc Ma Oa Pa nc Od Nd) else (jc.j0 k l1 a2 (Pc == 5) Pc Ma Oa Pa nc Od Nd)))))=some (r1,r2):=h
 clear h
 by_cases c4:Pc=0
 ·rw [if_pos c4] at H
  have Gi:(Pc == 0)=true:=beq_iff_eq.mpr c4
  have CC:(Pc != 0)=false:=bne_eq_false_iff_eq.mpr c4
  clear c4
  by_cases c5:0 ≤ Ma
  ·rw [if_pos c5] at H
   have Il:decide (0 ≤ Ma)=true:=decide_eq_true c5
   clear c5
   by_cases c6:Ma < (l1.length:Int)
   ·rw [if_pos c6] at H
    have cm:decide (Ma < (l1.length:Int))=true:=decide_eq_true c6
    clear c6
    obtain ⟨Dg,hy103⟩:∃ y_:List (Lj),y_=(l1.set (Ma:Int).toNat (⟨(-1),Od⟩:Lj)):=⟨_,rfl⟩
    replace H:(some (a2,Dg))=some (r1,r2):=by first|(rw [hy103];with_reducible exact H)|(have Eh:=(Option.bind_some _ _).symm.trans H;rw [hy103];with_reducible exact Eh)|(have Eh:=(Option.bind_some _ _).symm.trans H;with_reducible exact Eh)|with_reducible exact H|(rw [hy103];exact H)|exact H
    have AL:=ja.mk hy103
    clear hy103
    simp only [Option.some.injEq,Prod.mk.injEq] at H
    obtain ⟨rfl,rfl⟩:=H
    go_enter Try.func78,Try.ntmps78
    go_wp2_with (first|((with_reducible refine Kb (N:=3) rfl ?_);refine Eb ?hg (N:=3) ?hd (cs:=#[.int .i64 Pc,.int .i64 Ma,.int .i64 Oa,.int .i64 Pa,.int .i64 nc,.int .i64 Od,.string Nd]) (t:=70) ?hr ?_;(case hd=>rfl);(case hg=>rfl);(case hr=>first|(go_simp;done)|(go_simp;rfl));intro Ea hg w8 Tb hb;have Gb:=ja.mk (Kd.Ce (by (with_reducible repeat (first|apply Kd.Dc|apply Kd.Ic|apply Kd.Zc));exact gf.out) hb);have Vb:=ja.mk (Kept.below (S:=(fun k_=>Uj k_)) (by repeat (first|(with_reducible first|exact HK.out|apply Kept.alloc|apply Kept.drewN|apply Kept.drew)|exact HK.out)) hb);have Ac:=ja.mk (Qa (by repeat (first|(with_reducible first|exact HB.out|apply qa|apply ia|apply ua)|exact HB.out)) hb);have ud:=ja.mk (Tb);have ef:=ja.mk ((by rw [hg];exact (by first|exact HK.out.1|exact (show Kept w _ (fun k_=>Uj k_) from by repeat (first|(with_reducible first|exact HK.out|apply Kept.alloc|apply Kept.drewN|apply Kept.drew)|exact HK.out)).1):w.heap.size ≤ Ea));have Ag:=ja.mk ((by rw [hg];exact (Ra (by repeat (first|(with_reducible first|exact HB.out|apply qa|apply ia|apply ua)|exact HB.out))):w0.heap.size ≤ Ea));clear gf;clear HK;clear HB;have gf:=Gb;have HK:=Vb;have HB:=Ac;have za:=ud;have Be:=ef;have Wa:=Ag;clear Gb Vb Ac ud ef Ag;clear hb Tb hg)|((with_reducible refine Kb (N:=7) rfl ?_);refine Eb ?hg (N:=7) ?hd (cs:=#[.int .i64 0,.int .i64 0]) (t:=77) ?hr ?_;(case hd=>rfl);(case hg=>rfl);(case hr=>first|(go_simp;done)|(go_simp;rfl));intro Fa hg w9 Tb hb;have Gb:=ja.mk (Kd.Ce (Kd.Cq (by (with_reducible repeat (first|apply Kd.Dc|apply Kd.Ic|apply Kd.Zc));exact gf.out) Fa (Nat.le_of_eq hg.symm)) hb);have Vb:=ja.mk (gb (g:=Ea) (o:=.cells #[.int .i64 Pc,.int .i64 Ma,.int .i64 Oa,.int .i64 Pa,.int .i64 nc,.int .i64 Od,.string Nd] 70 (0,0)) (by (with_reducible repeat (first|refine Da ?_ _|refine Ga ?_|refine Ca ?_ _));exact za.out) hb);have Ac:=ja.mk (Kept.below (S:=(fun k_=>Uj k_)) (by repeat (first|(with_reducible first|exact HK.out|apply Kept.alloc|apply Kept.drewN|apply Kept.drew|refine Kept.setCell ?_ (.inr Be.out) _)|exact HK.out)) hb);have ud:=ja.mk (Qa (by repeat (first|(with_reducible first|exact HB.out|apply qa|apply ia|apply ua|refine Aa ?_ Wa.out)|exact HB.out)) hb);have ef:=ja.mk (Tb);have Ag:=ja.mk ((by rw [hg];exact (by first|exact HK.out.1|exact (show Kept w _ (fun k_=>Uj k_) from by repeat (first|(with_reducible first|exact HK.out|apply Kept.alloc|apply Kept.drewN|apply Kept.drew|refine Kept.setCell ?_ (.inr Be.out) _)|exact HK.out)).1):w.heap.size ≤ Fa));have dh:=ja.mk ((by rw [hg];exact (Ra (by repeat (first|(with_reducible first|exact HB.out|apply qa|apply ia|apply ua|refine Aa ?_ Wa.out)|exact HB.out))):w0.heap.size ≤ Fa));have Fv:=ja.mk ((by rw [hg];exact Nat.ne_of_lt (Lc (g:=Ea) (o:=.cells #[.int .i64 Pc,.int .i64 Ma,.int .i64 Oa,.int .i64 Pa,.int .i64 nc,.int .i64 Od,.string Nd] 70 (0,0)) (by (with_reducible repeat (first|refine Da ?_ _|refine Ga ?_|refine Ca ?_ _));exact za.out)):Ea ≠ Fa));have Dv:=ja.mk ((by rw [hg];exact Nat.ne_of_gt (Lc (g:=Ea) (o:=.cells #[.int .i64 Pc,.int .i64 Ma,.int .i64 Oa,.int .i64 Pa,.int .i64 nc,.int .i64 Od,.string Nd] 70 (0,0)) (by (with_reducible repeat (first|refine Da ?_ _|refine Ga ?_|refine Ca ?_ _));exact za.out)):Fa ≠ Ea));clear gf;clear za;clear HK;clear HB;have gf:=Gb;have za:=Vb;have HK:=Ac;have HB:=ud;have Ba:=ef;have Df:=Ag;have Sb:=dh;have Ua:=Fv;have jb:=Dv;clear Gb Vb Ac ud ef Ag dh Fv Dv;clear hb Tb hg;have jX:=jb.out;have QW:=Ua.out;have El:w9.cell? ⟨Fa,0,none⟩=some (.int .i64 0):=(ga Ba.out 0).trans rfl;have Dl:w9.cell? ⟨Fa,1,none⟩=some (.int .i64 0):=(ga Ba.out 1).trans rfl;have Cl:=aa Ba.out 0;have Bl:=aa Ba.out 1)|((with_reducible refine qf (t:=77) (p:=7) rfl ?_);refine Xe (t:=77) (p:=7) (v:=?vo_w12) (w1:=((w9.setCell ⟨Fa,0,none⟩ (.int .i64 0)).setCell ⟨Fa,1,none⟩ (.int .i64 0))) ?hg ?ho ?hn ?hr ?_;(case ho=>rfl);(case hg=>rfl);(case hn=>rfl);(case hr=>first|(go_simp;done)|(go_simp;rfl));intro Nr hw;have Gb:ja (Kd.R Jl 77 Nr w0.heap.size (fun k_=>(Uj k_ ∨ w.heap.size ≤ k_)∧k_ ≠ Fa) Cg l1):=⟨(by rw [hw];exact (by (with_reducible repeat (first|apply Kd.Dc|apply Kd.Ic|apply Kd.Zc));exact Kd.Oe (Kd.qg (p:=⟨Fa,1,none⟩) (Kd.qg (p:=⟨Fa,0,none⟩) (Kd.Oe gf.out (fun k_ hk=>(⟨hk,hk.2⟩:_∧k_ ≠ Fa))) (fun _ hk=>hk.2) (.int .i64 0)) (fun _ hk=>hk.2) (.int .i64 0)) (fun _ hk=>⟨hk.1.1,hk.1.2⟩)))⟩;have Vb:ja (Nr.heap[Ea]? = some (.cells #[.int .i64 Pc,.int .i64 Ma,.int .i64 Oa,.int .i64 Pa,.int .i64 nc,.int .i64 Od,.string Nd] 70 (0,0))):=⟨(by rw [hw];exact (by (with_reducible repeat (first|refine Da ?_ _|refine Ga ?_|refine Ca ?_ _));refine jd ?_ Ua.out _;(with_reducible repeat (first|refine Da ?_ _|refine Ga ?_|refine Ca ?_ _));refine jd ?_ Ua.out _;(with_reducible repeat (first|refine Da ?_ _|refine Ga ?_|refine Ca ?_ _));exact za.out))⟩;have Ac:ja (Nr.heap[Fa]? = some (.cells #[.int .i64 0,.int .i64 0] 77 (0,0))):=⟨(by rw [hw];exact (by (with_reducible repeat (first|refine Da ?_ _|refine Ga ?_|refine Ca ?_ _));refine Wb (cs:=#[.int .i64 0,.int .i64 0]) ?_ 1 _ rfl;(with_reducible repeat (first|refine Da ?_ _|refine Ga ?_|refine Ca ?_ _));refine Wb (cs:=#[.int .i64 0,.int .i64 0]) ?_ 0 _ rfl;(with_reducible repeat (first|refine Da ?_ _|refine Ga ?_|refine Ca ?_ _));exact Ba.out))⟩;have ud:ja (Kept w Nr (fun k_=>Uj k_)):=⟨(by rw [hw];exact (by repeat (first|(with_reducible first|exact HK.out|apply Kept.alloc|apply Kept.drewN|apply Kept.drew|refine Kept.setCell ?_ (.inr Be.out) _|refine Kept.setCell ?_ (.inr Df.out) _)|exact HK.out)))⟩;have ef:ja (Below w0.heap.size w0 Nr):=⟨(by rw [hw];exact (by repeat (first|(with_reducible first|exact HB.out|apply qa|apply ia|apply ua|refine Aa ?_ Wa.out|refine Aa ?_ Sb.out)|exact HB.out)))⟩;clear hw;clear gf;clear za;clear Ba;clear HK;clear HB;have gf:=Gb;have za:=Vb;have Ba:=Ac;have HK:=ud;have HB:=ef;clear Gb Vb Ac ud ef;have aj:Nr.cell? ⟨Ea,0,none⟩=some (.int .i64 Pc):=(ga za.out 0).trans rfl;have Zi:Nr.cell? ⟨Ea,1,none⟩=some (.int .i64 Ma):=(ga za.out 1).trans rfl;have Vl:Nr.cell? ⟨Ea,2,none⟩=some (.int .i64 Oa):=(ga za.out 2).trans rfl;have Ul:Nr.cell? ⟨Ea,3,none⟩=some (.int .i64 Pa):=(ga za.out 3).trans rfl;have Tl:Nr.cell? ⟨Ea,4,none⟩=some (.int .i64 nc):=(ga za.out 4).trans rfl;have lQ:Nr.cell? ⟨Ea,5,none⟩=some (.int .i64 Od):=(ga za.out 5).trans rfl;have kQ:Nr.cell? ⟨Ea,6,none⟩=some (.string Nd):=(ga za.out 6).trans rfl;have Yi:=aa za.out 0;have Xi:=aa za.out 1;have Sl:=aa za.out 2;have Rl:=aa za.out 3;have Ql:=aa za.out 4;have nO:=aa za.out 5;have mO:=aa za.out 6;have uo:Nr.cell? ⟨Fa,0,none⟩=some (.int .i64 0):=(ga Ba.out 0).trans rfl;have qo:Nr.cell? ⟨Fa,1,none⟩=some (.int .i64 0):=(ga Ba.out 1).trans rfl;have jo:=aa Ba.out 0;have fo:=aa Ba.out 1)|((with_reducible refine qf (t:=77) (p:=7) rfl ?_);refine Xe (t:=77) (p:=7) (v:=?vo_w15) (w1:=((Nr.setCell ⟨Fa,0,none⟩ (.int .i64 (-1))).setCell ⟨Fa,1,none⟩ (.int .i64 Od))) ?hg ?ho ?hn ?hr ?_;(case ho=>rfl);(case hg=>rfl);(case hn=>rfl);(case hr=>first|(go_simp;done)|(go_simp;rfl));intro Nk hw;have Gb:ja (Kd.R Jl 77 Nk w0.heap.size (fun k_=>(Uj k_ ∨ w.heap.size ≤ k_)∧k_ ≠ Fa) Cg l1):=⟨(by rw [hw];exact (by (with_reducible repeat (first|apply Kd.Dc|apply Kd.Ic|apply Kd.Zc));exact Kd.Oe (Kd.qg (p:=⟨Fa,1,none⟩) (Kd.qg (p:=⟨Fa,0,none⟩) (Kd.Oe gf.out (fun k_ hk=>(⟨hk,hk.2⟩:_∧k_ ≠ Fa))) (fun _ hk=>hk.2) (.int .i64 (-1))) (fun _ hk=>hk.2) (.int .i64 Od)) (fun _ hk=>⟨hk.1.1,hk.1.2⟩)))⟩;have Vb:ja (Nk.heap[Ea]? = some (.cells #[.int .i64 Pc,.int .i64 Ma,.int .i64 Oa,.int .i64 Pa,.int .i64 nc,.int .i64 Od,.string Nd] 70 (0,0))):=⟨(by rw [hw];exact (by (with_reducible repeat (first|refine Da ?_ _|refine Ga ?_|refine Ca ?_ _));refine jd ?_ Ua.out _;(with_reducible repeat (first|refine Da ?_ _|refine Ga ?_|refine Ca ?_ _));refine jd ?_ Ua.out _;(with_reducible repeat (first|refine Da ?_ _|refine Ga ?_|refine Ca ?_ _));exact za.out))⟩;have Ac:ja (Nk.heap[Fa]? = some (.cells #[.int .i64 (-1),.int .i64 Od] 77 (0,0))):=⟨(by rw [hw];exact (by (with_reducible repeat (first|refine Da ?_ _|refine Ga ?_|refine Ca ?_ _));refine Wb (cs:=#[.int .i64 (-1),.int .i64 0]) ?_ 1 _ rfl;(with_reducible repeat (first|refine Da ?_ _|refine Ga ?_|refine Ca ?_ _));refine Wb (cs:=#[.int .i64 0,.int .i64 0]) ?_ 0 _ rfl;(with_reducible repeat (first|refine Da ?_ _|refine Ga ?_|refine Ca ?_ _));exact Ba.out))⟩;have ud:ja (Kept w Nk (fun k_=>Uj k_)):=⟨(by rw [hw];exact (by repeat (first|(with_reducible first|exact HK.out|apply Kept.alloc|apply Kept.drewN|apply Kept.drew|refine Kept.setCell ?_ (.inr Be.out) _|refine Kept.setCell ?_ (.inr Df.out) _)|exact HK.out)))⟩;have ef:ja (Below w0.heap.size w0 Nk):=⟨(by rw [hw];exact (by repeat (first|(with_reducible first|exact HB.out|apply qa|apply ia|apply ua|refine Aa ?_ Wa.out|refine Aa ?_ Sb.out)|exact HB.out)))⟩;clear hw;clear gf;clear za;clear Ba;clear HK;clear HB;have gf:=Gb;have za:=Vb;have Ba:=Ac;have HK:=ud;have HB:=ef;clear Gb Vb Ac ud ef;have sn:Nk.cell? ⟨Ea,0,none⟩=some (.int .i64 Pc):=(ga za.out 0).trans rfl;have qn:Nk.cell? ⟨Ea,1,none⟩=some (.int .i64 Ma):=(ga za.out 1).trans rfl;have Ax:Nk.cell? ⟨Ea,2,none⟩=some (.int .i64 Oa):=(ga za.out 2).trans rfl;have zx:Nk.cell? ⟨Ea,3,none⟩=some (.int .i64 Pa):=(ga za.out 3).trans rfl;have yx:Nk.cell? ⟨Ea,4,none⟩=some (.int .i64 nc):=(ga za.out 4).trans rfl;have dB:Nk.cell? ⟨Ea,5,none⟩=some (.int .i64 Od):=(ga za.out 5).trans rfl;have cB:Nk.cell? ⟨Ea,6,none⟩=some (.string Nd):=(ga za.out 6).trans rfl;have gn:=aa za.out 0;have dn:=aa za.out 1;have Jw:=aa za.out 2;have Iw:=aa za.out 3;have Hw:=aa za.out 4;have AA:=aa za.out 5;have zA:=aa za.out 6;have Gr:Nk.cell? ⟨Fa,0,none⟩=some (.int .i64 (-1)):=(ga Ba.out 0).trans rfl;have Er:Nk.cell? ⟨Fa,1,none⟩=some (.int .i64 Od):=(ga Ba.out 1).trans rfl;have er:=aa Ba.out 0;have dr:=aa Ba.out 1;have p7:0 ≤ (Ma:Int):=of_decide_eq_true (by first|(with_reducible assumption)|assumption);have q7:(Ma:Int) < ((l1.length:Int):Int):=of_decide_eq_true (by first|(with_reducible assumption)|assumption);obtain ⟨YK,co7,eo7,gb7,gl7,cl7,T5⟩:=Kd.Qo gf.out (by omega);(first|cases eo7|(injection eo7 with Ei en_ ec_;(first|subst Ei|(injection Ei with Ei;subst Ei));subst ec_;clear en_));have GB7:=ja.mk gb7;have GG7:=ja.mk T5;clear gb7 gl7 T5;have kal:=ja.mk (show (Uj YK ∨ w.heap.size ≤ YK) from (gf.out.1 _ rfl).1);obtain ⟨ce7,dU,X1,bw,Zv⟩:=Kd.ah gf.out YI (Ma:Int) p7 q7;obtain rfl:=rj X1;have qW:Nk.cell? ⟨YK,(Ma:Int).toNat * 2,none⟩=some (.int .i64 ((Ld l1 Ma).f0)):=bw 0 _ rfl;have pW:Nk.cell? ⟨YK,(Ma:Int).toNat * 2 + 1,none⟩=some (.int .i64 ((Ld l1 Ma).f1)):=bw 1 _ rfl;have VY:Nk.frozen? ⟨YK,(Ma:Int).toNat * 2,none⟩=false:=Zv 0;have UY:Nk.frozen? ⟨YK,(Ma:Int).toNat * 2 + 1,none⟩=false:=Zv 1;clear dU bw Zv X1;replace p7:=eq_true p7;replace q7:=eq_true q7;have DL:=ja.mk (show Kd.R Jl 77 Nk w0.heap.size (fun k_=>(Uj k_ ∨ w.heap.size ≤ k_)∧k_ ≠ Fa) (.slice (some ⟨YK,0,none⟩) l1.length co7) l1 from (by (with_reducible repeat (first|apply Kd.Dc|apply Kd.Ic|apply Kd.Zc));exact gf.out));obtain ⟨Uag,iC,XK,Iv,Az⟩:=Kd.ah DL.out YI (Ma:Int) (of_decide_eq_true (by first|(with_reducible assumption)|assumption)) (by have h_:(Ma:Int) < ((l1.length:Int):Int):=of_decide_eq_true (by first|(with_reducible assumption)|assumption);first|exact h_|(have e_:=(Kd.Cc gf.out).1;omega)|simpa using h_);obtain rfl:=rj XK;have wE:=Kd.Pn DL.out (Ma:Int) (of_decide_eq_true (by first|(with_reducible assumption)|assumption)) (by have h_:(Ma:Int) < ((l1.length:Int):Int):=of_decide_eq_true (by first|(with_reducible assumption)|assumption);first|exact h_|(have e_:=(Kd.Cc gf.out).1;omega)|simpa using h_) (seg:=[.int .i64 (-1),.int .i64 Od]) (j:=0) iC Iv (show 2 ≤ 2 from by decide) (x':=(⟨(-1),Od⟩:Lj)) (Mq _ _ _ (⟨(-1),Od⟩:Lj) ) (fun _ hk=>hk);have nT:=Iv 0 _ rfl;(try simp only [show (Jl).sz=2 from rfl,Nat.mul_one,Nat.add_zero] at nT);have WT:=Az 0;(try simp only [show (Jl).sz=2 from rfl,Nat.mul_one,Nat.add_zero] at WT);have mT:=Iv 1 _ rfl;(try simp only [show (Jl).sz=2 from rfl,Nat.mul_one,Nat.add_zero] at mT);have VT:=Az 1;(try simp only [show (Jl).sz=2 from rfl,Nat.mul_one,Nat.add_zero] at VT);clear iC Iv Az XK)|((with_reducible refine qf (t:=77) (p:=56) rfl ?_);refine Xe (t:=77) (p:=56) (v:=?vo_w19) (w1:=((Nk.setCell ⟨YK,(Ma:Int).toNat * 2,none⟩ (.int .i64 (-1))).setCell ⟨YK,(Ma:Int).toNat * 2 + 1,none⟩ (.int .i64 Od))) ?hg ?ho ?hn ?hr ?_;(case ho=>rfl);(case hg=>rfl);(case hn=>rfl);(case hr=>first|(go_simp;done)|(go_simp;rfl));intro Uv hw;have hg:Nk.grownBy Uv (some YK):=(by rw [hw];exact wE.2);have Gn:Kd.R Jl 77 Uv w0.heap.size (fun k_=>(Uj k_ ∨ w.heap.size ≤ k_)∧k_ ≠ Fa) (.slice (some ⟨YK,0,none⟩) l1.length co7) Dg:=(by rw [hw,AL.out];exact wE.1);clear wE;have Gb:=ja.mk (Gn);have Vb:=ja.mk (ji (g:=Ea) (o:=.cells #[.int .i64 Pc,.int .i64 Ma,.int .i64 Oa,.int .i64 Pa,.int .i64 nc,.int .i64 Od,.string Nd] 70 (0,0)) (by (with_reducible repeat (first|refine Da ?_ _|refine Ga ?_|refine Ca ?_ _));exact za.out) hg (Kd.Ly gf.out za.out (by decide)));have Ac:=ja.mk (ji (g:=Fa) (o:=.cells #[.int .i64 (-1),.int .i64 Od] 77 (0,0)) (by (with_reducible repeat (first|refine Da ?_ _|refine Ga ?_|refine Ca ?_ _));exact Ba.out) hg (Kd.Yd gf.out (fun _ hk=>hk.2)));have ud:=ja.mk ((by rw [hw];exact Aa (Aa (HB.out) GB7.out) GB7.out:Below w0.heap.size w0 Uv));have ef:=ja.mk (Kept.Fh (S:=(fun k_=>Uj k_)) hg (by repeat (first|(with_reducible first|exact HK.out|apply Kept.alloc|apply Kept.drewN|apply Kept.drew|refine Kept.setCell ?_ (.inr Be.out) _|refine Kept.setCell ?_ (.inr Df.out) _)|exact HK.out)) (fun k_ e_=>(gf.out.1 k_ e_).1));clear gf;clear za;clear Ba;clear HB;clear HK;have gf:=Gb;have za:=Vb;have Ba:=Ac;have HB:=ud;have HK:=ef;clear Gb Vb Ac ud ef;clear hg hw Gn))
    go_ret
    exact ⟨by first|rfl|(simp [La,Ka] <;> rfl)|(simp [*,La,Ka] <;> rfl),by (with_reducible repeat (first|apply Kd.Dc|apply Kd.Ic|apply Kd.Zc));exact Kd.Oe gf.out (fun _ hk=>hk.1),by repeat (first|(with_reducible first|exact HB.out|apply qa|apply ia|apply ua|refine Aa ?_ Wa.out|refine Aa ?_ Sb.out)|exact HB.out),by repeat (first|(with_reducible first|exact HK.out|apply Kept.alloc|apply Kept.drewN|apply Kept.drew|refine Kept.setCell ?_ (.inr Be.out) _|refine Kept.setCell ?_ (.inr Df.out) _)|exact HK.out)⟩
   ·rw [if_neg c6] at H
    exact absurd H (by simp)
  ·rw [if_neg c5] at H
   exact absurd H (by simp)
 ·rw [if_neg c4] at H
  have Gi:(Pc == 0)=false:=beq_eq_false_iff_ne.mpr c4
  have CC:(Pc != 0)=true:=bne_iff_ne.mpr c4
  by_cases c20:Pc=1
  ·rw [if_pos c20] at H
   have pL:(Pc == 1)=true:=beq_iff_eq.mpr c20
   have E4:(Pc != 1)=false:=bne_eq_false_iff_eq.mpr c20
   clear c20
   by_cases c21:0 ≤ Oa
   ·rw [if_pos c21] at H
    have EC:decide (0 ≤ Oa)=true:=decide_eq_true c21
    clear c21
    by_cases c22:Oa < (l1.length:Int)
    ·rw [if_pos c22] at H
     have Vak:decide (Oa < (l1.length:Int))=true:=decide_eq_true c22
     clear c22
     by_cases c23:0 ≤ Ma
     ·rw [if_pos c23] at H
      have Uak:decide (0 ≤ Ma)=true:=decide_eq_true c23
      clear c23
      by_cases c24:Ma < (l1.length:Int)
      ·rw [if_pos c24] at H
       have Tak:decide (Ma < (l1.length:Int))=true:=decide_eq_true c24
       clear c24
       obtain ⟨Ef,hy105⟩:∃ y_:List (Lj),y_=(l1.set (Ma:Int).toNat (⟨(Ld l1 Oa).f0,(Ld l1 Oa).f1⟩:Lj)):=⟨_,rfl⟩
       replace H:(some (a2,Ef))=some (r1,r2):=by first|(rw [hy105];with_reducible exact H)|(have Eh:=(Option.bind_some _ _).symm.trans H;rw [hy105];with_reducible exact Eh)|(have Eh:=(Option.bind_some _ _).symm.trans H;with_reducible exact Eh)|with_reducible exact H|(rw [hy105];exact H)|exact H
       have OC:=ja.mk hy105
       clear hy105
       simp only [Option.some.injEq,Prod.mk.injEq] at H
       obtain ⟨rfl,rfl⟩:=H
       go_enter Try.func78,Try.ntmps78
       go_wp2_with (first|((with_reducible refine Kb (N:=3) rfl ?_);refine Eb ?hg (N:=3) ?hd (cs:=#[.int .i64 Pc,.int .i64 Ma,.int .i64 Oa,.int .i64 Pa,.int .i64 nc,.int .i64 Od,.string Nd]) (t:=70) ?hr ?_;(case hd=>rfl);(case hg=>rfl);(case hr=>first|(go_simp;done)|(go_simp;rfl));intro Ea hg Rn Tb hb;have Gb:=ja.mk (Kd.Ce (by (with_reducible repeat (first|apply Kd.Dc|apply Kd.Ic|apply Kd.Zc));exact gf.out) hb);have Vb:=ja.mk (Kept.below (S:=(fun k_=>Uj k_)) (by repeat (first|(with_reducible first|exact HK.out|apply Kept.alloc|apply Kept.drewN|apply Kept.drew)|exact HK.out)) hb);have Ac:=ja.mk (Qa (by repeat (first|(with_reducible first|exact HB.out|apply qa|apply ia|apply ua)|exact HB.out)) hb);have ud:=ja.mk (Tb);have ef:=ja.mk ((by rw [hg];exact (by first|exact HK.out.1|exact (show Kept w _ (fun k_=>Uj k_) from by repeat (first|(with_reducible first|exact HK.out|apply Kept.alloc|apply Kept.drewN|apply Kept.drew)|exact HK.out)).1):w.heap.size ≤ Ea));have Ag:=ja.mk ((by rw [hg];exact (Ra (by repeat (first|(with_reducible first|exact HB.out|apply qa|apply ia|apply ua)|exact HB.out))):w0.heap.size ≤ Ea));clear gf;clear HK;clear HB;have gf:=Gb;have HK:=Vb;have HB:=Ac;have za:=ud;have Be:=ef;have Wa:=Ag;clear Gb Vb Ac ud ef Ag;clear hb Tb hg)|((with_reducible refine Kb (N:=7) rfl ?_);refine Eb ?hg (N:=7) ?hd (cs:=#[.int .i64 0,.int .i64 0]) (t:=77) ?hr ?_;(case hd=>rfl);(case hg=>rfl);(case hr=>first|(go_simp;done)|(go_simp;rfl));intro Fa hg u7 Tb hb;have Gb:=ja.mk (Kd.Ce (Kd.Cq (by (with_reducible repeat (first|apply Kd.Dc|apply Kd.Ic|apply Kd.Zc));exact gf.out) Fa (Nat.le_of_eq hg.symm)) hb);have Vb:=ja.mk (gb (g:=Ea) (o:=.cells #[.int .i64 Pc,.int .i64 Ma,.int .i64 Oa,.int .i64 Pa,.int .i64 nc,.int .i64 Od,.string Nd] 70 (0,0)) (by (with_reducible repeat (first|refine Da ?_ _|refine Ga ?_|refine Ca ?_ _));exact za.out) hb);have Ac:=ja.mk (Kept.below (S:=(fun k_=>Uj k_)) (by repeat (first|(with_reducible first|exact HK.out|apply Kept.alloc|apply Kept.drewN|apply Kept.drew|refine Kept.setCell ?_ (.inr Be.out) _)|exact HK.out)) hb);have ud:=ja.mk (Qa (by repeat (first|(with_reducible first|exact HB.out|apply qa|apply ia|apply ua|refine Aa ?_ Wa.out)|exact HB.out)) hb);have ef:=ja.mk (Tb);have Ag:=ja.mk ((by rw [hg];exact (by first|exact HK.out.1|exact (show Kept w _ (fun k_=>Uj k_) from by repeat (first|(with_reducible first|exact HK.out|apply Kept.alloc|apply Kept.drewN|apply Kept.drew|refine Kept.setCell ?_ (.inr Be.out) _)|exact HK.out)).1):w.heap.size ≤ Fa));have dh:=ja.mk ((by rw [hg];exact (Ra (by repeat (first|(with_reducible first|exact HB.out|apply qa|apply ia|apply ua|refine Aa ?_ Wa.out)|exact HB.out))):w0.heap.size ≤ Fa));have Fv:=ja.mk ((by rw [hg];exact Nat.ne_of_lt (Lc (g:=Ea) (o:=.cells #[.int .i64 Pc,.int .i64 Ma,.int .i64 Oa,.int .i64 Pa,.int .i64 nc,.int .i64 Od,.string Nd] 70 (0,0)) (by (with_reducible repeat (first|refine Da ?_ _|refine Ga ?_|refine Ca ?_ _));exact za.out)):Ea ≠ Fa));have Dv:=ja.mk ((by rw [hg];exact Nat.ne_of_gt (Lc (g:=Ea) (o:=.cells #[.int .i64 Pc,.int .i64 Ma,.int .i64 Oa,.int .i64 Pa,.int .i64 nc,.int .i64 Od,.string Nd] 70 (0,0)) (by (with_reducible repeat (first|refine Da ?_ _|refine Ga ?_|refine Ca ?_ _));exact za.out)):Fa ≠ Ea));clear gf;clear za;clear HK;clear HB;have gf:=Gb;have za:=Vb;have HK:=Ac;have HB:=ud;have Ba:=ef;have Df:=Ag;have Sb:=dh;have Ua:=Fv;have jb:=Dv;clear Gb Vb Ac ud ef Ag dh Fv Dv;clear hb Tb hg;have iR:=jb.out;have cR:=Ua.out;have Wp:u7.cell? ⟨Fa,0,none⟩=some (.int .i64 0):=(ga Ba.out 0).trans rfl;have Vp:u7.cell? ⟨Fa,1,none⟩=some (.int .i64 0):=(ga Ba.out 1).trans rfl;have Fp:=aa Ba.out 0;have Ep:=aa Ba.out 1)|((with_reducible refine qf (t:=77) (p:=7) rfl ?_);refine Xe (t:=77) (p:=7) (v:=?vo_w30) (w1:=((u7.setCell ⟨Fa,0,none⟩ (.int .i64 0)).setCell ⟨Fa,1,none⟩ (.int .i64 0))) ?hg ?ho ?hn ?hr ?_;(case ho=>rfl);(case hg=>rfl);(case hn=>rfl);(case hr=>first|(go_simp;done)|(go_simp;rfl));intro Mu hw;have Gb:ja (Kd.R Jl 77 Mu w0.heap.size (fun k_=>(Uj k_ ∨ w.heap.size ≤ k_)∧k_ ≠ Fa) Cg l1):=⟨(by rw [hw];exact (by (with_reducible repeat (first|apply Kd.Dc|apply Kd.Ic|apply Kd.Zc));exact Kd.Oe (Kd.qg (p:=⟨Fa,1,none⟩) (Kd.qg (p:=⟨Fa,0,none⟩) (Kd.Oe gf.out (fun k_ hk=>(⟨hk,hk.2⟩:_∧k_ ≠ Fa))) (fun _ hk=>hk.2) (.int .i64 0)) (fun _ hk=>hk.2) (.int .i64 0)) (fun _ hk=>⟨hk.1.1,hk.1.2⟩)))⟩;have Vb:ja (Mu.heap[Ea]? = some (.cells #[.int .i64 Pc,.int .i64 Ma,.int .i64 Oa,.int .i64 Pa,.int .i64 nc,.int .i64 Od,.string Nd] 70 (0,0))):=⟨(by rw [hw];exact (by (with_reducible repeat (first|refine Da ?_ _|refine Ga ?_|refine Ca ?_ _));refine jd ?_ Ua.out _;(with_reducible repeat (first|refine Da ?_ _|refine Ga ?_|refine Ca ?_ _));refine jd ?_ Ua.out _;(with_reducible repeat (first|refine Da ?_ _|refine Ga ?_|refine Ca ?_ _));exact za.out))⟩;have Ac:ja (Mu.heap[Fa]? = some (.cells #[.int .i64 0,.int .i64 0] 77 (0,0))):=⟨(by rw [hw];exact (by (with_reducible repeat (first|refine Da ?_ _|refine Ga ?_|refine Ca ?_ _));refine Wb (cs:=#[.int .i64 0,.int .i64 0]) ?_ 1 _ rfl;(with_reducible repeat (first|refine Da ?_ _|refine Ga ?_|refine Ca ?_ _));refine Wb (cs:=#[.int .i64 0,.int .i64 0]) ?_ 0 _ rfl;(with_reducible repeat (first|refine Da ?_ _|refine Ga ?_|refine Ca ?_ _));exact Ba.out))⟩;have ud:ja (Kept w Mu (fun k_=>Uj k_)):=⟨(by rw [hw];exact (by repeat (first|(with_reducible first|exact HK.out|apply Kept.alloc|apply Kept.drewN|apply Kept.drew|refine Kept.setCell ?_ (.inr Be.out) _|refine Kept.setCell ?_ (.inr Df.out) _)|exact HK.out)))⟩;have ef:ja (Below w0.heap.size w0 Mu):=⟨(by rw [hw];exact (by repeat (first|(with_reducible first|exact HB.out|apply qa|apply ia|apply ua|refine Aa ?_ Wa.out|refine Aa ?_ Sb.out)|exact HB.out)))⟩;clear hw;clear gf;clear za;clear Ba;clear HK;clear HB;have gf:=Gb;have za:=Vb;have Ba:=Ac;have HK:=ud;have HB:=ef;clear Gb Vb Ac ud ef;have dx:Mu.cell? ⟨Ea,0,none⟩=some (.int .i64 Pc):=(ga za.out 0).trans rfl;have cx:Mu.cell? ⟨Ea,1,none⟩=some (.int .i64 Ma):=(ga za.out 1).trans rfl;have ax:Mu.cell? ⟨Ea,2,none⟩=some (.int .i64 Oa):=(ga za.out 2).trans rfl;have Zw:Mu.cell? ⟨Ea,3,none⟩=some (.int .i64 Pa):=(ga za.out 3).trans rfl;have Yw:Mu.cell? ⟨Ea,4,none⟩=some (.int .i64 nc):=(ga za.out 4).trans rfl;have Pad:Mu.cell? ⟨Ea,5,none⟩=some (.int .i64 Od):=(ga za.out 5).trans rfl;have Oad:Mu.cell? ⟨Ea,6,none⟩=some (.string Nd):=(ga za.out 6).trans rfl;have zw:=aa za.out 0;have yw:=aa za.out 1;have xw:=aa za.out 2;have vw:=aa za.out 3;have uw:=aa za.out 4;have Caa:=aa za.out 5;have Baa:=aa za.out 6;obtain ⟨Wan,rU,Kag⟩:=Kd.Hf gf.out;subst Kag;have zh:0 ≤ (Oa:Int):=of_decide_eq_true (by first|(with_reducible assumption)|assumption);have xh:Oa < (l1.length:Int):=of_decide_eq_true (by first|(with_reducible assumption)|assumption);obtain ⟨Wj,um,Zd,Me⟩:=Ls (Kd.Cc gf.out).2.2 Oa zh xh;cases um;replace zh:=eq_true zh;replace xh:=eq_true xh;have Xw:Mu.cell? ⟨Fa,0,none⟩=some (.int .i64 0):=(ga Ba.out 0).trans rfl;have Ww:Mu.cell? ⟨Fa,1,none⟩=some (.int .i64 0):=(ga Ba.out 1).trans rfl;have tw:=aa Ba.out 0;have sw:=aa Ba.out 1)|((with_reducible refine qf (t:=77) (p:=7) rfl ?_);refine Xe (t:=77) (p:=7) (v:=?vo_w34) (w1:=((Mu.setCell ⟨Fa,0,none⟩ (.int .i64 ((Ld l1 Oa).f0))).setCell ⟨Fa,1,none⟩ (.int .i64 ((Ld l1 Oa).f1)))) ?hg ?ho ?hn ?hr ?_;(case ho=>rfl);(case hg=>rfl);(case hn=>rfl);(case hr=>first|(go_simp;done)|(go_simp;rfl));intro Vr hw;have Gb:ja (Kd.R Jl 77 Vr w0.heap.size (fun k_=>(Uj k_ ∨ w.heap.size ≤ k_)∧k_ ≠ Fa) (.slice (some Wj) l1.length rU) l1):=⟨(by rw [hw];exact (by (with_reducible repeat (first|apply Kd.Dc|apply Kd.Ic|apply Kd.Zc));exact Kd.Oe (Kd.qg (p:=⟨Fa,1,none⟩) (Kd.qg (p:=⟨Fa,0,none⟩) (Kd.Oe gf.out (fun k_ hk=>(⟨hk,hk.2⟩:_∧k_ ≠ Fa))) (fun _ hk=>hk.2) (.int .i64 ((Ld l1 Oa).f0))) (fun _ hk=>hk.2) (.int .i64 ((Ld l1 Oa).f1))) (fun _ hk=>⟨hk.1.1,hk.1.2⟩)))⟩;have Vb:ja (Vr.heap[Ea]? = some (.cells #[.int .i64 Pc,.int .i64 Ma,.int .i64 Oa,.int .i64 Pa,.int .i64 nc,.int .i64 Od,.string Nd] 70 (0,0))):=⟨(by rw [hw];exact (by (with_reducible repeat (first|refine Da ?_ _|refine Ga ?_|refine Ca ?_ _));refine jd ?_ Ua.out _;(with_reducible repeat (first|refine Da ?_ _|refine Ga ?_|refine Ca ?_ _));refine jd ?_ Ua.out _;(with_reducible repeat (first|refine Da ?_ _|refine Ga ?_|refine Ca ?_ _));exact za.out))⟩;have Ac:ja (Vr.heap[Fa]? = some (.cells #[.int .i64 ((Ld l1 Oa).f0),.int .i64 ((Ld l1 Oa).f1)] 77 (0,0))):=⟨(by rw [hw];exact (by (with_reducible repeat (first|refine Da ?_ _|refine Ga ?_|refine Ca ?_ _));refine Wb (cs:=#[.int .i64 ((Ld l1 Oa).f0),.int .i64 0]) ?_ 1 _ rfl;(with_reducible repeat (first|refine Da ?_ _|refine Ga ?_|refine Ca ?_ _));refine Wb (cs:=#[.int .i64 0,.int .i64 0]) ?_ 0 _ rfl;(with_reducible repeat (first|refine Da ?_ _|refine Ga ?_|refine Ca ?_ _));exact Ba.out))⟩;have ud:ja (Kept w Vr (fun k_=>Uj k_)):=⟨(by rw [hw];exact (by repeat (first|(with_reducible first|exact HK.out|apply Kept.alloc|apply Kept.drewN|apply Kept.drew|refine Kept.setCell ?_ (.inr Be.out) _|refine Kept.setCell ?_ (.inr Df.out) _)|exact HK.out)))⟩;have ef:ja (Below w0.heap.size w0 Vr):=⟨(by rw [hw];exact (by repeat (first|(with_reducible first|exact HB.out|apply qa|apply ia|apply ua|refine Aa ?_ Wa.out|refine Aa ?_ Sb.out)|exact HB.out)))⟩;clear hw;clear gf;clear za;clear Ba;clear HK;clear HB;have gf:=Gb;have za:=Vb;have Ba:=Ac;have HK:=ud;have HB:=ef;clear Gb Vb Ac ud ef;have fu:Vr.cell? ⟨Ea,0,none⟩=some (.int .i64 Pc):=(ga za.out 0).trans rfl;have eu:Vr.cell? ⟨Ea,1,none⟩=some (.int .i64 Ma):=(ga za.out 1).trans rfl;have lH:Vr.cell? ⟨Ea,2,none⟩=some (.int .i64 Oa):=(ga za.out 2).trans rfl;have kH:Vr.cell? ⟨Ea,3,none⟩=some (.int .i64 Pa):=(ga za.out 3).trans rfl;have jH:Vr.cell? ⟨Ea,4,none⟩=some (.int .i64 nc):=(ga za.out 4).trans rfl;have Iad:Vr.cell? ⟨Ea,5,none⟩=some (.int .i64 Od):=(ga za.out 5).trans rfl;have Had:Vr.cell? ⟨Ea,6,none⟩=some (.string Nd):=(ga za.out 6).trans rfl;have Ft:=aa za.out 0;have Et:=aa za.out 1;have SF:=aa za.out 2;have RF:=aa za.out 3;have QF:=aa za.out 4;have vaa:=aa za.out 5;have uaa:=aa za.out 6;have jr:Vr.cell? ⟨Fa,0,none⟩=some (.int .i64 ((Ld l1 Oa).f0)):=(ga Ba.out 0).trans rfl;have gr:Vr.cell? ⟨Fa,1,none⟩=some (.int .i64 ((Ld l1 Oa).f1)):=(ga Ba.out 1).trans rfl;have Qq:=aa Ba.out 0;have Pq:=aa Ba.out 1;have p25:0 ≤ (Ma:Int):=of_decide_eq_true (by first|(with_reducible assumption)|assumption);have q25:(Ma:Int) < ((l1.length:Int):Int):=of_decide_eq_true (by first|(with_reducible assumption)|assumption);obtain ⟨qy,Rag,pQ,U2,Dag,Uam,X5⟩:=Kd.Qo gf.out (by omega);(first|cases pQ|(injection pQ with Ei en_ ec_;(first|subst Ei|(injection Ei with Ei;subst Ei));subst ec_;clear en_));have M6:=ja.mk U2;have Oan:=ja.mk X5;clear U2 Dag X5;have iah:=ja.mk (show (Uj qy ∨ w.heap.size ≤ qy) from (gf.out.1 _ rfl).1);(first|simp only [add_plain] at Zd|skip);(first|simp only [add_plain] at Me|skip);obtain ⟨ean,Q1,F2,QK,sK⟩:=Kd.ah gf.out YI (Ma:Int) p25 q25;obtain rfl:=rj F2;have Iae:Vr.cell? ⟨qy,(Ma:Int).toNat * 2,none⟩=some (.int .i64 ((Ld l1 Ma).f0)):=QK 0 _ rfl;have Hae:Vr.cell? ⟨qy,(Ma:Int).toNat * 2 + 1,none⟩=some (.int .i64 ((Ld l1 Ma).f1)):=QK 1 _ rfl;have Oaf:Vr.frozen? ⟨qy,(Ma:Int).toNat * 2,none⟩=false:=sK 0;have Naf:Vr.frozen? ⟨qy,(Ma:Int).toNat * 2 + 1,none⟩=false:=sK 1;clear Q1 QK sK F2;replace p25:=eq_true p25;replace q25:=eq_true q25;have e5:=ja.mk (show Kd.R Jl 77 Vr w0.heap.size (fun k_=>(Uj k_ ∨ w.heap.size ≤ k_)∧k_ ≠ Fa) (.slice (some ⟨qy,0,none⟩) l1.length rU) l1 from (by (with_reducible repeat (first|apply Kd.Dc|apply Kd.Ic|apply Kd.Zc));exact gf.out));obtain ⟨ban,uR,D2,FH,rK⟩:=Kd.ah e5.out YI (Ma:Int) (of_decide_eq_true (by first|(with_reducible assumption)|assumption)) (by have h_:(Ma:Int) < ((l1.length:Int):Int):=of_decide_eq_true (by first|(with_reducible assumption)|assumption);first|exact h_|(have e_:=(Kd.Cc gf.out).1;omega)|simpa using h_);obtain rfl:=rj D2;have bV:=Kd.Pn e5.out (Ma:Int) (of_decide_eq_true (by first|(with_reducible assumption)|assumption)) (by have h_:(Ma:Int) < ((l1.length:Int):Int):=of_decide_eq_true (by first|(with_reducible assumption)|assumption);first|exact h_|(have e_:=(Kd.Cc gf.out).1;omega)|simpa using h_) (seg:=[.int .i64 ((Ld l1 Oa).f0),.int .i64 ((Ld l1 Oa).f1)]) (j:=0) uR FH (show 2 ≤ 2 from by decide) (x':=(⟨(Ld l1 Oa).f0,(Ld l1 Oa).f1⟩:Lj)) (Mq _ _ _ (⟨(Ld l1 Oa).f0,(Ld l1 Oa).f1⟩:Lj) ) (fun _ hk=>hk);have fT:=FH 0 _ rfl;(try simp only [show (Jl).sz=2 from rfl,Nat.mul_one,Nat.add_zero] at fT);have OT:=rK 0;(try simp only [show (Jl).sz=2 from rfl,Nat.mul_one,Nat.add_zero] at OT);have eT:=FH 1 _ rfl;(try simp only [show (Jl).sz=2 from rfl,Nat.mul_one,Nat.add_zero] at eT);have NT:=rK 1;(try simp only [show (Jl).sz=2 from rfl,Nat.mul_one,Nat.add_zero] at NT);clear uR FH rK D2)|((with_reducible refine qf (t:=77) (p:=56) rfl ?_);refine Xe (t:=77) (p:=56) (v:=?vo_w38) (w1:=((Vr.setCell ⟨qy,(Ma:Int).toNat * 2,none⟩ (.int .i64 ((Ld l1 Oa).f0))).setCell ⟨qy,(Ma:Int).toNat * 2 + 1,none⟩ (.int .i64 ((Ld l1 Oa).f1)))) ?hg ?ho ?hn ?hr ?_;(case ho=>rfl);(case hg=>rfl);(case hn=>rfl);(case hr=>first|(go_simp;done)|(go_simp;rfl));intro Tv hw;have hg:Vr.grownBy Tv (some qy):=(by rw [hw];exact bV.2);have Gn:Kd.R Jl 77 Tv w0.heap.size (fun k_=>(Uj k_ ∨ w.heap.size ≤ k_)∧k_ ≠ Fa) (.slice (some ⟨qy,0,none⟩) l1.length rU) Ef:=(by rw [hw,OC.out];exact bV.1);clear bV;have Gb:=ja.mk (Gn);have Vb:=ja.mk (ji (g:=Ea) (o:=.cells #[.int .i64 Pc,.int .i64 Ma,.int .i64 Oa,.int .i64 Pa,.int .i64 nc,.int .i64 Od,.string Nd] 70 (0,0)) (by (with_reducible repeat (first|refine Da ?_ _|refine Ga ?_|refine Ca ?_ _));exact za.out) hg (Kd.Ly gf.out za.out (by decide)));have Ac:=ja.mk (ji (g:=Fa) (o:=.cells #[.int .i64 ((Ld l1 Oa).f0),.int .i64 ((Ld l1 Oa).f1)] 77 (0,0)) (by (with_reducible repeat (first|refine Da ?_ _|refine Ga ?_|refine Ca ?_ _));exact Ba.out) hg (Kd.Yd gf.out (fun _ hk=>hk.2)));have ud:=ja.mk ((by rw [hw];exact Aa (Aa (HB.out) M6.out) M6.out:Below w0.heap.size w0 Tv));have ef:=ja.mk (Kept.Fh (S:=(fun k_=>Uj k_)) hg (by repeat (first|(with_reducible first|exact HK.out|apply Kept.alloc|apply Kept.drewN|apply Kept.drew|refine Kept.setCell ?_ (.inr Be.out) _|refine Kept.setCell ?_ (.inr Df.out) _)|exact HK.out)) (fun k_ e_=>(gf.out.1 k_ e_).1));clear gf;clear za;clear Ba;clear HB;clear HK;have gf:=Gb;have za:=Vb;have Ba:=Ac;have HB:=ud;have HK:=ef;clear Gb Vb Ac ud ef;clear hg hw Gn))
       go_ret
       exact ⟨by first|rfl|(simp [La,Ka] <;> rfl)|(simp [*,La,Ka] <;> rfl),by (with_reducible repeat (first|apply Kd.Dc|apply Kd.Ic|apply Kd.Zc));exact Kd.Oe gf.out (fun _ hk=>hk.1),by repeat (first|(with_reducible first|exact HB.out|apply qa|apply ia|apply ua|refine Aa ?_ Wa.out|refine Aa ?_ Sb.out)|exact HB.out),by repeat (first|(with_reducible first|exact HK.out|apply Kept.alloc|apply Kept.drewN|apply Kept.drew|refine Kept.setCell ?_ (.inr Be.out) _|refine Kept.setCell ?_ (.inr Df.out) _)|exact HK.out)⟩
      ·rw [if_neg c24] at H
       exact absurd H (by simp)
     ·rw [if_neg c23] at H
      exact absurd H (by simp)
    ·rw [if_neg c22] at H
     exact absurd H (by simp)
   ·rw [if_neg c21] at H
    exact absurd H (by simp)
  ·rw [if_neg c20] at H
   have pL:(Pc == 1)=false:=beq_eq_false_iff_ne.mpr c20
   have E4:(Pc != 1)=true:=bne_iff_ne.mpr c20
   by_cases c39:Pc=2
   ·rw [if_pos c39] at H
    have GR:(Pc == 2)=true:=beq_iff_eq.mpr c39
    have FR:(Pc != 2)=false:=bne_eq_false_iff_eq.mpr c39
    clear c39
    by_cases c40:0 ≤ Oa
    ·rw [if_pos c40] at H
     have Sak:decide (0 ≤ Oa)=true:=decide_eq_true c40
     clear c40
     by_cases c41:Oa < (l1.length:Int)
     ·rw [if_pos c41] at H
      have Rak:decide (Oa < (l1.length:Int))=true:=decide_eq_true c41
      clear c41
      by_cases c42:0 ≤ Pa
      ·rw [if_pos c42] at H
       have Qak:decide (0 ≤ Pa)=true:=decide_eq_true c42
       clear c42
       by_cases c43:Pa < (l1.length:Int)
       ·rw [if_pos c43] at H
        have Pak:decide (Pa < (l1.length:Int))=true:=decide_eq_true c43
        clear c43
        replace H:=Option.bind_eq_some_iff.mp H
        obtain ⟨⟨t108,t109,t110⟩,P6,H⟩:=H
        replace H:(if t110=true then (if 0 ≤ Ma then (if Ma < (l1.length:Int) then (some (a2,(l1.set (Ma:Int).toNat (⟨t108,t109⟩:Lj)))) else (none)) else (none)) else (if 0 ≤ Ma then (if Ma < (l1.length:Int) then (some (wrap64 (a2 + 1),(l1.set (Ma:Int).toNat (⟨a2,0⟩:Lj)))) else (none)) else (none)))=some (r1,r2):=H
        have A44:=ja.mk P6
        clear P6
        by_cases c45:t110=true
        ·subst c45
         have H1:(if 0 ≤ Ma then (if Ma < (l1.length:Int) then (some (a2,(l1.set (Ma:Int).toNat (⟨t108,t109⟩:Lj)))) else (none)) else (none))=some (r1,r2):=by rw [if_pos rfl] at H;exact H
         clear H
         have H:=H1
         clear H1
         by_cases c46:0 ≤ Ma
         ·rw [if_pos c46] at H
          have MH:decide (0 ≤ Ma)=true:=decide_eq_true c46
          clear c46
          by_cases c47:Ma < (l1.length:Int)
          ·rw [if_pos c47] at H
           have Oak:decide (Ma < (l1.length:Int))=true:=decide_eq_true c47
           clear c47
           obtain ⟨y111,hy111⟩:∃ y_:List (Lj),y_=(l1.set (Ma:Int).toNat (⟨t108,t109⟩:Lj)):=⟨_,rfl⟩
           replace H:(some (a2,y111))=some (r1,r2):=by first|(rw [hy111];with_reducible exact H)|(have Eh:=(Option.bind_some _ _).symm.trans H;rw [hy111];with_reducible exact Eh)|(have Eh:=(Option.bind_some _ _).symm.trans H;with_reducible exact Eh)|with_reducible exact H|(rw [hy111];exact H)|exact H
           have R4:=ja.mk hy111
           clear hy111
           simp only [Option.some.injEq,Prod.mk.injEq] at H
           obtain ⟨rfl,rfl⟩:=H
           go_enter Try.func78,Try.ntmps78
           try go_wp2_with (first|((with_reducible refine Kb (N:=3) rfl ?_);refine Eb ?hg (N:=3) ?hd (cs:=#[.int .i64 Pc,.int .i64 Ma,.int .i64 Oa,.int .i64 Pa,.int .i64 nc,.int .i64 Od,.string Nd]) (t:=70) ?hr ?_;(case hd=>rfl);(case hg=>rfl);(case hr=>first|(go_simp;done)|(go_simp;rfl));intro Ea hg w49 Tb hb;have Gb:=ja.mk (Kd.Ce (by (with_reducible repeat (first|apply Kd.Dc|apply Kd.Ic|apply Kd.Zc));exact gf.out) hb);have Vb:=ja.mk (Kept.below (S:=(fun k_=>Uj k_)) (by repeat (first|(with_reducible first|exact HK.out|apply Kept.alloc|apply Kept.drewN|apply Kept.drew)|exact HK.out)) hb);have Ac:=ja.mk (Qa (by repeat (first|(with_reducible first|exact HB.out|apply qa|apply ia|apply ua)|exact HB.out)) hb);have ud:=ja.mk (Tb);have ef:=ja.mk ((by rw [hg];exact (by first|exact HK.out.1|exact (show Kept w _ (fun k_=>Uj k_) from by repeat (first|(with_reducible first|exact HK.out|apply Kept.alloc|apply Kept.drewN|apply Kept.drew)|exact HK.out)).1):w.heap.size ≤ Ea));have Ag:=ja.mk ((by rw [hg];exact (Ra (by repeat (first|(with_reducible first|exact HB.out|apply qa|apply ia|apply ua)|exact HB.out))):w0.heap.size ≤ Ea));clear gf;clear HK;clear HB;have gf:=Gb;have HK:=Vb;have HB:=Ac;have za:=ud;have Be:=ef;have Wa:=Ag;clear Gb Vb Ac ud ef Ag;clear hb Tb hg)|((with_reducible refine Kb (N:=7) rfl ?_);refine Eb ?hg (N:=7) ?hd (cs:=#[.int .i64 0,.int .i64 0]) (t:=77) ?hr ?_;(case hd=>rfl);(case hg=>rfl);(case hr=>first|(go_simp;done)|(go_simp;rfl));intro Fa hg Bv Tb hb;have Gb:=ja.mk (Kd.Ce (Kd.Cq (by (with_reducible repeat (first|apply Kd.Dc|apply Kd.Ic|apply Kd.Zc));exact gf.out) Fa (Nat.le_of_eq hg.symm)) hb);have Vb:=ja.mk (gb (g:=Ea) (o:=.cells #[.int .i64 Pc,.int .i64 Ma,.int .i64 Oa,.int .i64 Pa,.int .i64 nc,.int .i64 Od,.string Nd] 70 (0,0)) (by (with_reducible repeat (first|refine Da ?_ _|refine Ga ?_|refine Ca ?_ _));exact za.out) hb);have Ac:=ja.mk (Kept.below (S:=(fun k_=>Uj k_)) (by repeat (first|(with_reducible first|exact HK.out|apply Kept.alloc|apply Kept.drewN|apply Kept.drew|refine Kept.setCell ?_ (.inr Be.out) _)|exact HK.out)) hb);have ud:=ja.mk (Qa (by repeat (first|(with_reducible first|exact HB.out|apply qa|apply ia|apply ua|refine Aa ?_ Wa.out)|exact HB.out)) hb);have ef:=ja.mk (Tb);have Ag:=ja.mk ((by rw [hg];exact (by first|exact HK.out.1|exact (show Kept w _ (fun k_=>Uj k_) from by repeat (first|(with_reducible first|exact HK.out|apply Kept.alloc|apply Kept.drewN|apply Kept.drew|refine Kept.setCell ?_ (.inr Be.out) _)|exact HK.out)).1):w.heap.size ≤ Fa));have dh:=ja.mk ((by rw [hg];exact (Ra (by repeat (first|(with_reducible first|exact HB.out|apply qa|apply ia|apply ua|refine Aa ?_ Wa.out)|exact HB.out))):w0.heap.size ≤ Fa));have Fv:=ja.mk ((by rw [hg];exact Nat.ne_of_lt (Lc (g:=Ea) (o:=.cells #[.int .i64 Pc,.int .i64 Ma,.int .i64 Oa,.int .i64 Pa,.int .i64 nc,.int .i64 Od,.string Nd] 70 (0,0)) (by (with_reducible repeat (first|refine Da ?_ _|refine Ga ?_|refine Ca ?_ _));exact za.out)):Ea ≠ Fa));have Dv:=ja.mk ((by rw [hg];exact Nat.ne_of_gt (Lc (g:=Ea) (o:=.cells #[.int .i64 Pc,.int .i64 Ma,.int .i64 Oa,.int .i64 Pa,.int .i64 nc,.int .i64 Od,.string Nd] 70 (0,0)) (by (with_reducible repeat (first|refine Da ?_ _|refine Ga ?_|refine Ca ?_ _));exact za.out)):Fa ≠ Ea));clear gf;clear za;clear HK;clear HB;have gf:=Gb;have za:=Vb;have HK:=Ac;have HB:=ud;have Ba:=ef;have Df:=Ag;have Sb:=dh;have Ua:=Fv;have jb:=Dv;clear Gb Vb Ac ud ef Ag dh Fv Dv;clear hb Tb hg;have ZJ:=jb.out;have XJ:=Ua.out;have MA:Bv.cell? ⟨Fa,0,none⟩=some (.int .i64 0):=(ga Ba.out 0).trans rfl;have LA:Bv.cell? ⟨Fa,1,none⟩=some (.int .i64 0):=(ga Ba.out 1).trans rfl;have kA:=aa Ba.out 0;have jA:=aa Ba.out 1;have KA:Bv.cell? ⟨Ea,0,none⟩=some (.int .i64 Pc):=(ga za.out 0).trans rfl;have JA:Bv.cell? ⟨Ea,1,none⟩=some (.int .i64 Ma):=(ga za.out 1).trans rfl;have cP:Bv.cell? ⟨Ea,2,none⟩=some (.int .i64 Oa):=(ga za.out 2).trans rfl;have ZO:Bv.cell? ⟨Ea,3,none⟩=some (.int .i64 Pa):=(ga za.out 3).trans rfl;have YO:Bv.cell? ⟨Ea,4,none⟩=some (.int .i64 nc):=(ga za.out 4).trans rfl;have cad:Bv.cell? ⟨Ea,5,none⟩=some (.int .i64 Od):=(ga za.out 5).trans rfl;have aad:Bv.cell? ⟨Ea,6,none⟩=some (.string Nd):=(ga za.out 6).trans rfl;have iA:=aa za.out 0;have gA:=aa za.out 1;have iN:=aa za.out 2;have gN:=aa za.out 3;have fN:=aa za.out 4;have Q_:=aa za.out 5;have P_:=aa za.out 6))
           have Gb:ja (Kd.R Jl 77 ((Bv.setCell ⟨Fa,0,none⟩ (.int .i64 0)).setCell ⟨Fa,1,none⟩ (.int .i64 0)) w0.heap.size (fun k_=>(Uj k_ ∨ w.heap.size ≤ k_)∧k_ ≠ Fa) Cg l1):=⟨by (with_reducible repeat (first|apply Kd.Dc|apply Kd.Ic|apply Kd.Zc));exact Kd.Oe (Kd.qg (p:=⟨Fa,1,none⟩) (Kd.qg (p:=⟨Fa,0,none⟩) (Kd.Oe gf.out (fun k_ hk=>(⟨hk,hk.2⟩:_∧k_ ≠ Fa))) (fun _ hk=>hk.2) (.int .i64 0)) (fun _ hk=>hk.2) (.int .i64 0)) (fun _ hk=>⟨hk.1.1,hk.1.2⟩)⟩
           have Vb:ja (((Bv.setCell ⟨Fa,0,none⟩ (.int .i64 0)).setCell ⟨Fa,1,none⟩ (.int .i64 0)).heap[Ea]? = some (.cells #[.int .i64 Pc,.int .i64 Ma,.int .i64 Oa,.int .i64 Pa,.int .i64 nc,.int .i64 Od,.string Nd] 70 (0,0))):=⟨by (with_reducible repeat (first|refine Da ?_ _|refine Ga ?_|refine Ca ?_ _));refine jd ?_ Ua.out _;(with_reducible repeat (first|refine Da ?_ _|refine Ga ?_|refine Ca ?_ _));refine jd ?_ Ua.out _;(with_reducible repeat (first|refine Da ?_ _|refine Ga ?_|refine Ca ?_ _));exact za.out⟩
           have Ac:ja (((Bv.setCell ⟨Fa,0,none⟩ (.int .i64 0)).setCell ⟨Fa,1,none⟩ (.int .i64 0)).heap[Fa]? = some (.cells #[.int .i64 0,.int .i64 0] 77 (0,0))):=⟨by (with_reducible repeat (first|refine Da ?_ _|refine Ga ?_|refine Ca ?_ _));refine Wb (cs:=#[.int .i64 0,.int .i64 0]) ?_ 1 _ rfl;(with_reducible repeat (first|refine Da ?_ _|refine Ga ?_|refine Ca ?_ _));refine Wb (cs:=#[.int .i64 0,.int .i64 0]) ?_ 0 _ rfl;(with_reducible repeat (first|refine Da ?_ _|refine Ga ?_|refine Ca ?_ _));exact Ba.out⟩
           have ud:ja (Kept w ((Bv.setCell ⟨Fa,0,none⟩ (.int .i64 0)).setCell ⟨Fa,1,none⟩ (.int .i64 0)) (fun k_=>Uj k_)):=⟨by repeat (first|(with_reducible first|exact HK.out|apply Kept.alloc|apply Kept.drewN|apply Kept.drew|refine Kept.setCell ?_ (.inr Be.out) _|refine Kept.setCell ?_ (.inr Df.out) _)|exact HK.out)⟩
           have ef:ja (Below w0.heap.size w0 ((Bv.setCell ⟨Fa,0,none⟩ (.int .i64 0)).setCell ⟨Fa,1,none⟩ (.int .i64 0))):=⟨by repeat (first|(with_reducible first|exact HB.out|apply qa|apply ia|apply ua|refine Aa ?_ Wa.out|refine Aa ?_ Sb.out)|exact HB.out)⟩
           (try clear gf)
           (try clear za)
           (try clear Ba)
           (try clear HK)
           (try clear HB)
           generalize ((Bv.setCell ⟨Fa,0,none⟩ (.int .i64 0)).setCell ⟨Fa,1,none⟩ (.int .i64 0))=w54 at Gb Vb Ac ud ef ⊢
           have gf:=Gb
           have za:=Vb
           have Ba:=Ac
           have HK:=ud
           have HB:=ef
           clear Gb Vb Ac ud ef
           have Gb:=ja.mk (Kd.Zc gf.out)
           have Vb:=ja.mk (Ga za.out)
           have Ac:=ja.mk (Ga Ba.out)
           have ud:=ja.mk (Kept.drew HK.out)
           have ef:=ja.mk (ua HB.out)
           clear gf
           clear za
           clear Ba
           clear HK
           clear HB
           have gf:=Gb
           have za:=Vb
           have Ba:=Ac
           have HK:=ud
           have HB:=ef
           clear Gb Vb Ac ud ef
           obtain ⟨Uan,qU,D3⟩:=Kd.Hf gf.out
           (first|subst D3|(injection D3 with f1_ f2_ f3_;have f4_:=f1_.symm;have f5_:=f3_.symm;clear f1_ f2_ f3_;subst f4_;subst f5_))
           have Zj:0 ≤ (Oa:Int):=of_decide_eq_true (by first|(with_reducible assumption)|assumption)
           have Yj:Oa < (l1.length:Int):=of_decide_eq_true (by first|(with_reducible assumption)|assumption)
           obtain ⟨si,Js,Af,Gf⟩:=Ls (Kd.Cc gf.out).2.2 Oa Zj Yj
           cases Js
           replace Zj:=eq_true Zj
           replace Yj:=eq_true Yj
           have Qr:0 ≤ (Pa:Int):=of_decide_eq_true (by first|(with_reducible assumption)|assumption)
           have Pr:Pa < (l1.length:Int):=of_decide_eq_true (by first|(with_reducible assumption)|assumption)
           obtain ⟨Iy,fE,uh,th⟩:=Ls (Kd.Cc gf.out).2.2 Pa Qr Pr
           obtain rfl:si=Iy:=(by injection fE)
           replace Qr:=eq_true Qr
           replace Pr:=eq_true Pr
           refine Xj (n:=18) (S:=fun w'=>w'.cell? ⟨Ea,0,none⟩=some (.int .i64 Pc)∧w'.cell? ⟨Ea,1,none⟩=some (.int .i64 Ma)∧w'.cell? ⟨Ea,2,none⟩=some (.int .i64 Oa)∧w'.cell? ⟨Ea,3,none⟩=some (.int .i64 Pa)∧w'.cell? ⟨Ea,4,none⟩=some (.int .i64 nc)∧w'.cell? ⟨Ea,5,none⟩=some (.int .i64 Od)∧w'.cell? ⟨Ea,6,none⟩=some (.string Nd)∧w'.cell? (si.add ((Oa).toNat * 2))=some (.int .i64 ((Ld l1 Oa).f0))∧w'.cell? ⟨(si.add ((Oa).toNat * 2)).block,(si.add ((Oa).toNat * 2)).off + 1,none⟩=some (.int .i64 ((Ld l1 Oa).f1))∧w'.cell? (si.add ((Pa).toNat * 2))=some (.int .i64 ((Ld l1 Pa).f0))∧w'.cell? ⟨(si.add ((Pa).toNat * 2)).block,(si.add ((Pa).toNat * 2)).off + 1,none⟩=some (.int .i64 ((Ld l1 Pa).f1))) (ds:=[]) #[false,false,false,false,false,false,false,false,false,false,false,false,false,false,false,false,false,false] (by kernel_rfl) rfl rfl ⟨(ga za.out 0).trans rfl,(ga za.out 1).trans rfl,(ga za.out 2).trans rfl,(ga za.out 3).trans rfl,(ga za.out 4).trans rfl,(ga za.out 5).trans rfl,(ga za.out 6).trans rfl,Af,Gf,uh,th⟩ (fun hHeld=>?_);refine Uh jc.WV jc.RR (fun Cf yo=>?_)
           generalize w54.drew=w55 at gf za Ba HK HB Af Gf uh th hHeld ⊢
           refine qd (i:=0) (N:=some 28) (v:=?_) (a':=?_) #[true,false,false,false,false,false,false,false,false,false,false,false,false,false,false,false,false,false] rfl rfl (Oc Cf.out (by kernel_rfl)) (fun _ _ _ h=>h) (Or.inl ⟨by rfl,?_⟩) ?_ ?_
           rotate_left
           ·intro w'
            go_simp
            with_reducible rfl
           rotate_left
           ·simp only [Act.put,List.setIfInBounds_toArray,List.set_cons_zero,List.set_cons_succ,Ib,Jb]
            rfl
           refine qd (i:=2) (N:=some 30) (v:=?_) (a':=?_) #[true,false,true,false,false,false,false,false,false,false,false,false,false,false,false,false,false,false] rfl rfl (Oc Cf.out (by kernel_rfl)) (fun _ _ _ h=>h) (Or.inl ⟨by rfl,?_⟩) ?_ ?_
           rotate_left
           ·intro w'
            go_simp
            with_reducible rfl
           rotate_left
           ·simp only [Act.put,List.setIfInBounds_toArray,List.set_cons_zero,List.set_cons_succ,Ib,Jb]
            rfl
           refine qd (i:=3) (N:=some 31) (v:=?_) (a':=?_) #[true,false,true,true,false,false,false,false,false,false,false,false,false,false,false,false,false,false] rfl rfl (Oc Cf.out (by kernel_rfl)) (fun _ _ _ h=>h) (Or.inl ⟨by rfl,?_⟩) ?_ ?_
           rotate_left
           ·intro w'
            go_simp
            with_reducible rfl
           rotate_left
           ·simp only [Act.put,List.setIfInBounds_toArray,List.set_cons_zero,List.set_cons_succ,Ib,Jb]
            rfl
           refine qd (i:=7) (N:=some 35) (v:=?_) (a':=?_) #[true,false,true,true,false,false,false,true,false,false,false,false,false,false,false,false,false,false] rfl rfl (Oc Cf.out (by kernel_rfl)) (fun _ _ _ h=>h) (Or.inl ⟨by rfl,?_⟩) ?_ ?_
           rotate_left
           ·intro w'
            go_simp
            with_reducible rfl
           rotate_left
           ·simp only [Act.put,List.setIfInBounds_toArray,List.set_cons_zero,List.set_cons_succ,Ib,Jb]
            rfl
           refine qd (i:=8) (N:=some 36) (v:=?_) (a':=?_) #[true,false,true,true,false,false,false,true,true,false,false,false,false,false,false,false,false,false] rfl rfl (Oc Cf.out (by kernel_rfl)) (fun _ _ _ h=>h) (Or.inl ⟨by rfl,?_⟩) ?_ ?_
           rotate_left
           ·intro w'
            go_simp
            with_reducible rfl
           rotate_left
           ·simp only [Act.put,List.setIfInBounds_toArray,List.set_cons_zero,List.set_cons_succ,Ib,Jb]
            rfl
           refine sg (i:=1) (N:=some 29) (v:=?_) (a':=?_) #[true,true,true,true,false,false,false,true,true,false,false,false,false,false,false,false,false,false] rfl rfl (af Cf.out yo.out (by kernel_rfl)) (fun _ _ _ h=>h) (Or.inl ⟨by rfl,?_⟩) hHeld ?_ ?_
           rotate_left
           ·rintro w' ⟨s0,s1,s2,s3,s4,s5,s6,s7,s8,s9,Rz⟩
            go_simp
            with_reducible rfl
           rotate_left
           ·simp only [Act.put,List.setIfInBounds_toArray,List.set_cons_zero,List.set_cons_succ,Ib,Jb]
            rfl
           refine sg (i:=4) (N:=some 32) (v:=?_) (a':=?_) #[true,true,true,true,true,false,false,true,true,false,false,false,false,false,false,false,false,false] rfl rfl (af Cf.out yo.out (by kernel_rfl)) (fun _ _ _ h=>h) (Or.inl ⟨by rfl,?_⟩) hHeld ?_ ?_
           rotate_left
           ·rintro w' ⟨s0,s1,s2,s3,s4,s5,s6,s7,s8,s9,Rz⟩
            go_simp
            with_reducible rfl
           rotate_left
           ·simp only [Act.put,List.setIfInBounds_toArray,List.set_cons_zero,List.set_cons_succ,Ib,Jb]
            rfl
           refine qd (i:=5) (N:=some 33) (v:=?_) (a':=?_) #[true,true,true,true,true,true,false,true,true,false,false,false,false,false,false,false,false,false] rfl rfl (Oc Cf.out (by kernel_rfl)) (fun _ _ _ h=>h) (Or.inl ⟨by rfl,?_⟩) ?_ ?_
           rotate_left
           ·intro w'
            go_simp
            with_reducible rfl
           rotate_left
           ·simp only [Act.put,List.setIfInBounds_toArray,List.set_cons_zero,List.set_cons_succ,Ib,Jb]
            rfl
           refine sg (i:=6) (N:=some 34) (v:=?_) (a':=?_) #[true,true,true,true,true,true,true,true,true,false,false,false,false,false,false,false,false,false] rfl rfl (af Cf.out yo.out (by kernel_rfl)) (fun _ _ _ h=>h) (Or.inl ⟨by rfl,?_⟩) hHeld ?_ ?_
           rotate_left
           ·rintro w' ⟨s0,s1,s2,s3,s4,s5,s6,s7,s8,s9,Rz⟩
            go_simp
            with_reducible rfl
           rotate_left
           ·simp only [Act.put,List.setIfInBounds_toArray,List.set_cons_zero,List.set_cons_succ,Ib,Jb]
            rfl
           refine sg (i:=9) (N:=some 37) (v:=?_) (a':=?_) #[true,true,true,true,true,true,true,true,true,true,false,false,false,false,false,false,false,false] rfl rfl (af Cf.out yo.out (by kernel_rfl)) (fun _ _ _ h=>h) (Or.inl ⟨by rfl,?_⟩) hHeld ?_ ?_
           rotate_left
           ·rintro w' ⟨s0,s1,s2,s3,s4,s5,s6,s7,s8,s9,Rz⟩
            go_simp
            with_reducible rfl
           rotate_left
           ·simp only [Act.put,List.setIfInBounds_toArray,List.set_cons_zero,List.set_cons_succ,Ib,Jb]
            rfl
           refine qd (i:=10) (N:=some 38) (v:=?_) (a':=?_) #[true,true,true,true,true,true,true,true,true,true,true,false,false,false,false,false,false,false] rfl rfl (Oc Cf.out (by kernel_rfl)) (fun _ _ _ h=>h) (Or.inl ⟨by rfl,?_⟩) ?_ ?_
           rotate_left
           ·intro w'
            go_simp
            with_reducible rfl
           rotate_left
           ·simp only [Act.put,List.setIfInBounds_toArray,List.set_cons_zero,List.set_cons_succ,Ib,Jb]
            rfl
           refine sg (i:=11) (N:=some 39) (v:=?_) (a':=?_) #[true,true,true,true,true,true,true,true,true,true,true,true,false,false,false,false,false,false] rfl rfl (af Cf.out yo.out (by kernel_rfl)) (fun _ _ _ h=>h) (Or.inl ⟨by rfl,?_⟩) hHeld ?_ ?_
           rotate_left
           ·rintro w' ⟨s0,s1,s2,s3,s4,s5,s6,s7,s8,s9,Rz⟩
            go_simp
            with_reducible rfl
           rotate_left
           ·simp only [Act.put,List.setIfInBounds_toArray,List.set_cons_zero,List.set_cons_succ,Ib,Jb]
            rfl
           refine Vo (i:=12) (N:=some 40) #[true,true,true,true,true,true,true,true,true,true,true,true,true,false,false,false,false,false] rfl rfl (Pk Cf.out (by kernel_rfl)) (by decide) (fun K hK=>?_)
           refine Kn Try.func106 (by kernel_rfl) rfl #[.string Nd,.agg #[.int .i64 ((Ld l1 Oa).f0),.int .i64 ((Ld l1 Oa).f1)],.agg #[.int .i64 ((Ld l1 Pa).f0),.int .i64 ((Ld l1 Pa).f1)]] (by rfl) rfl rfl (by (try simp only [List.map_toArray,List.map_cons,List.map_nil]);first|done|rfl|(simp only [List.length_drop,List.length_take];rfl)) ?_
           with_reducible refine (qb.calls k Nd ((Ld l1 Oa).f0) ((Ld l1 Oa).f1) ((Ld l1 Pa).f0) ((Ld l1 Pa).f1) t108 t109 true _ A44.out).mono ?_
           rintro e SQ ⟨rfl,hb⟩
           have YU:=(hb.cell (World.block_lt_of_cell? _ _ (hHeld.2.2.2.2.2.2.2.1))).trans (hHeld.2.2.2.2.2.2.2.1)
           have XU:=(hb.cell (World.block_lt_of_cell? _ _ (hHeld.2.2.2.2.2.2.2.2.1))).trans (hHeld.2.2.2.2.2.2.2.2.1)
           have WU:=(hb.cell (World.block_lt_of_cell? _ _ (hHeld.2.2.2.2.2.2.2.2.2.1))).trans (hHeld.2.2.2.2.2.2.2.2.2.1)
           have EL:=(hb.cell (World.block_lt_of_cell? _ _ (hHeld.2.2.2.2.2.2.2.2.2.2))).trans (hHeld.2.2.2.2.2.2.2.2.2.2)
           refine ⟨_,rfl,?_⟩
           have Gb:=ja.mk (Kd.Ce (by (with_reducible repeat (first|apply Kd.Dc|apply Kd.Ic|apply Kd.Zc));exact gf.out) hb)
           have Vb:=ja.mk (gb (g:=Ea) (o:=.cells #[.int .i64 Pc,.int .i64 Ma,.int .i64 Oa,.int .i64 Pa,.int .i64 nc,.int .i64 Od,.string Nd] 70 (0,0)) (by (with_reducible repeat (first|refine Da ?_ _|refine Ga ?_|refine Ca ?_ _));exact za.out) hb)
           have Ac:=ja.mk (gb (g:=Fa) (o:=.cells #[.int .i64 0,.int .i64 0] 77 (0,0)) (by (with_reducible repeat (first|refine Da ?_ _|refine Ga ?_|refine Ca ?_ _));exact Ba.out) hb)
           have ud:=ja.mk (Kept.below (S:=(fun k_=>Uj k_)) (by repeat (first|(with_reducible first|exact HK.out|apply Kept.alloc|apply Kept.drewN|apply Kept.drew|refine Kept.setCell ?_ (.inr Be.out) _|refine Kept.setCell ?_ (.inr Df.out) _)|exact HK.out)) hb)
           have ef:=ja.mk (Qa (by repeat (first|(with_reducible first|exact HB.out|apply qa|apply ia|apply ua|refine Aa ?_ Wa.out|refine Aa ?_ Sb.out)|exact HB.out)) hb)
           clear gf
           clear za
           clear Ba
           clear HK
           clear HB
           have gf:=Gb
           have za:=Vb
           have Ba:=Ac
           have HK:=ud
           have HB:=ef
           clear Gb Vb Ac ud ef
           (try clear hb)
           (try clear hb2)
           (try clear hk)
           (try clear hi)
           refine hK.out _ _ ⟨(ga za.out 0).trans rfl,(ga za.out 1).trans rfl,(ga za.out 2).trans rfl,(ga za.out 3).trans rfl,(ga za.out 4).trans rfl,(ga za.out 5).trans rfl,(ga za.out 6).trans rfl,YU,XU,WU,EL⟩ (fun hHeld=>?_)
           clear hK K
           refine Vj (a':=?_) ?_ ?_
           rotate_left
           ·show Act.put _ (some 40) _=_
            simp only [Act.put,List.setIfInBounds_toArray,List.set_cons_zero,List.set_cons_succ,Ib,Jb]
            rfl
           refine qd (i:=13) (N:=some 27) (v:=?_) (a':=?_) #[true,true,true,true,true,true,true,true,true,true,true,true,true,true,false,false,false,false] rfl rfl (Oc Cf.out (by kernel_rfl)) (fun _ _ _ h=>h) (Or.inl ⟨by rfl,?_⟩) ?_ ?_
           rotate_left
           ·intro w'
            go_simp
            with_reducible rfl
           rotate_left
           ·simp only [Act.put,List.setIfInBounds_toArray,List.set_cons_zero,List.set_cons_succ,Ib,Jb]
            rfl
           refine qd (i:=14) (N:=some 41) (v:=?_) (a':=?_) #[true,true,true,true,true,true,true,true,true,true,true,true,true,true,true,false,false,false] rfl rfl (Oc Cf.out (by kernel_rfl)) (fun _ _ _ h=>h) (Or.inl ⟨by rfl,?_⟩) ?_ ?_
           rotate_left
           ·intro w'
            go_simp
            with_reducible rfl
           rotate_left
           ·simp only [Act.put,List.setIfInBounds_toArray,List.set_cons_zero,List.set_cons_succ,Ib,Jb]
            rfl
           refine qd (i:=15) (N:=some 42) (v:=?_) (a':=?_) #[true,true,true,true,true,true,true,true,true,true,true,true,true,true,true,true,false,false] rfl rfl (Oc Cf.out (by kernel_rfl)) (fun _ _ _ h=>h) (Or.inl ⟨by rfl,?_⟩) ?_ ?_
           rotate_left
           ·intro w'
            go_simp
            with_reducible rfl
           rotate_left
           ·simp only [Act.put,List.setIfInBounds_toArray,List.set_cons_zero,List.set_cons_succ,Ib,Jb]
            rfl
           refine Vo (i:=16) (N:=none) #[true,true,true,true,true,true,true,true,true,true,true,true,true,true,true,true,true,false] rfl rfl (Pk Cf.out (by kernel_rfl)) (by decide) (fun K hK=>?_)
           have fam:SQ.cell? ⟨Fa,0,none⟩=some (.int .i64 0):=(ga Ba.out 0).trans rfl
           have Saj:=aa Ba.out 0
           have I7:=Ua.out
           have M7:=jb.out
           have eam:SQ.cell? ⟨Fa,1,none⟩=some (.int .i64 0):=(ga Ba.out 1).trans rfl
           have Raj:=aa Ba.out 1
           have H7:=Ua.out
           have L7:=jb.out
           refine NB (w1:=?_) (by rfl) rfl ?_ ?_
           rotate_left
           ·go_simp
            rfl
           refine hK.out _ _ ⟨((cell_far (p:=⟨Fa,_,none⟩) Ua.out _).trans (((cell_far (p:=⟨Fa,_,none⟩) Ua.out _).trans (hHeld.1)))),((cell_far (p:=⟨Fa,_,none⟩) Ua.out _).trans (((cell_far (p:=⟨Fa,_,none⟩) Ua.out _).trans (hHeld.2.1)))),((cell_far (p:=⟨Fa,_,none⟩) Ua.out _).trans (((cell_far (p:=⟨Fa,_,none⟩) Ua.out _).trans (hHeld.2.2.1)))),((cell_far (p:=⟨Fa,_,none⟩) Ua.out _).trans (((cell_far (p:=⟨Fa,_,none⟩) Ua.out _).trans (hHeld.2.2.2.1)))),((cell_far (p:=⟨Fa,_,none⟩) Ua.out _).trans (((cell_far (p:=⟨Fa,_,none⟩) Ua.out _).trans (hHeld.2.2.2.2.1)))),((cell_far (p:=⟨Fa,_,none⟩) Ua.out _).trans (((cell_far (p:=⟨Fa,_,none⟩) Ua.out _).trans (hHeld.2.2.2.2.2.1)))),((cell_far (p:=⟨Fa,_,none⟩) Ua.out _).trans (((cell_far (p:=⟨Fa,_,none⟩) Ua.out _).trans (hHeld.2.2.2.2.2.2.1)))),((cell_far (p:=⟨Fa,_,none⟩) (by first|exact Kd.Cd (Kd.Yd gf.out (fun _ hk=>hk.2))|(rw [Le];exact Kd.Cd (Kd.Yd gf.out (fun _ hk=>hk.2)))|(show (Addr.add _ _).block ≠ _;rw [Le];exact Kd.Cd (Kd.Yd gf.out (fun _ hk=>hk.2)))|(dsimp only;exact Kd.Cd (Kd.Yd gf.out (fun _ hk=>hk.2)))) _).trans (((cell_far (p:=⟨Fa,_,none⟩) (by first|exact Kd.Cd (Kd.Yd gf.out (fun _ hk=>hk.2))|(rw [Le];exact Kd.Cd (Kd.Yd gf.out (fun _ hk=>hk.2)))|(show (Addr.add _ _).block ≠ _;rw [Le];exact Kd.Cd (Kd.Yd gf.out (fun _ hk=>hk.2)))|(dsimp only;exact Kd.Cd (Kd.Yd gf.out (fun _ hk=>hk.2)))) _).trans (hHeld.2.2.2.2.2.2.2.1)))),((cell_far (p:=⟨Fa,_,none⟩) (by first|exact Kd.Cd (Kd.Yd gf.out (fun _ hk=>hk.2))|(rw [Le];exact Kd.Cd (Kd.Yd gf.out (fun _ hk=>hk.2)))|(show (Addr.add _ _).block ≠ _;rw [Le];exact Kd.Cd (Kd.Yd gf.out (fun _ hk=>hk.2)))|(dsimp only;exact Kd.Cd (Kd.Yd gf.out (fun _ hk=>hk.2)))) _).trans (((cell_far (p:=⟨Fa,_,none⟩) (by first|exact Kd.Cd (Kd.Yd gf.out (fun _ hk=>hk.2))|(rw [Le];exact Kd.Cd (Kd.Yd gf.out (fun _ hk=>hk.2)))|(show (Addr.add _ _).block ≠ _;rw [Le];exact Kd.Cd (Kd.Yd gf.out (fun _ hk=>hk.2)))|(dsimp only;exact Kd.Cd (Kd.Yd gf.out (fun _ hk=>hk.2)))) _).trans (hHeld.2.2.2.2.2.2.2.2.1)))),((cell_far (p:=⟨Fa,_,none⟩) (by first|exact Kd.Cd (Kd.Yd gf.out (fun _ hk=>hk.2))|(rw [Le];exact Kd.Cd (Kd.Yd gf.out (fun _ hk=>hk.2)))|(show (Addr.add _ _).block ≠ _;rw [Le];exact Kd.Cd (Kd.Yd gf.out (fun _ hk=>hk.2)))|(dsimp only;exact Kd.Cd (Kd.Yd gf.out (fun _ hk=>hk.2)))) _).trans (((cell_far (p:=⟨Fa,_,none⟩) (by first|exact Kd.Cd (Kd.Yd gf.out (fun _ hk=>hk.2))|(rw [Le];exact Kd.Cd (Kd.Yd gf.out (fun _ hk=>hk.2)))|(show (Addr.add _ _).block ≠ _;rw [Le];exact Kd.Cd (Kd.Yd gf.out (fun _ hk=>hk.2)))|(dsimp only;exact Kd.Cd (Kd.Yd gf.out (fun _ hk=>hk.2)))) _).trans (hHeld.2.2.2.2.2.2.2.2.2.1)))),((cell_far (p:=⟨Fa,_,none⟩) (by first|exact Kd.Cd (Kd.Yd gf.out (fun _ hk=>hk.2))|(rw [Le];exact Kd.Cd (Kd.Yd gf.out (fun _ hk=>hk.2)))|(show (Addr.add _ _).block ≠ _;rw [Le];exact Kd.Cd (Kd.Yd gf.out (fun _ hk=>hk.2)))|(dsimp only;exact Kd.Cd (Kd.Yd gf.out (fun _ hk=>hk.2)))) _).trans (((cell_far (p:=⟨Fa,_,none⟩) (by first|exact Kd.Cd (Kd.Yd gf.out (fun _ hk=>hk.2))|(rw [Le];exact Kd.Cd (Kd.Yd gf.out (fun _ hk=>hk.2)))|(show (Addr.add _ _).block ≠ _;rw [Le];exact Kd.Cd (Kd.Yd gf.out (fun _ hk=>hk.2)))|(dsimp only;exact Kd.Cd (Kd.Yd gf.out (fun _ hk=>hk.2)))) _).trans (hHeld.2.2.2.2.2.2.2.2.2.2))))⟩ (fun hHeld=>?_)
           clear hK K
           refine qd (i:=17) (N:=some 8) (v:=?_) (a':=?_) #[true,true,true,true,true,true,true,true,true,true,true,true,true,true,true,true,true,true] rfl rfl (Oc Cf.out (by kernel_rfl)) (fun _ _ _ h=>h) (Or.inl ⟨by rfl,?_⟩) ?_ ?_
           rotate_left
           ·intro w'
            go_simp
            with_reducible rfl
           rotate_left
           ·simp only [Act.put,List.setIfInBounds_toArray,List.set_cons_zero,List.set_cons_succ,Ib,Jb]
            rfl
           refine wm (Sj Cf.out (by kernel_rfl)) ?_
           have Gb:ja (Kd.R Jl 77 ((SQ.setCell ⟨Fa,0,none⟩ (.int .i64 t108)).setCell ⟨Fa,1,none⟩ (.int .i64 t109)) w0.heap.size (fun k_=>(Uj k_ ∨ w.heap.size ≤ k_)∧k_ ≠ Fa) (.slice (some si) l1.length qU) l1):=⟨by (with_reducible repeat (first|apply Kd.Dc|apply Kd.Ic|apply Kd.Zc));exact Kd.Oe (Kd.qg (p:=⟨Fa,1,none⟩) (Kd.qg (p:=⟨Fa,0,none⟩) (Kd.Oe gf.out (fun k_ hk=>(⟨hk,hk.2⟩:_∧k_ ≠ Fa))) (fun _ hk=>hk.2) (.int .i64 t108)) (fun _ hk=>hk.2) (.int .i64 t109)) (fun _ hk=>⟨hk.1.1,hk.1.2⟩)⟩
           have Vb:ja (((SQ.setCell ⟨Fa,0,none⟩ (.int .i64 t108)).setCell ⟨Fa,1,none⟩ (.int .i64 t109)).heap[Ea]? = some (.cells #[.int .i64 Pc,.int .i64 Ma,.int .i64 Oa,.int .i64 Pa,.int .i64 nc,.int .i64 Od,.string Nd] 70 (0,0))):=⟨by (with_reducible repeat (first|refine Da ?_ _|refine Ga ?_|refine Ca ?_ _));refine jd ?_ Ua.out _;(with_reducible repeat (first|refine Da ?_ _|refine Ga ?_|refine Ca ?_ _));refine jd ?_ Ua.out _;(with_reducible repeat (first|refine Da ?_ _|refine Ga ?_|refine Ca ?_ _));exact za.out⟩
           have Ac:ja (((SQ.setCell ⟨Fa,0,none⟩ (.int .i64 t108)).setCell ⟨Fa,1,none⟩ (.int .i64 t109)).heap[Fa]? = some (.cells #[.int .i64 t108,.int .i64 t109] 77 (0,0))):=⟨by (with_reducible repeat (first|refine Da ?_ _|refine Ga ?_|refine Ca ?_ _));refine Wb (cs:=#[.int .i64 t108,.int .i64 0]) ?_ 1 _ rfl;(with_reducible repeat (first|refine Da ?_ _|refine Ga ?_|refine Ca ?_ _));refine Wb (cs:=#[.int .i64 0,.int .i64 0]) ?_ 0 _ rfl;(with_reducible repeat (first|refine Da ?_ _|refine Ga ?_|refine Ca ?_ _));exact Ba.out⟩
           have ud:ja (Kept w ((SQ.setCell ⟨Fa,0,none⟩ (.int .i64 t108)).setCell ⟨Fa,1,none⟩ (.int .i64 t109)) (fun k_=>Uj k_)):=⟨by repeat (first|(with_reducible first|exact HK.out|apply Kept.alloc|apply Kept.drewN|apply Kept.drew|refine Kept.setCell ?_ (.inr Be.out) _|refine Kept.setCell ?_ (.inr Df.out) _)|exact HK.out)⟩
           have ef:ja (Below w0.heap.size w0 ((SQ.setCell ⟨Fa,0,none⟩ (.int .i64 t108)).setCell ⟨Fa,1,none⟩ (.int .i64 t109))):=⟨by repeat (first|(with_reducible first|exact HB.out|apply qa|apply ia|apply ua|refine Aa ?_ Wa.out|refine Aa ?_ Sb.out)|exact HB.out)⟩
           (try clear gf)
           (try clear za)
           (try clear Ba)
           (try clear HK)
           (try clear HB)
           generalize ((SQ.setCell ⟨Fa,0,none⟩ (.int .i64 t108)).setCell ⟨Fa,1,none⟩ (.int .i64 t109))=w60 at Gb Vb Ac ud ef ⊢
           have gf:=Gb
           have za:=Vb
           have Ba:=Ac
           have HK:=ud
           have HB:=ef
           clear Gb Vb Ac ud ef
           have LO:w60.cell? ⟨Ea,0,none⟩=some (.int .i64 Pc):=(ga za.out 0).trans rfl
           have KO:w60.cell? ⟨Ea,1,none⟩=some (.int .i64 Ma):=(ga za.out 1).trans rfl
           have JO:w60.cell? ⟨Ea,2,none⟩=some (.int .i64 Oa):=(ga za.out 2).trans rfl
           have FO:w60.cell? ⟨Ea,3,none⟩=some (.int .i64 Pa):=(ga za.out 3).trans rfl
           have EO:w60.cell? ⟨Ea,4,none⟩=some (.int .i64 nc):=(ga za.out 4).trans rfl
           have CO:w60.cell? ⟨Ea,5,none⟩=some (.int .i64 Od):=(ga za.out 5).trans rfl
           have BO:w60.cell? ⟨Ea,6,none⟩=some (.string Nd):=(ga za.out 6).trans rfl
           have VM:=aa za.out 0
           have UM:=aa za.out 1
           have SM:=aa za.out 2
           have RM:=aa za.out 3
           have QM:=aa za.out 4
           have PM:=aa za.out 5
           have OM:=aa za.out 6
           have KG:w60.cell? ⟨Fa,0,none⟩=some (.int .i64 t108):=(ga Ba.out 0).trans rfl
           have JG:w60.cell? ⟨Fa,1,none⟩=some (.int .i64 t109):=(ga Ba.out 1).trans rfl
           have pF:=aa Ba.out 0
           have oF:=aa Ba.out 1
           have gW:0 ≤ (Ma:Int):=of_decide_eq_true (by first|(with_reducible assumption)|assumption)
           have eW:(Ma:Int) < ((l1.length:Int):Int):=of_decide_eq_true (by first|(with_reducible assumption)|assumption)
           obtain ⟨oy,Mam,E3,T2,Cag,Tam,V5⟩:=Kd.Qo gf.out (by omega)
           (first|cases E3|(injection E3 with Ei en_ ec_;(first|subst Ei|(injection Ei with Ei;subst Ei));subst ec_;clear en_))
           have L6:=ja.mk T2
           have Nan:=ja.mk V5
           clear T2 Cag V5
           have hah:=ja.mk (show (Uj oy ∨ w.heap.size ≤ oy) from (gf.out.1 _ rfl).1)
           (first|simp only [add_plain] at Af|skip)
           (first|simp only [add_plain] at Gf|skip)
           (first|simp only [add_plain] at uh|skip)
           (first|simp only [add_plain] at th|skip)
           obtain ⟨aan,O1,C2,OK,qK⟩:=Kd.ah gf.out YI (Ma:Int) gW eW
           obtain rfl:=rj C2
           have cT:w60.cell? ⟨oy,(Ma:Int).toNat * 2,none⟩=some (.int .i64 ((Ld l1 Ma).f0)):=OK 0 _ rfl
           have bT:w60.cell? ⟨oy,(Ma:Int).toNat * 2 + 1,none⟩=some (.int .i64 ((Ld l1 Ma).f1)):=OK 1 _ rfl
           have Maf:w60.frozen? ⟨oy,(Ma:Int).toNat * 2,none⟩=false:=qK 0
           have Laf:w60.frozen? ⟨oy,(Ma:Int).toNat * 2 + 1,none⟩=false:=qK 1
           clear O1 OK qK C2
           replace gW:=eq_true gW
           replace eW:=eq_true eW
           have X4:=ja.mk (show Kd.R Jl 77 w60 w0.heap.size (fun k_=>(Uj k_ ∨ w.heap.size ≤ k_)∧k_ ≠ Fa) (.slice (some ⟨oy,0,none⟩) l1.length qU) l1 from (by (with_reducible repeat (first|apply Kd.Dc|apply Kd.Ic|apply Kd.Zc));exact gf.out))
           obtain ⟨Zam,tR,Z1,EH,pK⟩:=Kd.ah X4.out YI (Ma:Int) (of_decide_eq_true (by first|(with_reducible assumption)|assumption)) (by have h_:(Ma:Int) < ((l1.length:Int):Int):=of_decide_eq_true (by first|(with_reducible assumption)|assumption);first|exact h_|(have e_:=(Kd.Cc gf.out).1;omega)|simpa using h_)
           obtain rfl:=rj Z1
           have aV:=Kd.Pn X4.out (Ma:Int) (of_decide_eq_true (by first|(with_reducible assumption)|assumption)) (by have h_:(Ma:Int) < ((l1.length:Int):Int):=of_decide_eq_true (by first|(with_reducible assumption)|assumption);first|exact h_|(have e_:=(Kd.Cc gf.out).1;omega)|simpa using h_) (seg:=[.int .i64 t108,.int .i64 t109]) (j:=0) tR EH (show 2 ≤ 2 from by decide) (x':=(⟨t108,t109⟩:Lj)) (Mq _ _ _ (⟨t108,t109⟩:Lj) ) (fun _ hk=>hk)
           have HJ:=EH 0 _ rfl
           (try simp only [show (Jl).sz=2 from rfl,Nat.mul_one,Nat.add_zero] at HJ)
           have MT:=pK 0
           (try simp only [show (Jl).sz=2 from rfl,Nat.mul_one,Nat.add_zero] at MT)
           have GJ:=EH 1 _ rfl
           (try simp only [show (Jl).sz=2 from rfl,Nat.mul_one,Nat.add_zero] at GJ)
           have JT:=pK 1
           (try simp only [show (Jl).sz=2 from rfl,Nat.mul_one,Nat.add_zero] at JT)
           clear tR EH pK Z1
           try go_wp2_with (first|((with_reducible refine qf (t:=77) (p:=56) rfl ?_);refine Xe (t:=77) (p:=56) (v:=?vo_w64) (w1:=((w60.setCell ⟨oy,(Ma:Int).toNat * 2,none⟩ (.int .i64 t108)).setCell ⟨oy,(Ma:Int).toNat * 2 + 1,none⟩ (.int .i64 t109))) ?hg ?ho ?hn ?hr ?_;(case ho=>rfl);(case hg=>rfl);(case hn=>rfl);(case hr=>first|(go_simp;done)|(go_simp;rfl));intro w64 hw;have hg:w60.grownBy w64 (some oy):=(by rw [hw];exact aV.2);have Gn:Kd.R Jl 77 w64 w0.heap.size (fun k_=>(Uj k_ ∨ w.heap.size ≤ k_)∧k_ ≠ Fa) (.slice (some ⟨oy,0,none⟩) l1.length qU) y111:=(by rw [hw,R4.out];exact aV.1);clear aV;have Gb:=ja.mk (Gn);have Vb:=ja.mk (ji (g:=Ea) (o:=.cells #[.int .i64 Pc,.int .i64 Ma,.int .i64 Oa,.int .i64 Pa,.int .i64 nc,.int .i64 Od,.string Nd] 70 (0,0)) (by (with_reducible repeat (first|refine Da ?_ _|refine Ga ?_|refine Ca ?_ _));exact za.out) hg (Kd.Ly gf.out za.out (by decide)));have Ac:=ja.mk (ji (g:=Fa) (o:=.cells #[.int .i64 t108,.int .i64 t109] 77 (0,0)) (by (with_reducible repeat (first|refine Da ?_ _|refine Ga ?_|refine Ca ?_ _));exact Ba.out) hg (Kd.Yd gf.out (fun _ hk=>hk.2)));have ud:=ja.mk ((by rw [hw];exact Aa (Aa (HB.out) L6.out) L6.out:Below w0.heap.size w0 w64));have ef:=ja.mk (Kept.Fh (S:=(fun k_=>Uj k_)) hg (by repeat (first|(with_reducible first|exact HK.out|apply Kept.alloc|apply Kept.drewN|apply Kept.drew|refine Kept.setCell ?_ (.inr Be.out) _|refine Kept.setCell ?_ (.inr Df.out) _)|exact HK.out)) (fun k_ e_=>(gf.out.1 k_ e_).1));clear gf;clear za;clear Ba;clear HB;clear HK;have gf:=Gb;have za:=Vb;have Ba:=Ac;have HB:=ud;have HK:=ef;clear Gb Vb Ac ud ef;clear hg hw Gn))
           go_ret
           exact ⟨by first|rfl|(simp [La,Ka] <;> rfl)|(simp [*,La,Ka] <;> rfl),by (with_reducible repeat (first|apply Kd.Dc|apply Kd.Ic|apply Kd.Zc));exact Kd.Oe gf.out (fun _ hk=>hk.1),by repeat (first|(with_reducible first|exact HB.out|apply qa|apply ia|apply ua|refine Aa ?_ Wa.out|refine Aa ?_ Sb.out)|exact HB.out),by repeat (first|(with_reducible first|exact HK.out|apply Kept.alloc|apply Kept.drewN|apply Kept.drew|refine Kept.setCell ?_ (.inr Be.out) _|refine Kept.setCell ?_ (.inr Df.out) _)|exact HK.out)⟩
          ·rw [if_neg c47] at H
           exact absurd H (by simp)
         ·rw [if_neg c46] at H
          exact absurd H (by simp)
        ·replace c45:=Bool.eq_false_iff.mpr c45
         subst c45
         have H1:(if 0 ≤ Ma then (if Ma < (l1.length:Int) then (some (wrap64 (a2 + 1),(l1.set (Ma:Int).toNat (⟨a2,0⟩:Lj)))) else (none)) else (none))=some (r1,r2):=by rw [if_neg (show ¬ (false=true) by decide)] at H;exact H
         clear H
         have H:=H1
         clear H1
         by_cases c65:0 ≤ Ma
         ·rw [if_pos c65] at H
          have iL:decide (0 ≤ Ma)=true:=decide_eq_true c65
          clear c65
          by_cases c66:Ma < (l1.length:Int)
          ·rw [if_pos c66] at H
           have Q3:decide (Ma < (l1.length:Int))=true:=decide_eq_true c66
           clear c66
           obtain ⟨y112,hy112⟩:∃ y_:List (Lj),y_=(l1.set (Ma:Int).toNat (⟨a2,0⟩:Lj)):=⟨_,rfl⟩
           replace H:(some (wrap64 (a2 + 1),y112))=some (r1,r2):=by first|(rw [hy112];with_reducible exact H)|(have Eh:=(Option.bind_some _ _).symm.trans H;rw [hy112];with_reducible exact Eh)|(have Eh:=(Option.bind_some _ _).symm.trans H;with_reducible exact Eh)|with_reducible exact H|(rw [hy112];exact H)|exact H
           have Oy:=ja.mk hy112
           clear hy112
           simp only [Option.some.injEq,Prod.mk.injEq] at H
           obtain ⟨rfl,rfl⟩:=H
           go_enter Try.func78,Try.ntmps78
           try go_wp2_with (first|((with_reducible refine Kb (N:=3) rfl ?_);refine Eb ?hg (N:=3) ?hd (cs:=#[.int .i64 Pc,.int .i64 Ma,.int .i64 Oa,.int .i64 Pa,.int .i64 nc,.int .i64 Od,.string Nd]) (t:=70) ?hr ?_;(case hd=>rfl);(case hg=>rfl);(case hr=>first|(go_simp;done)|(go_simp;rfl));intro Ea hg w68 Tb hb;have Gb:=ja.mk (Kd.Ce (by (with_reducible repeat (first|apply Kd.Dc|apply Kd.Ic|apply Kd.Zc));exact gf.out) hb);have Vb:=ja.mk (Kept.below (S:=(fun k_=>Uj k_)) (by repeat (first|(with_reducible first|exact HK.out|apply Kept.alloc|apply Kept.drewN|apply Kept.drew)|exact HK.out)) hb);have Ac:=ja.mk (Qa (by repeat (first|(with_reducible first|exact HB.out|apply qa|apply ia|apply ua)|exact HB.out)) hb);have ud:=ja.mk (Tb);have ef:=ja.mk ((by rw [hg];exact (by first|exact HK.out.1|exact (show Kept w _ (fun k_=>Uj k_) from by repeat (first|(with_reducible first|exact HK.out|apply Kept.alloc|apply Kept.drewN|apply Kept.drew)|exact HK.out)).1):w.heap.size ≤ Ea));have Ag:=ja.mk ((by rw [hg];exact (Ra (by repeat (first|(with_reducible first|exact HB.out|apply qa|apply ia|apply ua)|exact HB.out))):w0.heap.size ≤ Ea));clear gf;clear HK;clear HB;have gf:=Gb;have HK:=Vb;have HB:=Ac;have za:=ud;have Be:=ef;have Wa:=Ag;clear Gb Vb Ac ud ef Ag;clear hb Tb hg)|((with_reducible refine Kb (N:=7) rfl ?_);refine Eb ?hg (N:=7) ?hd (cs:=#[.int .i64 0,.int .i64 0]) (t:=77) ?hr ?_;(case hd=>rfl);(case hg=>rfl);(case hr=>first|(go_simp;done)|(go_simp;rfl));intro Fa hg YC Tb hb;have Gb:=ja.mk (Kd.Ce (Kd.Cq (by (with_reducible repeat (first|apply Kd.Dc|apply Kd.Ic|apply Kd.Zc));exact gf.out) Fa (Nat.le_of_eq hg.symm)) hb);have Vb:=ja.mk (gb (g:=Ea) (o:=.cells #[.int .i64 Pc,.int .i64 Ma,.int .i64 Oa,.int .i64 Pa,.int .i64 nc,.int .i64 Od,.string Nd] 70 (0,0)) (by (with_reducible repeat (first|refine Da ?_ _|refine Ga ?_|refine Ca ?_ _));exact za.out) hb);have Ac:=ja.mk (Kept.below (S:=(fun k_=>Uj k_)) (by repeat (first|(with_reducible first|exact HK.out|apply Kept.alloc|apply Kept.drewN|apply Kept.drew|refine Kept.setCell ?_ (.inr Be.out) _)|exact HK.out)) hb);have ud:=ja.mk (Qa (by repeat (first|(with_reducible first|exact HB.out|apply qa|apply ia|apply ua|refine Aa ?_ Wa.out)|exact HB.out)) hb);have ef:=ja.mk (Tb);have Ag:=ja.mk ((by rw [hg];exact (by first|exact HK.out.1|exact (show Kept w _ (fun k_=>Uj k_) from by repeat (first|(with_reducible first|exact HK.out|apply Kept.alloc|apply Kept.drewN|apply Kept.drew|refine Kept.setCell ?_ (.inr Be.out) _)|exact HK.out)).1):w.heap.size ≤ Fa));have dh:=ja.mk ((by rw [hg];exact (Ra (by repeat (first|(with_reducible first|exact HB.out|apply qa|apply ia|apply ua|refine Aa ?_ Wa.out)|exact HB.out))):w0.heap.size ≤ Fa));have Fv:=ja.mk ((by rw [hg];exact Nat.ne_of_lt (Lc (g:=Ea) (o:=.cells #[.int .i64 Pc,.int .i64 Ma,.int .i64 Oa,.int .i64 Pa,.int .i64 nc,.int .i64 Od,.string Nd] 70 (0,0)) (by (with_reducible repeat (first|refine Da ?_ _|refine Ga ?_|refine Ca ?_ _));exact za.out)):Ea ≠ Fa));have Dv:=ja.mk ((by rw [hg];exact Nat.ne_of_gt (Lc (g:=Ea) (o:=.cells #[.int .i64 Pc,.int .i64 Ma,.int .i64 Oa,.int .i64 Pa,.int .i64 nc,.int .i64 Od,.string Nd] 70 (0,0)) (by (with_reducible repeat (first|refine Da ?_ _|refine Ga ?_|refine Ca ?_ _));exact za.out)):Fa ≠ Ea));clear gf;clear za;clear HK;clear HB;have gf:=Gb;have za:=Vb;have HK:=Ac;have HB:=ud;have Ba:=ef;have Df:=Ag;have Sb:=dh;have Ua:=Fv;have jb:=Dv;clear Gb Vb Ac ud ef Ag dh Fv Dv;clear hb Tb hg;have TW:=jb.out;have zW:=Ua.out;have IG:YC.cell? ⟨Fa,0,none⟩=some (.int .i64 0):=(ga Ba.out 0).trans rfl;have GG:YC.cell? ⟨Fa,1,none⟩=some (.int .i64 0):=(ga Ba.out 1).trans rfl;have nF:=aa Ba.out 0;have mF:=aa Ba.out 1;have FG:YC.cell? ⟨Ea,0,none⟩=some (.int .i64 Pc):=(ga za.out 0).trans rfl;have EG:YC.cell? ⟨Ea,1,none⟩=some (.int .i64 Ma):=(ga za.out 1).trans rfl;have DG:YC.cell? ⟨Ea,2,none⟩=some (.int .i64 Oa):=(ga za.out 2).trans rfl;have CG:YC.cell? ⟨Ea,3,none⟩=some (.int .i64 Pa):=(ga za.out 3).trans rfl;have BG:YC.cell? ⟨Ea,4,none⟩=some (.int .i64 nc):=(ga za.out 4).trans rfl;have AG:YC.cell? ⟨Ea,5,none⟩=some (.int .i64 Od):=(ga za.out 5).trans rfl;have zG:YC.cell? ⟨Ea,6,none⟩=some (.string Nd):=(ga za.out 6).trans rfl;have lF:=aa za.out 0;have kF:=aa za.out 1;have jF:=aa za.out 2;have iF:=aa za.out 3;have gF:=aa za.out 4;have fF:=aa za.out 5;have eF:=aa za.out 6))
           have Gb:ja (Kd.R Jl 77 ((YC.setCell ⟨Fa,0,none⟩ (.int .i64 0)).setCell ⟨Fa,1,none⟩ (.int .i64 0)) w0.heap.size (fun k_=>(Uj k_ ∨ w.heap.size ≤ k_)∧k_ ≠ Fa) Cg l1):=⟨by (with_reducible repeat (first|apply Kd.Dc|apply Kd.Ic|apply Kd.Zc));exact Kd.Oe (Kd.qg (p:=⟨Fa,1,none⟩) (Kd.qg (p:=⟨Fa,0,none⟩) (Kd.Oe gf.out (fun k_ hk=>(⟨hk,hk.2⟩:_∧k_ ≠ Fa))) (fun _ hk=>hk.2) (.int .i64 0)) (fun _ hk=>hk.2) (.int .i64 0)) (fun _ hk=>⟨hk.1.1,hk.1.2⟩)⟩
           have Vb:ja (((YC.setCell ⟨Fa,0,none⟩ (.int .i64 0)).setCell ⟨Fa,1,none⟩ (.int .i64 0)).heap[Ea]? = some (.cells #[.int .i64 Pc,.int .i64 Ma,.int .i64 Oa,.int .i64 Pa,.int .i64 nc,.int .i64 Od,.string Nd] 70 (0,0))):=⟨by (with_reducible repeat (first|refine Da ?_ _|refine Ga ?_|refine Ca ?_ _));refine jd ?_ Ua.out _;(with_reducible repeat (first|refine Da ?_ _|refine Ga ?_|refine Ca ?_ _));refine jd ?_ Ua.out _;(with_reducible repeat (first|refine Da ?_ _|refine Ga ?_|refine Ca ?_ _));exact za.out⟩
           have Ac:ja (((YC.setCell ⟨Fa,0,none⟩ (.int .i64 0)).setCell ⟨Fa,1,none⟩ (.int .i64 0)).heap[Fa]? = some (.cells #[.int .i64 0,.int .i64 0] 77 (0,0))):=⟨by (with_reducible repeat (first|refine Da ?_ _|refine Ga ?_|refine Ca ?_ _));refine Wb (cs:=#[.int .i64 0,.int .i64 0]) ?_ 1 _ rfl;(with_reducible repeat (first|refine Da ?_ _|refine Ga ?_|refine Ca ?_ _));refine Wb (cs:=#[.int .i64 0,.int .i64 0]) ?_ 0 _ rfl;(with_reducible repeat (first|refine Da ?_ _|refine Ga ?_|refine Ca ?_ _));exact Ba.out⟩
           have ud:ja (Kept w ((YC.setCell ⟨Fa,0,none⟩ (.int .i64 0)).setCell ⟨Fa,1,none⟩ (.int .i64 0)) (fun k_=>Uj k_)):=⟨by repeat (first|(with_reducible first|exact HK.out|apply Kept.alloc|apply Kept.drewN|apply Kept.drew|refine Kept.setCell ?_ (.inr Be.out) _|refine Kept.setCell ?_ (.inr Df.out) _)|exact HK.out)⟩
           have ef:ja (Below w0.heap.size w0 ((YC.setCell ⟨Fa,0,none⟩ (.int .i64 0)).setCell ⟨Fa,1,none⟩ (.int .i64 0))):=⟨by repeat (first|(with_reducible first|exact HB.out|apply qa|apply ia|apply ua|refine Aa ?_ Wa.out|refine Aa ?_ Sb.out)|exact HB.out)⟩
           (try clear gf)
           (try clear za)
           (try clear Ba)
           (try clear HK)
           (try clear HB)
           generalize ((YC.setCell ⟨Fa,0,none⟩ (.int .i64 0)).setCell ⟨Fa,1,none⟩ (.int .i64 0))=dM at Gb Vb Ac ud ef ⊢
           have gf:=Gb
           have za:=Vb
           have Ba:=Ac
           have HK:=ud
           have HB:=ef
           clear Gb Vb Ac ud ef
           have Gb:=ja.mk (Kd.Zc gf.out)
           have Vb:=ja.mk (Ga za.out)
           have Ac:=ja.mk (Ga Ba.out)
           have ud:=ja.mk (Kept.drew HK.out)
           have ef:=ja.mk (ua HB.out)
           clear gf
           clear za
           clear Ba
           clear HK
           clear HB
           have gf:=Gb
           have za:=Vb
           have Ba:=Ac
           have HK:=ud
           have HB:=ef
           clear Gb Vb Ac ud ef
           obtain ⟨Tan,qQ,B3⟩:=Kd.Hf gf.out
           (first|subst B3|(injection B3 with f1_ f2_ f3_;have f4_:=f1_.symm;have f5_:=f3_.symm;clear f1_ f2_ f3_;subst f4_;subst f5_))
           have Zj:0 ≤ (Oa:Int):=of_decide_eq_true (by first|(with_reducible assumption)|assumption)
           have Yj:Oa < (l1.length:Int):=of_decide_eq_true (by first|(with_reducible assumption)|assumption)
           obtain ⟨si,Js,Af,Gf⟩:=Ls (Kd.Cc gf.out).2.2 Oa Zj Yj
           cases Js
           replace Zj:=eq_true Zj
           replace Yj:=eq_true Yj
           have Qr:0 ≤ (Pa:Int):=of_decide_eq_true (by first|(with_reducible assumption)|assumption)
           have Pr:Pa < (l1.length:Int):=of_decide_eq_true (by first|(with_reducible assumption)|assumption)
           obtain ⟨Iy,fE,uh,th⟩:=Ls (Kd.Cc gf.out).2.2 Pa Qr Pr
           obtain rfl:si=Iy:=(by injection fE)
           replace Qr:=eq_true Qr
           replace Pr:=eq_true Pr
           refine Xj (n:=18) (S:=fun w'=>w'.cell? ⟨Ea,0,none⟩=some (.int .i64 Pc)∧w'.cell? ⟨Ea,1,none⟩=some (.int .i64 Ma)∧w'.cell? ⟨Ea,2,none⟩=some (.int .i64 Oa)∧w'.cell? ⟨Ea,3,none⟩=some (.int .i64 Pa)∧w'.cell? ⟨Ea,4,none⟩=some (.int .i64 nc)∧w'.cell? ⟨Ea,5,none⟩=some (.int .i64 Od)∧w'.cell? ⟨Ea,6,none⟩=some (.string Nd)∧w'.cell? (si.add ((Oa).toNat * 2))=some (.int .i64 ((Ld l1 Oa).f0))∧w'.cell? ⟨(si.add ((Oa).toNat * 2)).block,(si.add ((Oa).toNat * 2)).off + 1,none⟩=some (.int .i64 ((Ld l1 Oa).f1))∧w'.cell? (si.add ((Pa).toNat * 2))=some (.int .i64 ((Ld l1 Pa).f0))∧w'.cell? ⟨(si.add ((Pa).toNat * 2)).block,(si.add ((Pa).toNat * 2)).off + 1,none⟩=some (.int .i64 ((Ld l1 Pa).f1))) (ds:=[]) #[false,false,false,false,false,false,false,false,false,false,false,false,false,false,false,false,false,false] (by kernel_rfl) rfl rfl ⟨(ga za.out 0).trans rfl,(ga za.out 1).trans rfl,(ga za.out 2).trans rfl,(ga za.out 3).trans rfl,(ga za.out 4).trans rfl,(ga za.out 5).trans rfl,(ga za.out 6).trans rfl,Af,Gf,uh,th⟩ (fun hHeld=>?_);refine Uh jc.WV jc.RR (fun Cf yo=>?_)
           generalize dM.drew=w74 at gf za Ba HK HB Af Gf uh th hHeld ⊢
           refine qd (i:=0) (N:=some 28) (v:=?_) (a':=?_) #[true,false,false,false,false,false,false,false,false,false,false,false,false,false,false,false,false,false] rfl rfl (Oc Cf.out (by kernel_rfl)) (fun _ _ _ h=>h) (Or.inl ⟨by rfl,?_⟩) ?_ ?_
           rotate_left
           ·intro w'
            go_simp
            with_reducible rfl
           rotate_left
           ·simp only [Act.put,List.setIfInBounds_toArray,List.set_cons_zero,List.set_cons_succ,Ib,Jb]
            rfl
           refine qd (i:=2) (N:=some 30) (v:=?_) (a':=?_) #[true,false,true,false,false,false,false,false,false,false,false,false,false,false,false,false,false,false] rfl rfl (Oc Cf.out (by kernel_rfl)) (fun _ _ _ h=>h) (Or.inl ⟨by rfl,?_⟩) ?_ ?_
           rotate_left
           ·intro w'
            go_simp
            with_reducible rfl
           rotate_left
           ·simp only [Act.put,List.setIfInBounds_toArray,List.set_cons_zero,List.set_cons_succ,Ib,Jb]
            rfl
           refine qd (i:=3) (N:=some 31) (v:=?_) (a':=?_) #[true,false,true,true,false,false,false,false,false,false,false,false,false,false,false,false,false,false] rfl rfl (Oc Cf.out (by kernel_rfl)) (fun _ _ _ h=>h) (Or.inl ⟨by rfl,?_⟩) ?_ ?_
           rotate_left
           ·intro w'
            go_simp
            with_reducible rfl
           rotate_left
           ·simp only [Act.put,List.setIfInBounds_toArray,List.set_cons_zero,List.set_cons_succ,Ib,Jb]
            rfl
           refine qd (i:=7) (N:=some 35) (v:=?_) (a':=?_) #[true,false,true,true,false,false,false,true,false,false,false,false,false,false,false,false,false,false] rfl rfl (Oc Cf.out (by kernel_rfl)) (fun _ _ _ h=>h) (Or.inl ⟨by rfl,?_⟩) ?_ ?_
           rotate_left
           ·intro w'
            go_simp
            with_reducible rfl
           rotate_left
           ·simp only [Act.put,List.setIfInBounds_toArray,List.set_cons_zero,List.set_cons_succ,Ib,Jb]
            rfl
           refine qd (i:=8) (N:=some 36) (v:=?_) (a':=?_) #[true,false,true,true,false,false,false,true,true,false,false,false,false,false,false,false,false,false] rfl rfl (Oc Cf.out (by kernel_rfl)) (fun _ _ _ h=>h) (Or.inl ⟨by rfl,?_⟩) ?_ ?_
           rotate_left
           ·intro w'
            go_simp
            with_reducible rfl
           rotate_left
           ·simp only [Act.put,List.setIfInBounds_toArray,List.set_cons_zero,List.set_cons_succ,Ib,Jb]
            rfl
           refine sg (i:=1) (N:=some 29) (v:=?_) (a':=?_) #[true,true,true,true,false,false,false,true,true,false,false,false,false,false,false,false,false,false] rfl rfl (af Cf.out yo.out (by kernel_rfl)) (fun _ _ _ h=>h) (Or.inl ⟨by rfl,?_⟩) hHeld ?_ ?_
           rotate_left
           ·rintro w' ⟨s0,s1,s2,s3,s4,s5,s6,s7,s8,s9,Rz⟩
            go_simp
            with_reducible rfl
           rotate_left
           ·simp only [Act.put,List.setIfInBounds_toArray,List.set_cons_zero,List.set_cons_succ,Ib,Jb]
            rfl
           refine sg (i:=4) (N:=some 32) (v:=?_) (a':=?_) #[true,true,true,true,true,false,false,true,true,false,false,false,false,false,false,false,false,false] rfl rfl (af Cf.out yo.out (by kernel_rfl)) (fun _ _ _ h=>h) (Or.inl ⟨by rfl,?_⟩) hHeld ?_ ?_
           rotate_left
           ·rintro w' ⟨s0,s1,s2,s3,s4,s5,s6,s7,s8,s9,Rz⟩
            go_simp
            with_reducible rfl
           rotate_left
           ·simp only [Act.put,List.setIfInBounds_toArray,List.set_cons_zero,List.set_cons_succ,Ib,Jb]
            rfl
           refine qd (i:=5) (N:=some 33) (v:=?_) (a':=?_) #[true,true,true,true,true,true,false,true,true,false,false,false,false,false,false,false,false,false] rfl rfl (Oc Cf.out (by kernel_rfl)) (fun _ _ _ h=>h) (Or.inl ⟨by rfl,?_⟩) ?_ ?_
           rotate_left
           ·intro w'
            go_simp
            with_reducible rfl
           rotate_left
           ·simp only [Act.put,List.setIfInBounds_toArray,List.set_cons_zero,List.set_cons_succ,Ib,Jb]
            rfl
           refine sg (i:=6) (N:=some 34) (v:=?_) (a':=?_) #[true,true,true,true,true,true,true,true,true,false,false,false,false,false,false,false,false,false] rfl rfl (af Cf.out yo.out (by kernel_rfl)) (fun _ _ _ h=>h) (Or.inl ⟨by rfl,?_⟩) hHeld ?_ ?_
           rotate_left
           ·rintro w' ⟨s0,s1,s2,s3,s4,s5,s6,s7,s8,s9,Rz⟩
            go_simp
            with_reducible rfl
           rotate_left
           ·simp only [Act.put,List.setIfInBounds_toArray,List.set_cons_zero,List.set_cons_succ,Ib,Jb]
            rfl
           refine sg (i:=9) (N:=some 37) (v:=?_) (a':=?_) #[true,true,true,true,true,true,true,true,true,true,false,false,false,false,false,false,false,false] rfl rfl (af Cf.out yo.out (by kernel_rfl)) (fun _ _ _ h=>h) (Or.inl ⟨by rfl,?_⟩) hHeld ?_ ?_
           rotate_left
           ·rintro w' ⟨s0,s1,s2,s3,s4,s5,s6,s7,s8,s9,Rz⟩
            go_simp
            with_reducible rfl
           rotate_left
           ·simp only [Act.put,List.setIfInBounds_toArray,List.set_cons_zero,List.set_cons_succ,Ib,Jb]
            rfl
           refine qd (i:=10) (N:=some 38) (v:=?_) (a':=?_) #[true,true,true,true,true,true,true,true,true,true,true,false,false,false,false,false,false,false] rfl rfl (Oc Cf.out (by kernel_rfl)) (fun _ _ _ h=>h) (Or.inl ⟨by rfl,?_⟩) ?_ ?_
           rotate_left
           ·intro w'
            go_simp
            with_reducible rfl
           rotate_left
           ·simp only [Act.put,List.setIfInBounds_toArray,List.set_cons_zero,List.set_cons_succ,Ib,Jb]
            rfl
           refine sg (i:=11) (N:=some 39) (v:=?_) (a':=?_) #[true,true,true,true,true,true,true,true,true,true,true,true,false,false,false,false,false,false] rfl rfl (af Cf.out yo.out (by kernel_rfl)) (fun _ _ _ h=>h) (Or.inl ⟨by rfl,?_⟩) hHeld ?_ ?_
           rotate_left
           ·rintro w' ⟨s0,s1,s2,s3,s4,s5,s6,s7,s8,s9,Rz⟩
            go_simp
            with_reducible rfl
           rotate_left
           ·simp only [Act.put,List.setIfInBounds_toArray,List.set_cons_zero,List.set_cons_succ,Ib,Jb]
            rfl
           refine Vo (i:=12) (N:=some 40) #[true,true,true,true,true,true,true,true,true,true,true,true,true,false,false,false,false,false] rfl rfl (Pk Cf.out (by kernel_rfl)) (by decide) (fun K hK=>?_)
           refine Kn Try.func106 (by kernel_rfl) rfl #[.string Nd,.agg #[.int .i64 ((Ld l1 Oa).f0),.int .i64 ((Ld l1 Oa).f1)],.agg #[.int .i64 ((Ld l1 Pa).f0),.int .i64 ((Ld l1 Pa).f1)]] (by rfl) rfl rfl (by (try simp only [List.map_toArray,List.map_cons,List.map_nil]);first|done|rfl|(simp only [List.length_drop,List.length_take];rfl)) ?_
           with_reducible refine (qb.calls k Nd ((Ld l1 Oa).f0) ((Ld l1 Oa).f1) ((Ld l1 Pa).f0) ((Ld l1 Pa).f1) t108 t109 false _ A44.out).mono ?_
           rintro e RQ ⟨rfl,hb⟩
           have YU:=(hb.cell (World.block_lt_of_cell? _ _ (hHeld.2.2.2.2.2.2.2.1))).trans (hHeld.2.2.2.2.2.2.2.1)
           have XU:=(hb.cell (World.block_lt_of_cell? _ _ (hHeld.2.2.2.2.2.2.2.2.1))).trans (hHeld.2.2.2.2.2.2.2.2.1)
           have WU:=(hb.cell (World.block_lt_of_cell? _ _ (hHeld.2.2.2.2.2.2.2.2.2.1))).trans (hHeld.2.2.2.2.2.2.2.2.2.1)
           have EL:=(hb.cell (World.block_lt_of_cell? _ _ (hHeld.2.2.2.2.2.2.2.2.2.2))).trans (hHeld.2.2.2.2.2.2.2.2.2.2)
           refine ⟨_,rfl,?_⟩
           have Gb:=ja.mk (Kd.Ce (by (with_reducible repeat (first|apply Kd.Dc|apply Kd.Ic|apply Kd.Zc));exact gf.out) hb)
           have Vb:=ja.mk (gb (g:=Ea) (o:=.cells #[.int .i64 Pc,.int .i64 Ma,.int .i64 Oa,.int .i64 Pa,.int .i64 nc,.int .i64 Od,.string Nd] 70 (0,0)) (by (with_reducible repeat (first|refine Da ?_ _|refine Ga ?_|refine Ca ?_ _));exact za.out) hb)
           have Ac:=ja.mk (gb (g:=Fa) (o:=.cells #[.int .i64 0,.int .i64 0] 77 (0,0)) (by (with_reducible repeat (first|refine Da ?_ _|refine Ga ?_|refine Ca ?_ _));exact Ba.out) hb)
           have ud:=ja.mk (Kept.below (S:=(fun k_=>Uj k_)) (by repeat (first|(with_reducible first|exact HK.out|apply Kept.alloc|apply Kept.drewN|apply Kept.drew|refine Kept.setCell ?_ (.inr Be.out) _|refine Kept.setCell ?_ (.inr Df.out) _)|exact HK.out)) hb)
           have ef:=ja.mk (Qa (by repeat (first|(with_reducible first|exact HB.out|apply qa|apply ia|apply ua|refine Aa ?_ Wa.out|refine Aa ?_ Sb.out)|exact HB.out)) hb)
           clear gf
           clear za
           clear Ba
           clear HK
           clear HB
           have gf:=Gb
           have za:=Vb
           have Ba:=Ac
           have HK:=ud
           have HB:=ef
           clear Gb Vb Ac ud ef
           (try clear hb)
           (try clear hb2)
           (try clear hk)
           (try clear hi)
           refine hK.out _ _ ⟨(ga za.out 0).trans rfl,(ga za.out 1).trans rfl,(ga za.out 2).trans rfl,(ga za.out 3).trans rfl,(ga za.out 4).trans rfl,(ga za.out 5).trans rfl,(ga za.out 6).trans rfl,YU,XU,WU,EL⟩ (fun hHeld=>?_)
           clear hK K
           refine Vj (a':=?_) ?_ ?_
           rotate_left
           ·show Act.put _ (some 40) _=_
            simp only [Act.put,List.setIfInBounds_toArray,List.set_cons_zero,List.set_cons_succ,Ib,Jb]
            rfl
           refine qd (i:=13) (N:=some 27) (v:=?_) (a':=?_) #[true,true,true,true,true,true,true,true,true,true,true,true,true,true,false,false,false,false] rfl rfl (Oc Cf.out (by kernel_rfl)) (fun _ _ _ h=>h) (Or.inl ⟨by rfl,?_⟩) ?_ ?_
           rotate_left
           ·intro w'
            go_simp
            with_reducible rfl
           rotate_left
           ·simp only [Act.put,List.setIfInBounds_toArray,List.set_cons_zero,List.set_cons_succ,Ib,Jb]
            rfl
           refine qd (i:=14) (N:=some 41) (v:=?_) (a':=?_) #[true,true,true,true,true,true,true,true,true,true,true,true,true,true,true,false,false,false] rfl rfl (Oc Cf.out (by kernel_rfl)) (fun _ _ _ h=>h) (Or.inl ⟨by rfl,?_⟩) ?_ ?_
           rotate_left
           ·intro w'
            go_simp
            with_reducible rfl
           rotate_left
           ·simp only [Act.put,List.setIfInBounds_toArray,List.set_cons_zero,List.set_cons_succ,Ib,Jb]
            rfl
           refine qd (i:=15) (N:=some 42) (v:=?_) (a':=?_) #[true,true,true,true,true,true,true,true,true,true,true,true,true,true,true,true,false,false] rfl rfl (Oc Cf.out (by kernel_rfl)) (fun _ _ _ h=>h) (Or.inl ⟨by rfl,?_⟩) ?_ ?_
           rotate_left
           ·intro w'
            go_simp
            with_reducible rfl
           rotate_left
           ·simp only [Act.put,List.setIfInBounds_toArray,List.set_cons_zero,List.set_cons_succ,Ib,Jb]
            rfl
           refine Vo (i:=16) (N:=none) #[true,true,true,true,true,true,true,true,true,true,true,true,true,true,true,true,true,false] rfl rfl (Pk Cf.out (by kernel_rfl)) (by decide) (fun K hK=>?_)
           have dam:RQ.cell? ⟨Fa,0,none⟩=some (.int .i64 0):=(ga Ba.out 0).trans rfl
           have Qaj:=aa Ba.out 0
           have G7:=Ua.out
           have K7:=jb.out
           have cam:RQ.cell? ⟨Fa,1,none⟩=some (.int .i64 0):=(ga Ba.out 1).trans rfl
           have Paj:=aa Ba.out 1
           have F7:=Ua.out
           have J7:=jb.out
           refine NB (w1:=?_) (by rfl) rfl ?_ ?_
           rotate_left
           ·go_simp
            rfl
           refine hK.out _ _ ⟨((cell_far (p:=⟨Fa,_,none⟩) Ua.out _).trans (((cell_far (p:=⟨Fa,_,none⟩) Ua.out _).trans (hHeld.1)))),((cell_far (p:=⟨Fa,_,none⟩) Ua.out _).trans (((cell_far (p:=⟨Fa,_,none⟩) Ua.out _).trans (hHeld.2.1)))),((cell_far (p:=⟨Fa,_,none⟩) Ua.out _).trans (((cell_far (p:=⟨Fa,_,none⟩) Ua.out _).trans (hHeld.2.2.1)))),((cell_far (p:=⟨Fa,_,none⟩) Ua.out _).trans (((cell_far (p:=⟨Fa,_,none⟩) Ua.out _).trans (hHeld.2.2.2.1)))),((cell_far (p:=⟨Fa,_,none⟩) Ua.out _).trans (((cell_far (p:=⟨Fa,_,none⟩) Ua.out _).trans (hHeld.2.2.2.2.1)))),((cell_far (p:=⟨Fa,_,none⟩) Ua.out _).trans (((cell_far (p:=⟨Fa,_,none⟩) Ua.out _).trans (hHeld.2.2.2.2.2.1)))),((cell_far (p:=⟨Fa,_,none⟩) Ua.out _).trans (((cell_far (p:=⟨Fa,_,none⟩) Ua.out _).trans (hHeld.2.2.2.2.2.2.1)))),((cell_far (p:=⟨Fa,_,none⟩) (by first|exact Kd.Cd (Kd.Yd gf.out (fun _ hk=>hk.2))|(rw [Le];exact Kd.Cd (Kd.Yd gf.out (fun _ hk=>hk.2)))|(show (Addr.add _ _).block ≠ _;rw [Le];exact Kd.Cd (Kd.Yd gf.out (fun _ hk=>hk.2)))|(dsimp only;exact Kd.Cd (Kd.Yd gf.out (fun _ hk=>hk.2)))) _).trans (((cell_far (p:=⟨Fa,_,none⟩) (by first|exact Kd.Cd (Kd.Yd gf.out (fun _ hk=>hk.2))|(rw [Le];exact Kd.Cd (Kd.Yd gf.out (fun _ hk=>hk.2)))|(show (Addr.add _ _).block ≠ _;rw [Le];exact Kd.Cd (Kd.Yd gf.out (fun _ hk=>hk.2)))|(dsimp only;exact Kd.Cd (Kd.Yd gf.out (fun _ hk=>hk.2)))) _).trans (hHeld.2.2.2.2.2.2.2.1)))),((cell_far (p:=⟨Fa,_,none⟩) (by first|exact Kd.Cd (Kd.Yd gf.out (fun _ hk=>hk.2))|(rw [Le];exact Kd.Cd (Kd.Yd gf.out (fun _ hk=>hk.2)))|(show (Addr.add _ _).block ≠ _;rw [Le];exact Kd.Cd (Kd.Yd gf.out (fun _ hk=>hk.2)))|(dsimp only;exact Kd.Cd (Kd.Yd gf.out (fun _ hk=>hk.2)))) _).trans (((cell_far (p:=⟨Fa,_,none⟩) (by first|exact Kd.Cd (Kd.Yd gf.out (fun _ hk=>hk.2))|(rw [Le];exact Kd.Cd (Kd.Yd gf.out (fun _ hk=>hk.2)))|(show (Addr.add _ _).block ≠ _;rw [Le];exact Kd.Cd (Kd.Yd gf.out (fun _ hk=>hk.2)))|(dsimp only;exact Kd.Cd (Kd.Yd gf.out (fun _ hk=>hk.2)))) _).trans (hHeld.2.2.2.2.2.2.2.2.1)))),((cell_far (p:=⟨Fa,_,none⟩) (by first|exact Kd.Cd (Kd.Yd gf.out (fun _ hk=>hk.2))|(rw [Le];exact Kd.Cd (Kd.Yd gf.out (fun _ hk=>hk.2)))|(show (Addr.add _ _).block ≠ _;rw [Le];exact Kd.Cd (Kd.Yd gf.out (fun _ hk=>hk.2)))|(dsimp only;exact Kd.Cd (Kd.Yd gf.out (fun _ hk=>hk.2)))) _).trans (((cell_far (p:=⟨Fa,_,none⟩) (by first|exact Kd.Cd (Kd.Yd gf.out (fun _ hk=>hk.2))|(rw [Le];exact Kd.Cd (Kd.Yd gf.out (fun _ hk=>hk.2)))|(show (Addr.add _ _).block ≠ _;rw [Le];exact Kd.Cd (Kd.Yd gf.out (fun _ hk=>hk.2)))|(dsimp only;exact Kd.Cd (Kd.Yd gf.out (fun _ hk=>hk.2)))) _).trans (hHeld.2.2.2.2.2.2.2.2.2.1)))),((cell_far (p:=⟨Fa,_,none⟩) (by first|exact Kd.Cd (Kd.Yd gf.out (fun _ hk=>hk.2))|(rw [Le];exact Kd.Cd (Kd.Yd gf.out (fun _ hk=>hk.2)))|(show (Addr.add _ _).block ≠ _;rw [Le];exact Kd.Cd (Kd.Yd gf.out (fun _ hk=>hk.2)))|(dsimp only;exact Kd.Cd (Kd.Yd gf.out (fun _ hk=>hk.2)))) _).trans (((cell_far (p:=⟨Fa,_,none⟩) (by first|exact Kd.Cd (Kd.Yd gf.out (fun _ hk=>hk.2))|(rw [Le];exact Kd.Cd (Kd.Yd gf.out (fun _ hk=>hk.2)))|(show (Addr.add _ _).block ≠ _;rw [Le];exact Kd.Cd (Kd.Yd gf.out (fun _ hk=>hk.2)))|(dsimp only;exact Kd.Cd (Kd.Yd gf.out (fun _ hk=>hk.2)))) _).trans (hHeld.2.2.2.2.2.2.2.2.2.2))))⟩ (fun hHeld=>?_)
           clear hK K
           refine qd (i:=17) (N:=some 8) (v:=?_) (a':=?_) #[true,true,true,true,true,true,true,true,true,true,true,true,true,true,true,true,true,true] rfl rfl (Oc Cf.out (by kernel_rfl)) (fun _ _ _ h=>h) (Or.inl ⟨by rfl,?_⟩) ?_ ?_
           rotate_left
           ·intro w'
            go_simp
            with_reducible rfl
           rotate_left
           ·simp only [Act.put,List.setIfInBounds_toArray,List.set_cons_zero,List.set_cons_succ,Ib,Jb]
            rfl
           refine wm (Sj Cf.out (by kernel_rfl)) ?_
           have Gb:ja (Kd.R Jl 77 ((RQ.setCell ⟨Fa,0,none⟩ (.int .i64 t108)).setCell ⟨Fa,1,none⟩ (.int .i64 t109)) w0.heap.size (fun k_=>(Uj k_ ∨ w.heap.size ≤ k_)∧k_ ≠ Fa) (.slice (some si) l1.length qQ) l1):=⟨by (with_reducible repeat (first|apply Kd.Dc|apply Kd.Ic|apply Kd.Zc));exact Kd.Oe (Kd.qg (p:=⟨Fa,1,none⟩) (Kd.qg (p:=⟨Fa,0,none⟩) (Kd.Oe gf.out (fun k_ hk=>(⟨hk,hk.2⟩:_∧k_ ≠ Fa))) (fun _ hk=>hk.2) (.int .i64 t108)) (fun _ hk=>hk.2) (.int .i64 t109)) (fun _ hk=>⟨hk.1.1,hk.1.2⟩)⟩
           have Vb:ja (((RQ.setCell ⟨Fa,0,none⟩ (.int .i64 t108)).setCell ⟨Fa,1,none⟩ (.int .i64 t109)).heap[Ea]? = some (.cells #[.int .i64 Pc,.int .i64 Ma,.int .i64 Oa,.int .i64 Pa,.int .i64 nc,.int .i64 Od,.string Nd] 70 (0,0))):=⟨by (with_reducible repeat (first|refine Da ?_ _|refine Ga ?_|refine Ca ?_ _));refine jd ?_ Ua.out _;(with_reducible repeat (first|refine Da ?_ _|refine Ga ?_|refine Ca ?_ _));refine jd ?_ Ua.out _;(with_reducible repeat (first|refine Da ?_ _|refine Ga ?_|refine Ca ?_ _));exact za.out⟩
           have Ac:ja (((RQ.setCell ⟨Fa,0,none⟩ (.int .i64 t108)).setCell ⟨Fa,1,none⟩ (.int .i64 t109)).heap[Fa]? = some (.cells #[.int .i64 t108,.int .i64 t109] 77 (0,0))):=⟨by (with_reducible repeat (first|refine Da ?_ _|refine Ga ?_|refine Ca ?_ _));refine Wb (cs:=#[.int .i64 t108,.int .i64 0]) ?_ 1 _ rfl;(with_reducible repeat (first|refine Da ?_ _|refine Ga ?_|refine Ca ?_ _));refine Wb (cs:=#[.int .i64 0,.int .i64 0]) ?_ 0 _ rfl;(with_reducible repeat (first|refine Da ?_ _|refine Ga ?_|refine Ca ?_ _));exact Ba.out⟩
           have ud:ja (Kept w ((RQ.setCell ⟨Fa,0,none⟩ (.int .i64 t108)).setCell ⟨Fa,1,none⟩ (.int .i64 t109)) (fun k_=>Uj k_)):=⟨by repeat (first|(with_reducible first|exact HK.out|apply Kept.alloc|apply Kept.drewN|apply Kept.drew|refine Kept.setCell ?_ (.inr Be.out) _|refine Kept.setCell ?_ (.inr Df.out) _)|exact HK.out)⟩
           have ef:ja (Below w0.heap.size w0 ((RQ.setCell ⟨Fa,0,none⟩ (.int .i64 t108)).setCell ⟨Fa,1,none⟩ (.int .i64 t109))):=⟨by repeat (first|(with_reducible first|exact HB.out|apply qa|apply ia|apply ua|refine Aa ?_ Wa.out|refine Aa ?_ Sb.out)|exact HB.out)⟩
           (try clear gf)
           (try clear za)
           (try clear Ba)
           (try clear HK)
           (try clear HB)
           generalize ((RQ.setCell ⟨Fa,0,none⟩ (.int .i64 t108)).setCell ⟨Fa,1,none⟩ (.int .i64 t109))=w79 at Gb Vb Ac ud ef ⊢
           have gf:=Gb
           have za:=Vb
           have Ba:=Ac
           have HK:=ud
           have HB:=ef
           clear Gb Vb Ac ud ef
           have yG:w79.cell? ⟨Fa,0,none⟩=some (.int .i64 t108):=(ga Ba.out 0).trans rfl
           have xG:w79.cell? ⟨Fa,1,none⟩=some (.int .i64 t109):=(ga Ba.out 1).trans rfl
           have dF:=aa Ba.out 0
           have cF:=aa Ba.out 1
           try go_wp2_with (first|((with_reducible refine qf (t:=77) (p:=7) rfl ?_);refine Xe (t:=77) (p:=7) (v:=?vo_w81) (w1:=((w79.setCell ⟨Fa,0,none⟩ (.int .i64 a2)).setCell ⟨Fa,1,none⟩ (.int .i64 0))) ?hg ?ho ?hn ?hr ?_;(case ho=>rfl);(case hg=>rfl);(case hn=>rfl);(case hr=>first|(go_simp;done)|(go_simp;rfl));intro Zy hw;have Gb:ja (Kd.R Jl 77 Zy w0.heap.size (fun k_=>(Uj k_ ∨ w.heap.size ≤ k_)∧k_ ≠ Fa) (.slice (some si) l1.length qQ) l1):=⟨(by rw [hw];exact (by (with_reducible repeat (first|apply Kd.Dc|apply Kd.Ic|apply Kd.Zc));exact Kd.Oe (Kd.qg (p:=⟨Fa,1,none⟩) (Kd.qg (p:=⟨Fa,0,none⟩) (Kd.Oe gf.out (fun k_ hk=>(⟨hk,hk.2⟩:_∧k_ ≠ Fa))) (fun _ hk=>hk.2) (.int .i64 a2)) (fun _ hk=>hk.2) (.int .i64 0)) (fun _ hk=>⟨hk.1.1,hk.1.2⟩)))⟩;have Vb:ja (Zy.heap[Ea]? = some (.cells #[.int .i64 Pc,.int .i64 Ma,.int .i64 Oa,.int .i64 Pa,.int .i64 nc,.int .i64 Od,.string Nd] 70 (0,0))):=⟨(by rw [hw];exact (by (with_reducible repeat (first|refine Da ?_ _|refine Ga ?_|refine Ca ?_ _));refine jd ?_ Ua.out _;(with_reducible repeat (first|refine Da ?_ _|refine Ga ?_|refine Ca ?_ _));refine jd ?_ Ua.out _;(with_reducible repeat (first|refine Da ?_ _|refine Ga ?_|refine Ca ?_ _));exact za.out))⟩;have Ac:ja (Zy.heap[Fa]? = some (.cells #[.int .i64 a2,.int .i64 0] 77 (0,0))):=⟨(by rw [hw];exact (by (with_reducible repeat (first|refine Da ?_ _|refine Ga ?_|refine Ca ?_ _));refine Wb (cs:=#[.int .i64 a2,.int .i64 t109]) ?_ 1 _ rfl;(with_reducible repeat (first|refine Da ?_ _|refine Ga ?_|refine Ca ?_ _));refine Wb (cs:=#[.int .i64 t108,.int .i64 t109]) ?_ 0 _ rfl;(with_reducible repeat (first|refine Da ?_ _|refine Ga ?_|refine Ca ?_ _));exact Ba.out))⟩;have ud:ja (Kept w Zy (fun k_=>Uj k_)):=⟨(by rw [hw];exact (by repeat (first|(with_reducible first|exact HK.out|apply Kept.alloc|apply Kept.drewN|apply Kept.drew|refine Kept.setCell ?_ (.inr Be.out) _|refine Kept.setCell ?_ (.inr Df.out) _)|exact HK.out)))⟩;have ef:ja (Below w0.heap.size w0 Zy):=⟨(by rw [hw];exact (by repeat (first|(with_reducible first|exact HB.out|apply qa|apply ia|apply ua|refine Aa ?_ Wa.out|refine Aa ?_ Sb.out)|exact HB.out)))⟩;clear hw;clear gf;clear za;clear Ba;clear HK;clear HB;have gf:=Gb;have za:=Vb;have Ba:=Ac;have HK:=ud;have HB:=ef;clear Gb Vb Ac ud ef;have wG:Zy.cell? ⟨Ea,0,none⟩=some (.int .i64 Pc):=(ga za.out 0).trans rfl;have vG:Zy.cell? ⟨Ea,1,none⟩=some (.int .i64 Ma):=(ga za.out 1).trans rfl;have uG:Zy.cell? ⟨Ea,2,none⟩=some (.int .i64 Oa):=(ga za.out 2).trans rfl;have sG:Zy.cell? ⟨Ea,3,none⟩=some (.int .i64 Pa):=(ga za.out 3).trans rfl;have rG:Zy.cell? ⟨Ea,4,none⟩=some (.int .i64 nc):=(ga za.out 4).trans rfl;have qG:Zy.cell? ⟨Ea,5,none⟩=some (.int .i64 Od):=(ga za.out 5).trans rfl;have pG:Zy.cell? ⟨Ea,6,none⟩=some (.string Nd):=(ga za.out 6).trans rfl;have bF:=aa za.out 0;have ZE:=aa za.out 1;have YE:=aa za.out 2;have XE:=aa za.out 3;have WE:=aa za.out 4;have VE:=aa za.out 5;have UE:=aa za.out 6;have AO:Zy.cell? ⟨Fa,0,none⟩=some (.int .i64 a2):=(ga Ba.out 0).trans rfl;have zO:Zy.cell? ⟨Fa,1,none⟩=some (.int .i64 0):=(ga Ba.out 1).trans rfl;have NM:=aa Ba.out 0;have MM:=aa Ba.out 1;have fW:0 ≤ (Ma:Int):=of_decide_eq_true (by first|(with_reducible assumption)|assumption);have dW:(Ma:Int) < ((l1.length:Int):Int):=of_decide_eq_true (by first|(with_reducible assumption)|assumption);obtain ⟨ny,Kam,C3,Q2,Aag,Ram,U5⟩:=Kd.Qo gf.out (by omega);(first|cases C3|(injection C3 with Ei en_ ec_;(first|subst Ei|(injection Ei with Ei;subst Ei));subst ec_;clear en_));have K6:=ja.mk Q2;have Lan:=ja.mk U5;clear Q2 Aag U5;have gah:=ja.mk (show (Uj ny ∨ w.heap.size ≤ ny) from (gf.out.1 _ rfl).1);(first|simp only [add_plain] at Af|skip);(first|simp only [add_plain] at Gf|skip);(first|simp only [add_plain] at uh|skip);(first|simp only [add_plain] at th|skip);obtain ⟨Yam,N1,Y1,NK,oK⟩:=Kd.ah gf.out YI (Ma:Int) fW dW;obtain rfl:=rj Y1;have aT:Zy.cell? ⟨ny,(Ma:Int).toNat * 2,none⟩=some (.int .i64 ((Ld l1 Ma).f0)):=NK 0 _ rfl;have ZS:Zy.cell? ⟨ny,(Ma:Int).toNat * 2 + 1,none⟩=some (.int .i64 ((Ld l1 Ma).f1)):=NK 1 _ rfl;have Kaf:Zy.frozen? ⟨ny,(Ma:Int).toNat * 2,none⟩=false:=oK 0;have Jaf:Zy.frozen? ⟨ny,(Ma:Int).toNat * 2 + 1,none⟩=false:=oK 1;clear N1 NK oK Y1;replace fW:=eq_true fW;replace dW:=eq_true dW;have W4:=ja.mk (show Kd.R Jl 77 Zy w0.heap.size (fun k_=>(Uj k_ ∨ w.heap.size ≤ k_)∧k_ ≠ Fa) (.slice (some ⟨ny,0,none⟩) l1.length qQ) l1 from (by (with_reducible repeat (first|apply Kd.Dc|apply Kd.Ic|apply Kd.Zc));exact gf.out));obtain ⟨Wam,sR,V1,DH,nK⟩:=Kd.ah W4.out YI (Ma:Int) (of_decide_eq_true (by first|(with_reducible assumption)|assumption)) (by have h_:(Ma:Int) < ((l1.length:Int):Int):=of_decide_eq_true (by first|(with_reducible assumption)|assumption);first|exact h_|(have e_:=(Kd.Cc gf.out).1;omega)|simpa using h_);obtain rfl:=rj V1;have ZU:=Kd.Pn W4.out (Ma:Int) (of_decide_eq_true (by first|(with_reducible assumption)|assumption)) (by have h_:(Ma:Int) < ((l1.length:Int):Int):=of_decide_eq_true (by first|(with_reducible assumption)|assumption);first|exact h_|(have e_:=(Kd.Cc gf.out).1;omega)|simpa using h_) (seg:=[.int .i64 a2,.int .i64 0]) (j:=0) sR DH (show 2 ≤ 2 from by decide) (x':=(⟨a2,0⟩:Lj)) (Mq _ _ _ (⟨a2,0⟩:Lj) ) (fun _ hk=>hk);have FJ:=DH 0 _ rfl;(try simp only [show (Jl).sz=2 from rfl,Nat.mul_one,Nat.add_zero] at FJ);have FT:=nK 0;(try simp only [show (Jl).sz=2 from rfl,Nat.mul_one,Nat.add_zero] at FT);have EJ:=DH 1 _ rfl;(try simp only [show (Jl).sz=2 from rfl,Nat.mul_one,Nat.add_zero] at EJ);have ET:=nK 1;(try simp only [show (Jl).sz=2 from rfl,Nat.mul_one,Nat.add_zero] at ET);clear sR DH nK V1)|((with_reducible refine qf (t:=77) (p:=56) rfl ?_);refine Xe (t:=77) (p:=56) (v:=?vo_w85) (w1:=((Zy.setCell ⟨ny,(Ma:Int).toNat * 2,none⟩ (.int .i64 a2)).setCell ⟨ny,(Ma:Int).toNat * 2 + 1,none⟩ (.int .i64 0))) ?hg ?ho ?hn ?hr ?_;(case ho=>rfl);(case hg=>rfl);(case hn=>rfl);(case hr=>first|(go_simp;done)|(go_simp;rfl));intro w85 hw;have hg:Zy.grownBy w85 (some ny):=(by rw [hw];exact ZU.2);have Gn:Kd.R Jl 77 w85 w0.heap.size (fun k_=>(Uj k_ ∨ w.heap.size ≤ k_)∧k_ ≠ Fa) (.slice (some ⟨ny,0,none⟩) l1.length qQ) y112:=(by rw [hw,Oy.out];exact ZU.1);clear ZU;have Gb:=ja.mk (Gn);have Vb:=ja.mk (ji (g:=Ea) (o:=.cells #[.int .i64 Pc,.int .i64 Ma,.int .i64 Oa,.int .i64 Pa,.int .i64 nc,.int .i64 Od,.string Nd] 70 (0,0)) (by (with_reducible repeat (first|refine Da ?_ _|refine Ga ?_|refine Ca ?_ _));exact za.out) hg (Kd.Ly gf.out za.out (by decide)));have Ac:=ja.mk (ji (g:=Fa) (o:=.cells #[.int .i64 a2,.int .i64 0] 77 (0,0)) (by (with_reducible repeat (first|refine Da ?_ _|refine Ga ?_|refine Ca ?_ _));exact Ba.out) hg (Kd.Yd gf.out (fun _ hk=>hk.2)));have ud:=ja.mk ((by rw [hw];exact Aa (Aa (HB.out) K6.out) K6.out:Below w0.heap.size w0 w85));have ef:=ja.mk (Kept.Fh (S:=(fun k_=>Uj k_)) hg (by repeat (first|(with_reducible first|exact HK.out|apply Kept.alloc|apply Kept.drewN|apply Kept.drew|refine Kept.setCell ?_ (.inr Be.out) _|refine Kept.setCell ?_ (.inr Df.out) _)|exact HK.out)) (fun k_ e_=>(gf.out.1 k_ e_).1));clear gf;clear za;clear Ba;clear HB;clear HK;have gf:=Gb;have za:=Vb;have Ba:=Ac;have HB:=ud;have HK:=ef;clear Gb Vb Ac ud ef;clear hg hw Gn))
           go_ret
           exact ⟨by first|rfl|(simp [La,Ka] <;> rfl)|(simp [*,La,Ka] <;> rfl),by (with_reducible repeat (first|apply Kd.Dc|apply Kd.Ic|apply Kd.Zc));exact Kd.Oe gf.out (fun _ hk=>hk.1),by repeat (first|(with_reducible first|exact HB.out|apply qa|apply ia|apply ua|refine Aa ?_ Wa.out|refine Aa ?_ Sb.out)|exact HB.out),by repeat (first|(with_reducible first|exact HK.out|apply Kept.alloc|apply Kept.drewN|apply Kept.drew|refine Kept.setCell ?_ (.inr Be.out) _|refine Kept.setCell ?_ (.inr Df.out) _)|exact HK.out)⟩
          ·rw [if_neg c66] at H
           exact absurd H (by simp)
         ·rw [if_neg c65] at H
          exact absurd H (by simp)
       ·rw [if_neg c43] at H
        exact absurd H (by simp)
      ·rw [if_neg c42] at H
       exact absurd H (by simp)
     ·rw [if_neg c41] at H
      exact absurd H (by simp)
    ·rw [if_neg c40] at H
     exact absurd H (by simp)
   ·rw [if_neg c39] at H
    have GR:(Pc == 2)=false:=beq_eq_false_iff_ne.mpr c39
    have FR:(Pc != 2)=true:=bne_iff_ne.mpr c39
    have pV:=ja.mk H
    clear H
    go_enter Try.func78,Try.ntmps78
    go_upto_if 43 with (first|((with_reducible refine Kb (N:=3) rfl ?_);refine Eb ?hg (N:=3) ?hd (cs:=#[.int .i64 Pc,.int .i64 Ma,.int .i64 Oa,.int .i64 Pa,.int .i64 nc,.int .i64 Od,.string Nd]) (t:=70) ?hr ?_;(case hd=>rfl);(case hg=>rfl);(case hr=>first|(go_simp;done)|(go_simp;rfl));intro Ea hg w87 Tb hb;have Gb:=ja.mk (Kd.Ce (by (with_reducible repeat (first|apply Kd.Dc|apply Kd.Ic|apply Kd.Zc));exact gf.out) hb);have Vb:=ja.mk (Kept.below (S:=(fun k_=>Uj k_)) (by repeat (first|(with_reducible first|exact HK.out|apply Kept.alloc|apply Kept.drewN|apply Kept.drew)|exact HK.out)) hb);have Ac:=ja.mk (Qa (by repeat (first|(with_reducible first|exact HB.out|apply qa|apply ia|apply ua)|exact HB.out)) hb);have ud:=ja.mk (Tb);have ef:=ja.mk ((by rw [hg];exact (by first|exact HK.out.1|exact (show Kept w _ (fun k_=>Uj k_) from by repeat (first|(with_reducible first|exact HK.out|apply Kept.alloc|apply Kept.drewN|apply Kept.drew)|exact HK.out)).1):w.heap.size ≤ Ea));have Ag:=ja.mk ((by rw [hg];exact (Ra (by repeat (first|(with_reducible first|exact HB.out|apply qa|apply ia|apply ua)|exact HB.out))):w0.heap.size ≤ Ea));clear gf;clear HK;clear HB;have gf:=Gb;have HK:=Vb;have HB:=Ac;have za:=ud;have Be:=ef;have Wa:=Ag;clear Gb Vb Ac ud ef Ag;clear hb Tb hg)|((with_reducible refine Kb (N:=7) rfl ?_);refine Eb ?hg (N:=7) ?hd (cs:=#[.int .i64 0,.int .i64 0]) (t:=77) ?hr ?_;(case hd=>rfl);(case hg=>rfl);(case hr=>first|(go_simp;done)|(go_simp;rfl));intro Fa hg cM Tb hb;have Gb:=ja.mk (Kd.Ce (Kd.Cq (by (with_reducible repeat (first|apply Kd.Dc|apply Kd.Ic|apply Kd.Zc));exact gf.out) Fa (Nat.le_of_eq hg.symm)) hb);have Vb:=ja.mk (gb (g:=Ea) (o:=.cells #[.int .i64 Pc,.int .i64 Ma,.int .i64 Oa,.int .i64 Pa,.int .i64 nc,.int .i64 Od,.string Nd] 70 (0,0)) (by (with_reducible repeat (first|refine Da ?_ _|refine Ga ?_|refine Ca ?_ _));exact za.out) hb);have Ac:=ja.mk (Kept.below (S:=(fun k_=>Uj k_)) (by repeat (first|(with_reducible first|exact HK.out|apply Kept.alloc|apply Kept.drewN|apply Kept.drew|refine Kept.setCell ?_ (.inr Be.out) _)|exact HK.out)) hb);have ud:=ja.mk (Qa (by repeat (first|(with_reducible first|exact HB.out|apply qa|apply ia|apply ua|refine Aa ?_ Wa.out)|exact HB.out)) hb);have ef:=ja.mk (Tb);have Ag:=ja.mk ((by rw [hg];exact (by first|exact HK.out.1|exact (show Kept w _ (fun k_=>Uj k_) from by repeat (first|(with_reducible first|exact HK.out|apply Kept.alloc|apply Kept.drewN|apply Kept.drew|refine Kept.setCell ?_ (.inr Be.out) _)|exact HK.out)).1):w.heap.size ≤ Fa));have dh:=ja.mk ((by rw [hg];exact (Ra (by repeat (first|(with_reducible first|exact HB.out|apply qa|apply ia|apply ua|refine Aa ?_ Wa.out)|exact HB.out))):w0.heap.size ≤ Fa));have Fv:=ja.mk ((by rw [hg];exact Nat.ne_of_lt (Lc (g:=Ea) (o:=.cells #[.int .i64 Pc,.int .i64 Ma,.int .i64 Oa,.int .i64 Pa,.int .i64 nc,.int .i64 Od,.string Nd] 70 (0,0)) (by (with_reducible repeat (first|refine Da ?_ _|refine Ga ?_|refine Ca ?_ _));exact za.out)):Ea ≠ Fa));have Dv:=ja.mk ((by rw [hg];exact Nat.ne_of_gt (Lc (g:=Ea) (o:=.cells #[.int .i64 Pc,.int .i64 Ma,.int .i64 Oa,.int .i64 Pa,.int .i64 nc,.int .i64 Od,.string Nd] 70 (0,0)) (by (with_reducible repeat (first|refine Da ?_ _|refine Ga ?_|refine Ca ?_ _));exact za.out)):Fa ≠ Ea));clear gf;clear za;clear HK;clear HB;have gf:=Gb;have za:=Vb;have HK:=Ac;have HB:=ud;have Ba:=ef;have Df:=Ag;have Sb:=dh;have Ua:=Fv;have jb:=Dv;clear Gb Vb Ac ud ef Ag dh Fv Dv;clear hb Tb hg;have SW:=jb.out;have xW:=Ua.out;have oG:cM.cell? ⟨Fa,0,none⟩=some (.int .i64 0):=(ga Ba.out 0).trans rfl;have nG:cM.cell? ⟨Fa,1,none⟩=some (.int .i64 0):=(ga Ba.out 1).trans rfl;have SE:=aa Ba.out 0;have RE:=aa Ba.out 1;have yO:cM.cell? ⟨Ea,0,none⟩=some (.int .i64 Pc):=(ga za.out 0).trans rfl;have xO:cM.cell? ⟨Ea,1,none⟩=some (.int .i64 Ma):=(ga za.out 1).trans rfl;have wO:cM.cell? ⟨Ea,2,none⟩=some (.int .i64 Oa):=(ga za.out 2).trans rfl;have vO:cM.cell? ⟨Ea,3,none⟩=some (.int .i64 Pa):=(ga za.out 3).trans rfl;have uO:cM.cell? ⟨Ea,4,none⟩=some (.int .i64 nc):=(ga za.out 4).trans rfl;have tO:cM.cell? ⟨Ea,5,none⟩=some (.int .i64 Od):=(ga za.out 5).trans rfl;have sO:cM.cell? ⟨Ea,6,none⟩=some (.string Nd):=(ga za.out 6).trans rfl;have LM:=aa za.out 0;have KM:=aa za.out 1;have JM:=aa za.out 2;have IM:=aa za.out 3;have HM:=aa za.out 4;have GM:=aa za.out 5;have FM:=aa za.out 6))
    (try simp only [Act.put,List.setIfInBounds_toArray,List.set_cons_zero,List.set_cons_succ])
    go_cut [43] (fun v43 wc=>∃ (kq:Nat) (Nz:Bool),v43 = .bool Nz∧ja (jc.j0 kq l1 a2 Nz Pc Ma Oa Pa nc Od Nd=some (r1,r2))∧ja (kq ≤ k)∧ja (Kd.R Jl 77 wc w0.heap.size (fun k_=>(Uj k_ ∨ w.heap.size ≤ k_)∧k_ ≠ Fa) Cg l1)∧ja (wc.heap[Ea]? = some (.cells #[.int .i64 Pc,.int .i64 Ma,.int .i64 Oa,.int .i64 Pa,.int .i64 nc,.int .i64 Od,.string Nd] 70 (0,0)))∧ja (wc.heap[Fa]? = some (.cells #[.int .i64 0,.int .i64 0] 77 (0,0)))∧ja (Kept w wc (fun k_=>Uj k_))∧ja (Below w0.heap.size w0 wc))
    case first =>
     have H:=pV.out
     clear pV
     by_cases c92:Pc=3
     ·rw [if_pos c92] at H
      have Nv:(Pc == 3)=true:=beq_iff_eq.mpr c92
      have LH:(Pc != 3)=false:=bne_eq_false_iff_eq.mpr c92
      clear c92
      (first|rw [Nv]|(simp only [Ib,Jb];rw [Nv])|skip)
      have H':=ja.mk H
      clear H
      go_wp2
      go_meet
      case rel=>exact ⟨_,((Pc == 3)),(by first|rfl|(simp;done)|(simp [*];done)),H',⟨by first|omega|exact Nat.le_refl _⟩,⟨by (with_reducible repeat (first|apply Kd.Dc|apply Kd.Ic|apply Kd.Zc));exact Kd.Oe (Kd.qg (p:=⟨Fa,1,none⟩) (Kd.qg (p:=⟨Fa,0,none⟩) (Kd.Oe gf.out (fun k_ hk=>(⟨hk,hk.2⟩:_∧k_ ≠ Fa))) (fun _ hk=>hk.2) (.int .i64 0)) (fun _ hk=>hk.2) (.int .i64 0)) (fun _ hk=>⟨hk.1.1,hk.1.2⟩)⟩,⟨by (with_reducible repeat (first|refine Da ?_ _|refine Ga ?_|refine Ca ?_ _));refine jd ?_ Ua.out _;(with_reducible repeat (first|refine Da ?_ _|refine Ga ?_|refine Ca ?_ _));refine jd ?_ Ua.out _;(with_reducible repeat (first|refine Da ?_ _|refine Ga ?_|refine Ca ?_ _));exact za.out⟩,⟨by (with_reducible repeat (first|refine Da ?_ _|refine Ga ?_|refine Ca ?_ _));refine Wb (cs:=#[.int .i64 0,.int .i64 0]) ?_ 1 _ rfl;(with_reducible repeat (first|refine Da ?_ _|refine Ga ?_|refine Ca ?_ _));refine Wb (cs:=#[.int .i64 0,.int .i64 0]) ?_ 0 _ rfl;(with_reducible repeat (first|refine Da ?_ _|refine Ga ?_|refine Ca ?_ _));exact Ba.out⟩,⟨by repeat (first|(with_reducible first|exact HK.out|apply Kept.alloc|apply Kept.drewN|apply Kept.drew|refine Kept.setCell ?_ (.inr Be.out) _|refine Kept.setCell ?_ (.inr Df.out) _)|exact HK.out)⟩,⟨by repeat (first|(with_reducible first|exact HB.out|apply qa|apply ia|apply ua|refine Aa ?_ Wa.out|refine Aa ?_ Sb.out)|exact HB.out)⟩⟩
     ·rw [if_neg c92] at H
      have Nv:(Pc == 3)=false:=beq_eq_false_iff_ne.mpr c92
      have LH:(Pc != 3)=true:=bne_iff_ne.mpr c92
      (first|rw [Nv]|(simp only [Ib,Jb];rw [Nv])|skip)
      have H':=ja.mk H
      clear H
      go_wp2
      go_meet
      case rel=>exact ⟨_,((Pc == 5)),(by first|rfl|(simp;done)|(simp [*];done)),H',⟨by first|omega|exact Nat.le_refl _⟩,⟨by (with_reducible repeat (first|apply Kd.Dc|apply Kd.Ic|apply Kd.Zc));exact Kd.Oe (Kd.qg (p:=⟨Fa,1,none⟩) (Kd.qg (p:=⟨Fa,0,none⟩) (Kd.Oe gf.out (fun k_ hk=>(⟨hk,hk.2⟩:_∧k_ ≠ Fa))) (fun _ hk=>hk.2) (.int .i64 0)) (fun _ hk=>hk.2) (.int .i64 0)) (fun _ hk=>⟨hk.1.1,hk.1.2⟩)⟩,⟨by (with_reducible repeat (first|refine Da ?_ _|refine Ga ?_|refine Ca ?_ _));refine jd ?_ Ua.out _;(with_reducible repeat (first|refine Da ?_ _|refine Ga ?_|refine Ca ?_ _));refine jd ?_ Ua.out _;(with_reducible repeat (first|refine Da ?_ _|refine Ga ?_|refine Ca ?_ _));exact za.out⟩,⟨by (with_reducible repeat (first|refine Da ?_ _|refine Ga ?_|refine Ca ?_ _));refine Wb (cs:=#[.int .i64 0,.int .i64 0]) ?_ 1 _ rfl;(with_reducible repeat (first|refine Da ?_ _|refine Ga ?_|refine Ca ?_ _));refine Wb (cs:=#[.int .i64 0,.int .i64 0]) ?_ 0 _ rfl;(with_reducible repeat (first|refine Da ?_ _|refine Ga ?_|refine Ca ?_ _));exact Ba.out⟩,⟨by repeat (first|(with_reducible first|exact HK.out|apply Kept.alloc|apply Kept.drewN|apply Kept.drew|refine Kept.setCell ?_ (.inr Be.out) _|refine Kept.setCell ?_ (.inr Df.out) _)|exact HK.out)⟩,⟨by repeat (first|(with_reducible first|exact HB.out|apply qa|apply ia|apply ua|refine Aa ?_ Wa.out|refine Aa ?_ Sb.out)|exact HB.out)⟩⟩
    case rest =>
     clear pV
     try clear c1
     try clear p1
     try clear q1
     try clear hx1
     try clear p2
     try clear c3
     try clear c4
     try clear p4
     try clear q4
     try clear rq
     try clear hf4
     try clear c6
     try clear p6
     try clear q6
     try clear Yv
     try clear hf6
     try clear c7
     try clear c8
     try clear hx8
     try clear hf8
     try clear c9
     try clear wo
     try clear rD
     try clear nD
     try clear hx10
     try clear c39
     try clear GR
     try clear FR
     try clear c40
     try clear c41
     try clear c42
     try clear c43
     try clear c45
     try clear c46
     try clear c47
     try clear c48
     try clear gW
     try clear eW
     try clear hx48
     try clear hf48
     try clear c63
     try clear hx63
     try clear hf63
     try clear p64
     try clear c65
     try clear iL
     try clear c66
     try clear Q3
     try clear c67
     try clear fW
     try clear dW
     try clear hx67
     try clear hf67
     try clear c70
     try clear c78
     try clear c84
     try clear hx84
     try clear hf84
     try clear c89
     try clear c92
     try clear Nv
     try clear LH
     try clear LO
     try clear KO
     try clear JO
     try clear FO
     try clear EO
     try clear CO
     try clear BO
     try clear KG
     try clear JG
     try clear IG
     try clear GG
     try clear FG
     try clear EG
     try clear DG
     try clear CG
     try clear BG
     try clear AG
     try clear zG
     try clear yG
     try clear xG
     try clear wG
     try clear vG
     try clear uG
     try clear sG
     try clear rG
     try clear qG
     try clear pG
     try clear AO
     try clear zO
     try clear oG
     try clear nG
     try clear yO
     try clear xO
     try clear wO
     try clear vO
     try clear uO
     try clear tO
     try clear sO
     try clear VM
     try clear UM
     try clear SM
     try clear RM
     try clear QM
     try clear PM
     try clear OM
     try clear pF
     try clear oF
     try clear nF
     try clear mF
     try clear lF
     try clear kF
     try clear jF
     try clear iF
     try clear gF
     try clear fF
     try clear eF
     try clear dF
     try clear cF
     try clear bF
     try clear ZE
     try clear YE
     try clear XE
     try clear WE
     try clear VE
     try clear UE
     try clear NM
     try clear MM
     try clear SE
     try clear RE
     try clear LM
     try clear KM
     try clear JM
     try clear IM
     try clear HM
     try clear GM
     try clear FM
     try clear Af
     try clear Gf
     try clear uh
     try clear th
     try clear cT
     try clear bT
     try clear HJ
     try clear GJ
     try clear aT
     try clear ZS
     try clear FJ
     try clear EJ
     try clear Zj
     try clear Qr
     try clear gW
     try clear fW
     try clear Yj
     try clear Pr
     try clear eW
     try clear dW
     obtain ⟨kq,Nz,rfl,HA,Ean,Tr,za,Ba,HK,HB⟩:=hcut
     cases kq with
     | zero=>exact absurd HA.out (by simp [jc.j0])
     | succ kj85 =>
      have H:=HA.out
      clear HA
      simp only [jc.j0] at H
      by_cases c93:Nz=true
      ·subst c93
       have H1:(if 0 ≤ Ma then (if Ma < (l1.length:Int) then (some (wrap64 (a2 + 1),(l1.set (Ma:Int).toNat (⟨a2,0⟩:Lj)))) else (none)) else (none))=some (r1,r2):=by rw [if_pos rfl] at H;exact H
       clear H
       have H:=H1
       clear H1
       by_cases c94:0 ≤ Ma
       ·rw [if_pos c94] at H
        have Nak:decide (0 ≤ Ma)=true:=decide_eq_true c94
        clear c94
        by_cases c95:Ma < (l1.length:Int)
        ·rw [if_pos c95] at H
         have Mak:decide (Ma < (l1.length:Int))=true:=decide_eq_true c95
         clear c95
         obtain ⟨y113,hy113⟩:∃ y_:List (Lj),y_=(l1.set (Ma:Int).toNat (⟨a2,0⟩:Lj)):=⟨_,rfl⟩
         replace H:(some (wrap64 (a2 + 1),y113))=some (r1,r2):=by first|(rw [hy113];with_reducible exact H)|(have Eh:=(Option.bind_some _ _).symm.trans H;rw [hy113];with_reducible exact Eh)|(have Eh:=(Option.bind_some _ _).symm.trans H;with_reducible exact Eh)|with_reducible exact H|(rw [hy113];exact H)|exact H
         have Q4:=ja.mk hy113
         clear hy113
         simp only [Option.some.injEq,Prod.mk.injEq] at H
         obtain ⟨rfl,rfl⟩:=H
         have aaj:=jb.out
         have nai:=Ua.out
         have cab:wc.cell? ⟨Fa,0,none⟩=some (.int .i64 0):=(ga Ba.out 0).trans rfl
         have bab:wc.cell? ⟨Fa,1,none⟩=some (.int .i64 0):=(ga Ba.out 1).trans rfl
         have X7:=aa Ba.out 0
         have W7:=aa Ba.out 1
         go_wp2_with (first|((with_reducible refine qf (t:=77) (p:=7) rfl ?_);refine Xe (t:=77) (p:=7) (v:=?vo_w99) (w1:=((wc.setCell ⟨Fa,0,none⟩ (.int .i64 a2)).setCell ⟨Fa,1,none⟩ (.int .i64 0))) ?hg ?ho ?hn ?hr ?_;(case ho=>rfl);(case hg=>rfl);(case hn=>rfl);(case hr=>first|(go_simp;done)|(go_simp;rfl));intro Yy hw;have Gb:ja (Kd.R Jl 77 Yy w0.heap.size (fun k_=>(Uj k_ ∨ w.heap.size ≤ k_)∧k_ ≠ Fa) Cg l1):=⟨(by rw [hw];exact (by (with_reducible repeat (first|apply Kd.Dc|apply Kd.Ic|apply Kd.Zc));exact Kd.Oe (Kd.qg (p:=⟨Fa,1,none⟩) (Kd.qg (p:=⟨Fa,0,none⟩) (Kd.Oe Tr.out (fun k_ hk=>(⟨hk,hk.2⟩:_∧k_ ≠ Fa))) (fun _ hk=>hk.2) (.int .i64 a2)) (fun _ hk=>hk.2) (.int .i64 0)) (fun _ hk=>⟨hk.1.1,hk.1.2⟩)))⟩;have Vb:ja (Yy.heap[Ea]? = some (.cells #[.int .i64 Pc,.int .i64 Ma,.int .i64 Oa,.int .i64 Pa,.int .i64 nc,.int .i64 Od,.string Nd] 70 (0,0))):=⟨(by rw [hw];exact (by (with_reducible repeat (first|refine Da ?_ _|refine Ga ?_|refine Ca ?_ _));refine jd ?_ Ua.out _;(with_reducible repeat (first|refine Da ?_ _|refine Ga ?_|refine Ca ?_ _));refine jd ?_ Ua.out _;(with_reducible repeat (first|refine Da ?_ _|refine Ga ?_|refine Ca ?_ _));exact za.out))⟩;have Ac:ja (Yy.heap[Fa]? = some (.cells #[.int .i64 a2,.int .i64 0] 77 (0,0))):=⟨(by rw [hw];exact (by (with_reducible repeat (first|refine Da ?_ _|refine Ga ?_|refine Ca ?_ _));refine Wb (cs:=#[.int .i64 a2,.int .i64 0]) ?_ 1 _ rfl;(with_reducible repeat (first|refine Da ?_ _|refine Ga ?_|refine Ca ?_ _));refine Wb (cs:=#[.int .i64 0,.int .i64 0]) ?_ 0 _ rfl;(with_reducible repeat (first|refine Da ?_ _|refine Ga ?_|refine Ca ?_ _));exact Ba.out))⟩;have ud:ja (Kept w Yy (fun k_=>Uj k_)):=⟨(by rw [hw];exact (by repeat (first|(with_reducible first|exact HK.out|apply Kept.alloc|apply Kept.drewN|apply Kept.drew|refine Kept.setCell ?_ (.inr Be.out) _|refine Kept.setCell ?_ (.inr Df.out) _)|exact HK.out)))⟩;have ef:ja (Below w0.heap.size w0 Yy):=⟨(by rw [hw];exact (by repeat (first|(with_reducible first|exact HB.out|apply qa|apply ia|apply ua|refine Aa ?_ Wa.out|refine Aa ?_ Sb.out)|exact HB.out)))⟩;clear hw;clear Tr;clear za;clear Ba;clear HK;clear HB;have Tr:=Gb;have za:=Vb;have Ba:=Ac;have HK:=ud;have HB:=ef;clear Gb Vb Ac ud ef;have I1:Yy.cell? ⟨Ea,0,none⟩=some (.int .i64 Pc):=(ga za.out 0).trans rfl;have G1:Yy.cell? ⟨Ea,1,none⟩=some (.int .i64 Ma):=(ga za.out 1).trans rfl;have E1:Yy.cell? ⟨Ea,2,none⟩=some (.int .i64 Oa):=(ga za.out 2).trans rfl;have D1:Yy.cell? ⟨Ea,3,none⟩=some (.int .i64 Pa):=(ga za.out 3).trans rfl;have Z0:Yy.cell? ⟨Ea,4,none⟩=some (.int .i64 nc):=(ga za.out 4).trans rfl;have Y0:Yy.cell? ⟨Ea,5,none⟩=some (.int .i64 Od):=(ga za.out 5).trans rfl;have X0:Yy.cell? ⟨Ea,6,none⟩=some (.string Nd):=(ga za.out 6).trans rfl;have RY:=aa za.out 0;have QY:=aa za.out 1;have PY:=aa za.out 2;have OY:=aa za.out 3;have NY:=aa za.out 4;have MY:=aa za.out 5;have LY:=aa za.out 6;have KK:Yy.cell? ⟨Fa,0,none⟩=some (.int .i64 a2):=(ga Ba.out 0).trans rfl;have JK:Yy.cell? ⟨Fa,1,none⟩=some (.int .i64 0):=(ga Ba.out 1).trans rfl;have lK:=aa Ba.out 0;have kK:=aa Ba.out 1;have p96:0 ≤ (Ma:Int):=of_decide_eq_true (by first|(with_reducible assumption)|assumption);have q96:(Ma:Int) < ((l1.length:Int):Int):=of_decide_eq_true (by first|(with_reducible assumption)|assumption);obtain ⟨jy,F3,Z2,P2,zag,Qam,S5⟩:=Kd.Qo Tr.out (by omega);(first|cases Z2|(injection Z2 with Ei en_ ec_;(first|subst Ei|(injection Ei with Ei;subst Ei));subst ec_;clear en_));have J6:=ja.mk P2;have Kan:=ja.mk S5;clear P2 zag S5;have fah:=ja.mk (show (Uj jy ∨ w.heap.size ≤ jy) from (Tr.out.1 _ rfl).1);obtain ⟨Vam,K1,U1,MK,mK⟩:=Kd.ah Tr.out YI (Ma:Int) p96 q96;obtain rfl:=rj U1;have Gae:Yy.cell? ⟨jy,(Ma:Int).toNat * 2,none⟩=some (.int .i64 ((Ld l1 Ma).f0)):=MK 0 _ rfl;have Fae:Yy.cell? ⟨jy,(Ma:Int).toNat * 2 + 1,none⟩=some (.int .i64 ((Ld l1 Ma).f1)):=MK 1 _ rfl;have Iaf:Yy.frozen? ⟨jy,(Ma:Int).toNat * 2,none⟩=false:=mK 0;have Haf:Yy.frozen? ⟨jy,(Ma:Int).toNat * 2 + 1,none⟩=false:=mK 1;clear K1 MK mK U1;replace p96:=eq_true p96;replace q96:=eq_true q96;have XR:=ja.mk (show Kd.R Jl 77 Yy w0.heap.size (fun k_=>(Uj k_ ∨ w.heap.size ≤ k_)∧k_ ≠ Fa) (.slice (some ⟨jy,0,none⟩) l1.length F3) l1 from (by (with_reducible repeat (first|apply Kd.Dc|apply Kd.Ic|apply Kd.Zc));exact Tr.out));obtain ⟨Lak,LK,CR,gB,KD⟩:=Kd.ah XR.out YI (Ma:Int) (of_decide_eq_true (by first|(with_reducible assumption)|assumption)) (by have h_:(Ma:Int) < ((l1.length:Int):Int):=of_decide_eq_true (by first|(with_reducible assumption)|assumption);first|exact h_|(have e_:=(Kd.Cc Tr.out).1;omega)|simpa using h_);obtain rfl:=rj CR;have GL:=Kd.Pn XR.out (Ma:Int) (of_decide_eq_true (by first|(with_reducible assumption)|assumption)) (by have h_:(Ma:Int) < ((l1.length:Int):Int):=of_decide_eq_true (by first|(with_reducible assumption)|assumption);first|exact h_|(have e_:=(Kd.Cc Tr.out).1;omega)|simpa using h_) (seg:=[.int .i64 a2,.int .i64 0]) (j:=0) LK gB (show 2 ≤ 2 from by decide) (x':=(⟨a2,0⟩:Lj)) (Mq _ _ _ (⟨a2,0⟩:Lj) ) (fun _ hk=>hk);have Ed:=gB 0 _ rfl;(try simp only [show (Jl).sz=2 from rfl,Nat.mul_one,Nat.add_zero] at Ed);have qO:=KD 0;(try simp only [show (Jl).sz=2 from rfl,Nat.mul_one,Nat.add_zero] at qO);have ee:=gB 1 _ rfl;(try simp only [show (Jl).sz=2 from rfl,Nat.mul_one,Nat.add_zero] at ee);have pO:=KD 1;(try simp only [show (Jl).sz=2 from rfl,Nat.mul_one,Nat.add_zero] at pO);clear LK gB KD CR)|((with_reducible refine qf (t:=77) (p:=56) rfl ?_);refine Xe (t:=77) (p:=56) (v:=?vo_w103) (w1:=((Yy.setCell ⟨jy,(Ma:Int).toNat * 2,none⟩ (.int .i64 a2)).setCell ⟨jy,(Ma:Int).toNat * 2 + 1,none⟩ (.int .i64 0))) ?hg ?ho ?hn ?hr ?_;(case ho=>rfl);(case hg=>rfl);(case hn=>rfl);(case hr=>first|(go_simp;done)|(go_simp;rfl));intro ES hw;have hg:Yy.grownBy ES (some jy):=(by rw [hw];exact GL.2);have Gn:Kd.R Jl 77 ES w0.heap.size (fun k_=>(Uj k_ ∨ w.heap.size ≤ k_)∧k_ ≠ Fa) (.slice (some ⟨jy,0,none⟩) l1.length F3) y113:=(by rw [hw,Q4.out];exact GL.1);clear GL;have Gb:=ja.mk (Gn);have Vb:=ja.mk (ji (g:=Ea) (o:=.cells #[.int .i64 Pc,.int .i64 Ma,.int .i64 Oa,.int .i64 Pa,.int .i64 nc,.int .i64 Od,.string Nd] 70 (0,0)) (by (with_reducible repeat (first|refine Da ?_ _|refine Ga ?_|refine Ca ?_ _));exact za.out) hg (Kd.Ly Tr.out za.out (by decide)));have Ac:=ja.mk (ji (g:=Fa) (o:=.cells #[.int .i64 a2,.int .i64 0] 77 (0,0)) (by (with_reducible repeat (first|refine Da ?_ _|refine Ga ?_|refine Ca ?_ _));exact Ba.out) hg (Kd.Yd Tr.out (fun _ hk=>hk.2)));have ud:=ja.mk ((by rw [hw];exact Aa (Aa (HB.out) J6.out) J6.out:Below w0.heap.size w0 ES));have ef:=ja.mk (Kept.Fh (S:=(fun k_=>Uj k_)) hg (by repeat (first|(with_reducible first|exact HK.out|apply Kept.alloc|apply Kept.drewN|apply Kept.drew|refine Kept.setCell ?_ (.inr Be.out) _|refine Kept.setCell ?_ (.inr Df.out) _)|exact HK.out)) (fun k_ e_=>(Tr.out.1 k_ e_).1));clear Tr;clear za;clear Ba;clear HB;clear HK;have Tr:=Gb;have za:=Vb;have Ba:=Ac;have HB:=ud;have HK:=ef;clear Gb Vb Ac ud ef;clear hg hw Gn))
         go_ret
         exact ⟨by first|rfl|(simp [La,Ka] <;> rfl)|(simp [*,La,Ka] <;> rfl),by (with_reducible repeat (first|apply Kd.Dc|apply Kd.Ic|apply Kd.Zc));exact Kd.Oe Tr.out (fun _ hk=>hk.1),by repeat (first|(with_reducible first|exact HB.out|apply qa|apply ia|apply ua|refine Aa ?_ Wa.out|refine Aa ?_ Sb.out)|exact HB.out),by repeat (first|(with_reducible first|exact HK.out|apply Kept.alloc|apply Kept.drewN|apply Kept.drew|refine Kept.setCell ?_ (.inr Be.out) _|refine Kept.setCell ?_ (.inr Df.out) _)|exact HK.out)⟩
        ·rw [if_neg c95] at H
         exact absurd H (by simp)
       ·rw [if_neg c94] at H
        exact absurd H (by simp)
      ·replace c93:=Bool.eq_false_iff.mpr c93
       subst c93
       have H1:(some (a2,l1))=some (r1,r2):=by rw [if_neg (show ¬ (false=true) by decide)] at H;exact H
       clear H
       have H:=H1
       clear H1
       simp only [Option.some.injEq,Prod.mk.injEq] at H
       obtain ⟨rfl,rfl⟩:=H
       go_wp2
       go_ret
       exact ⟨by first|rfl|(simp [La,Ka] <;> rfl)|(simp [*,La,Ka] <;> rfl),by (with_reducible repeat (first|apply Kd.Dc|apply Kd.Ic|apply Kd.Zc));exact Kd.Oe Tr.out (fun _ hk=>hk.1),by repeat (first|(with_reducible first|exact HB.out|apply qa|apply ia|apply ua|refine Aa ?_ Wa.out|refine Aa ?_ Sb.out)|exact HB.out),by repeat (first|(with_reducible first|exact HK.out|apply Kept.alloc|apply Kept.drewN|apply Kept.drew|refine Kept.setCell ?_ (.inr Be.out) _|refine Kept.setCell ?_ (.inr Df.out) _)|exact HK.out)⟩
end Go.Proofs.Ytmifdccaajngcaa.P
