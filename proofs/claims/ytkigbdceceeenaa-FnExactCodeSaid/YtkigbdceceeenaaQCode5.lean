import Derived.Test.YtkigbdceceeenaaQCode1
import Derived.Test.YtkigbdceceeenaaQCode3
import Derived.Test.YtkigbdceceeenaaQCode4
set_option maxHeartbeats 8000000
set_option maxRecDepth 100000
namespace Go.Proofs.Ytkigbdceceeenaa.P
open Go.RowKit Go.Proofs.Oa.Rb Go.Proofs.Oa.Pd Go.Proofs.Oa.Re
attribute [local go_sem] Mh ki rj Kj th qh ni ji
set_option linter.unusedVariables false
set_option linter.unusedSimpArgs false
mutual
def Pb.l0:Nat→List Int→Int→List Int→Int→Int→Int→List (Ff)→List Int→Int→Int→List (Zb)→Option (List Int × Int × Int × (List (Zb)))
 | 0,_,_,_,_,_,_,_,_,_,_,_=>none
 | k + 1,x4,x5,qe,Ie,Wd,me,Qc,Oo,Mo,Lo,Ng=>if x5 < (Qc.length:Int) then (if x4.length < 17592186044416 then (Pb.l1 k (x4 ++ [(Ng.length:Int)]) x5 0 qe Ie Wd me Qc Oo Mo Lo Ng) else (none)) else (Pb.l2 k x4 0 Oo Mo Lo Ng)
def Pb.l1:Nat→List Int→Int→Int→List Int→Int→Int→Int→List (Ff)→List Int→Int→Int→List (Zb)→Option (List Int × Int × Int × (List (Zb)))
 | 0,_,_,_,_,_,_,_,_,_,_,_,_=>none
 | k + 1,x4,x5,x6,qe,Ie,Wd,me,Qc,Oo,Mo,Lo,Ng=>if 0 ≤ x5 then (if x5 < (Qc.length:Int) then (if x6 < (((Ia Qc x5).f0).length:Int) then (if 0 ≤ x6 then ((Tc.f k ((Ga ((Ia Qc x5).f0) x6).f0) ((Ga ((Ia Qc x5).f0) x6).f1) ((Ga ((Ia Qc x5).f0) x6).f2) ((Ga ((Ia Qc x5).f0) x6).f3) ((Ga ((Ia Qc x5).f0) x6).f4) ((Ga ((Ia Qc x5).f0) x6).f5) ((Ga ((Ia Qc x5).f0) x6).f6)).bind fun t120=>(if Ng.length + t120.length < 3518437208883 then (Pb.l1 k x4 x5 (wrap64 (x6 + 1)) qe Ie Wd me Qc Oo Mo Lo (Ng ++ t120)) else (none))) else (none)) else ((Bl.f ((Ia Qc x5).f0) ((Ia Qc x5).f1) ((Ia Qc x5).f2) ((Ia Qc x5).f3) ((Ia Qc x5).f4) (wrap64 (x5 + 1))).bind fun t127=>(if Ng.length + t127.length < 3518437208883 then (Pb.l0 k x4 (wrap64 (x5 + 1)) qe Ie Wd me Qc Oo Mo Lo (Ng ++ t127)) else (none)))) else (none)) else (none)
def Pb.l2:Nat→List Int→Int→List Int→Int→Int→List (Zb)→Option (List Int × Int × Int × (List (Zb)))
 | 0,_,_,_,_,_,_=>none
 | k + 1,x4,x7,Oo,Mo,Lo,Ng=>if x7 < (Ng.length:Int) then (if 0 ≤ x7 then ((Jj.f ((Wa Ng x7).f0) ((Wa Ng x7).f1) ((Wa Ng x7).f2) ((Wa Ng x7).f3) ((Wa Ng x7).f4)).bind fun t134=>(if t134=true then (if 0 ≤ ((Wa Ng x7).f4) then (if ((Wa Ng x7).f4) < (x4.length:Int) then (Pb.l2 k x4 (wrap64 (x7 + 1)) Oo Mo Lo (Ng.set (x7:Int).toNat (⟨(Wa Ng x7).f0,(Wa Ng x7).f1,(Wa Ng x7).f2,(Wa Ng x7).f3,rd x4 ((Wa Ng x7).f4)⟩:Zb))) else (none)) else (none)) else (Pb.l2 k x4 (wrap64 (x7 + 1)) Oo Mo Lo Ng))) else (none)) else (some (Oo,Mo,Lo,Ng))
end
def Pb.f (k:Nat) (Ua:List Int) (Pa:Int) (Ra:Int) (Sa:Int) (Fa:List (Ff)):Option (List Int × Int × Int × (List (Zb))):=(Sb.f k Ua Pa Ra Sa Fa).bind fun t103=>(if t103=true then ((some (([]:List Int):List Int)).bind fun Md=>(if Md.length + Ua.length < 17592186044416 then (Pb.l0 k (([]:List Int)) 0 Ua Pa Ra Sa Fa (Md ++ Ua) Pa Sa ([]:List (Zb))) else (none))) else (some (([]:List Int),0,0,([]:List (Zb)))))
def Pb.T3:Bool × List (List Nat × List Nat):=(true,[([],[]),([],[]),([1],[1]),([0,2],[0,2]),([],[]),([4],[4]),([],[]),([6],[6]),([3,5,7],[3,5,7]),([],[]),([9,8,3,0,1,2,3,4,5,6,7,8,9],[8,9])])
def Pb.B3:List Nat:=[0,0,2,7,0,16,0,64,255,0,1023]
theorem Pb.tax:Ql .any (opsOf Try.f33 3)=Pb.T3:=by kernel_rfl
theorem Pb.Jal:nj Pb.T3.2 Pb.B3=true:=by kernel_rfl
def Pb.T12:Bool × List (List Nat × List Nat):=(true,[([],[]),([0],[0]),([],[]),([2],[2]),([],[]),([3,4],[3,4]),([5],[5]),([6],[6]),([],[]),([7,8],[7,8]),([9],[9]),([10],[10]),([1,11,11],[1,11]),([0,1,2,3,4,5,6,7,8,9,10,11,12],[]),([13,12,12,0,1,2,3,4,5,6,7,8,9,10,11,12],[12,13])])
def Pb.B12:List Nat:=[0,1,0,4,0,28,60,124,0,508,1020,2044,4095,8191,16383]
theorem Pb.iaf:Ql .any (opsOf Try.f33 12)=Pb.T12:=by kernel_rfl
theorem Pb.Yac:nj Pb.T12.2 Pb.B12=true:=by kernel_rfl
def Pb.T13:Bool × List (List Nat × List Nat):=(true,[([],[]),([0],[0]),([],[]),([2],[2]),([],[]),([3,4],[3,4]),([5],[5]),([],[]),([7],[7]),([6,8],[6,8]),([1,9,9],[1,9]),([0,1,2,3,4,5,6,7,8,9,10],[]),([11,10,10,0,1,2,3,4,5,6,7,8,9,10],[10,11])])
def Pb.B13:List Nat:=[0,1,0,4,0,28,60,0,128,508,1023,2047,4095]
theorem Pb.eL:Ql .any (opsOf Try.f33 13)=Pb.T13:=by kernel_rfl
theorem Pb.vF:nj Pb.T13.2 Pb.B13=true:=by kernel_rfl
def Pb.T18:Bool × List (List Nat × List Nat):=(true,[([],[]),([0],[0]),([],[]),([],[]),([],[]),([4],[4]),([],[]),([5,6],[5,6]),([7],[7]),([8],[8]),([3,9],[3,9]),([10],[10]),([1,2,0,1,2,3,4,5,6,7,8,9,10,11],[1,2]),([12,0,1,2,3,4,5,6,7,8,9,10,11],[12]),([13,11,0,1,2,3,4,5,6,7,8,9,10,11],[11,13])])
def Pb.B18:List Nat:=[0,1,0,0,0,16,0,112,240,496,1016,2040,4095,8191,16383]
theorem Pb.haf:Ql .any (opsOf Try.f33 18)=Pb.T18:=by kernel_rfl
theorem Pb.Xac:nj Pb.T18.2 Pb.B18=true:=by kernel_rfl
theorem Pb.calls (k:Nat) (yb:Option Addr) (zb:Nat) (Ua:List Int) (Pa:Int) (Ra:Int) (Sa:Int) (fc:Option Addr) (Qb:Nat) (Fa:List (Ff)) (r1:List Int) (r2:Int) (r3:Int) (r4:List (Zb)) (w:World) (jf:Kd.C (Kd.int .i64) w yb Ua.length Ua) (Ze:Ua.length ≤ zb) (Lg:Kd.C Wr w fc Fa.length Fa) (Ig:Fa.length ≤ Qb) (h:Pb.f k Ua Pa Ra Sa Fa=some (r1,r2,r3,r4)) :
  Calls Try.prog 33 #[.agg #[.slice yb Ua.length zb,.int .i64 Pa,.int .i64 Ra,.int .i64 Sa,.slice fc Fa.length Qb]] w fun e w'=>∃ Zn b7:Value,e = .returned (.agg #[Zn,.int .i64 r2,.int .i64 r3,b7])∧Kd.R (Kd.int .i64) 3 w' w.heap.size (fun _=>True) Zn r1∧Kd.R Yg 79 w' w.heap.size (fun _=>True) b7 r4∧Below w.heap.size w w':=by
 have uI:=Try.underlying30;have rZ:=Try.underlying49;have CC:=Try.underlying65;have oG:=Try.underlying59;have JS:=Try.underlying79;have lf:=aa.mk jf;have Df:=aa.mk Ze;clear jf Ze;have Tg:=aa.mk Lg;have Ej:=aa.mk Ig;clear Lg Ig;have HB:=aa.mk (Below.refl w.heap.size w);have H:((Sb.f k Ua Pa Ra Sa Fa).bind fun t103=>(if t103=true then ((some (([]:List Int):List Int)).bind fun Md=>(if Md.length + Ua.length < 17592186044416 then (Pb.l0 k (([]:List Int)) 0 Ua Pa Ra Sa Fa (Md ++ Ua) Pa Sa ([]:List (Zb))) else (none))) else (some (([]:List Int),0,0,([]:List (Zb))))))=some (r1,r2,r3,r4):=h;clear h;replace H:=Option.bind_eq_some_iff.mp H;obtain ⟨t103,uC,H⟩:=H
 try dsimp only at H
 have A2:=aa.mk uC;clear uC
 by_cases c3:t103=true
 ·subst c3;rw [if_pos rfl] at H;obtain ⟨Md,gl⟩:∃ y_:List Int,y_=(([]:List Int)):=⟨_,rfl⟩;replace H:(if Md.length + Ua.length < 17592186044416 then (Pb.l0 k (([]:List Int)) 0 Ua Pa Ra Sa Fa (Md ++ Ua) Pa Sa ([]:List (Zb))) else (none))=some (r1,r2,r3,r4):=by first|(rw [gl];with_reducible exact H)|(have Ld:=(Option.bind_some _ _).symm.trans H;rw [gl];with_reducible exact Ld)|(have Ld:=(Option.bind_some _ _).symm.trans H;with_reducible exact Ld)|with_reducible exact H|(rw [gl];exact H)|exact H
  have Rv:=aa.mk gl;clear gl
  by_cases c4:Md.length + Ua.length < 17592186044416
  ·rw [if_pos c4] at H;have tad:=aa.mk c4;clear c4;obtain ⟨zh,cv⟩:∃ y_:List Int,y_=(Md ++ Ua):=⟨_,rfl⟩;replace H:(Pb.l0 k (([]:List Int)) 0 Ua Pa Ra Sa Fa zh Pa Sa ([]:List (Zb)))=some (r1,r2,r3,r4):=by first|(rw [cv];with_reducible exact H)|(have Ld:=(Option.bind_some _ _).symm.trans H;rw [cv];with_reducible exact Ld)|(have Ld:=(Option.bind_some _ _).symm.trans H;with_reducible exact Ld)|with_reducible exact H|(rw [cv];exact H)|exact H
   have yM:=aa.mk cv;clear cv;obtain ⟨Mm,fl⟩:∃ y_:List Int,y_=(([]:List Int)):=⟨_,rfl⟩;replace H:(Pb.l0 k Mm 0 Ua Pa Ra Sa Fa zh Pa Sa ([]:List (Zb)))=some (r1,r2,r3,r4):=by first|(rw [fl];with_reducible exact H)|(have Ld:=(Option.bind_some _ _).symm.trans H;rw [fl];with_reducible exact Ld)|(have Ld:=(Option.bind_some _ _).symm.trans H;with_reducible exact Ld)|with_reducible exact H|(rw [fl];exact H)|exact H
   have OA:=aa.mk fl;clear fl;have H':=aa.mk H;clear H;go_enter Try.func33,Try.ntmps33
   try go_wp2_with (first|((with_reducible refine Za (N:=1) rfl ?_);refine Ab ?hg (N:=1) ?hd (cs:=#[.slice yb Ua.length zb,.int .i64 Pa,.int .i64 Ra,.int .i64 Sa,.slice fc Fa.length Qb]) (t:=30) ?hr ?_;(case hd|hg=>rfl);(case hr=>exact gaK);intro ya hg w5 Fb hb;have Bb:=aa.mk (Ma jaK hb);have Db:=aa.mk (Fb);have Ib:=aa.mk ((by rw [hg];exact (Da jaK):w.heap.size ≤ ya));have Xb:=aa.mk ((by rw [hg];exact (Da jaK):w.heap.size ≤ ya));clear HB;have HB:=Bb;have ta:=Db;have Jd:=Ib;have Qa:=Xb;clear Bb Db Ib Xb hb Fb hg)|((with_reducible refine Za (N:=2) rfl ?_);refine Ab ?hg (N:=2) ?hd (cs:=#[.slice none 0 0,.int .i64 0,.int .i64 0,.slice none 0 0]) (t:=49) ?hr ?_;(case hd|hg=>rfl);(case hr=>exact gaK);intro Ta hg w6 Fb hb;have Bb:=aa.mk (Na (g:=ya) (o:=.cells #[.slice yb Ua.length zb,.int .i64 Pa,.int .i64 Ra,.int .i64 Sa,.slice fc Fa.length Qb] 30 (0,0)) kaK hb);have Db:=aa.mk (Ma iaK hb);have Ib:=aa.mk (Fb);have Xb:=aa.mk ((by rw [hg];exact (Da iaK):w.heap.size ≤ Ta));have De:=aa.mk ((by rw [hg];exact (Da iaK):w.heap.size ≤ Ta));have ef:=aa.mk ((by rw [hg];exact Nat.ne_of_lt (Tb (g:=ya) (o:=.cells #[.slice yb Ua.length zb,.int .i64 Pa,.int .i64 Ra,.int .i64 Sa,.slice fc Fa.length Qb] 30 (0,0)) kaK):ya ≠ Ta));have Cf:=aa.mk ((by rw [hg];exact Nat.ne_of_gt (Tb (g:=ya) (o:=.cells #[.slice yb Ua.length zb,.int .i64 Pa,.int .i64 Ra,.int .i64 Sa,.slice fc Fa.length Qb] 30 (0,0)) kaK):Ta ≠ ya));clear ta HB;have ta:=Bb;have HB:=Db;have Ea:=Ib;have bh:=Xb;have Lb:=De;have xb:=ef;have qb:=Cf;clear Bb Db Ib Xb De ef Cf hb Fb hg;have oag:=xb.out;have Yaf:=qb.out;have Pr:w6.cell? ⟨ya,0,none⟩=some (.slice yb Ua.length zb):=(ja ta.out 0).trans rfl;have Nr:w6.cell? ⟨ya,1,none⟩=some (.int .i64 Pa):=(ja ta.out 1).trans rfl;have Mr:w6.cell? ⟨ya,2,none⟩=some (.int .i64 Ra):=(ja ta.out 2).trans rfl;have Lr:w6.cell? ⟨ya,3,none⟩=some (.int .i64 Sa):=(ja ta.out 3).trans rfl;have Mt:w6.cell? ⟨ya,4,none⟩=some (.slice fc Fa.length Qb):=(ja ta.out 4).trans rfl;have Kr:=qa ta.out 0;have Jr:=qa ta.out 1;have Ir:=qa ta.out 2;have Hr:=qa ta.out 3;have Us:=qa ta.out 4)|((with_reducible refine Cb (f:=40) rfl ?_);refine Jc (some 9) rfl rfl Try.func40 (by kernel_rfl) rfl #[.agg #[.slice yb Ua.length zb,.int .i64 Pa,.int .i64 Ra,.int .i64 Sa,.slice fc Fa.length Qb]] rfl laK ?_;(with_reducible refine (Sb.calls k _ _ Ua Pa Ra Sa _ _ Fa true _ ?Ic ?Gc ?Ae ?ze A2.out).mono ?_);(case Ic=>repeat (first|exact (Kd.Kb lf.out HB.out)|(with_reducible refine Kd.Vb ?_ _)|(with_reducible refine Kd.Ub ?_ _)|(with_reducible refine Kd.tc ?_)));(case Gc=>exact Df.out);(case Ae=>repeat (first|exact (Kd.Kb Tg.out HB.out)|(with_reducible refine Kd.Vb ?_ _)|(with_reducible refine Kd.Ub ?_ _)|(with_reducible refine Kd.tc ?_)));(case ze=>exact Ej.out);rintro e w9 ⟨rfl,hb⟩;refine ⟨_,rfl,?_⟩;have Bb:=aa.mk (Na (g:=ya) (o:=.cells #[.slice yb Ua.length zb,.int .i64 Pa,.int .i64 Ra,.int .i64 Sa,.slice fc Fa.length Qb] 30 (0,0)) kaK hb);have Db:=aa.mk (Na (g:=Ta) (o:=.cells #[.slice none 0 0,.int .i64 0,.int .i64 0,.slice none 0 0] 49 (0,0)) qaK hb);have Ib:=aa.mk (Ma paK hb);clear ta Ea HB;have ta:=Bb;have Ea:=Db;have HB:=Ib;clear Bb Db Ib;(try clear hb);(try clear ek);(try clear hk);(try clear hi)))
   have Bb:=aa.mk (Ba ta.out);have Db:=aa.mk (Ba Ea.out);have Ib:=aa.mk (oa HB.out);clear ta Ea HB;have ta:=Bb;have Ea:=Db;have HB:=Ib;clear Bb Db Ib;refine Gh (n:=11) (S:=fun w'=>w'.cell? ⟨ya,0,none⟩=some (.slice yb Ua.length zb)∧w'.cell? ⟨ya,1,none⟩=some (.int .i64 Pa)∧w'.cell? ⟨ya,2,none⟩=some (.int .i64 Ra)∧w'.cell? ⟨ya,3,none⟩=some (.int .i64 Sa)∧w'.cell? ⟨ya,4,none⟩=some (.slice fc Fa.length Qb)) (ds:=[]) #[false,false,false,false,false,false,false,false,false,false,false] (by kernel_rfl) rfl rfl ⟨(ja ta.out 0).trans rfl,(ja ta.out 1).trans rfl,(ja ta.out 2).trans rfl,(ja ta.out 3).trans rfl,(ja ta.out 4).trans rfl⟩ (fun hHeld=>?_);refine Jg Pb.tax Pb.Jal (fun Vd dm=>?_);generalize w9.drew=Bo at ta Ea HB hHeld ⊢;refine ec (i:=1) (N:=some 13) (v:=?_) (a':=?_) #[false,true,false,false,false,false,false,false,false,false,false] rfl rfl (dc Vd.out (by kernel_rfl)) (fun _ _ _ h=>h) (Or.inl ⟨by rfl,?_⟩) ?_ ?_;rotate_left
   ·exact XaJ
   rotate_left
   ·exact WaJ
   refine ec (i:=4) (N:=some 16) (v:=?_) (a':=?_) #[false,true,false,false,true,false,false,false,false,false,false] rfl rfl (dc Vd.out (by kernel_rfl)) (fun _ _ _ h=>h) (Or.inl ⟨by rfl,?_⟩) ?_ ?_;rotate_left
   ·exact XaJ
   rotate_left
   ·exact WaJ
   refine ec (i:=6) (N:=some 18) (v:=?_) (a':=?_) #[false,true,false,false,true,false,true,false,false,false,false] rfl rfl (dc Vd.out (by kernel_rfl)) (fun _ _ _ h=>h) (Or.inl ⟨by rfl,?_⟩) ?_ ?_;rotate_left
   ·exact XaJ
   rotate_left
   ·exact WaJ
   refine Pe (i:=2) (N:=some 14) (v:=?_) (a':=?_) #[false,true,true,false,true,false,true,false,false,false,false] rfl rfl (Ad Vd.out dm.out (by kernel_rfl)) (fun _ _ _ h=>h) (Or.inl ⟨by rfl,?_⟩) hHeld ?_ ?_;rotate_left
   ·exact daK
   rotate_left
   ·exact WaJ
   refine Pe (i:=5) (N:=some 17) (v:=?_) (a':=?_) #[false,true,true,false,true,true,true,false,false,false,false] rfl rfl (Ad Vd.out dm.out (by kernel_rfl)) (fun _ _ _ h=>h) (Or.inl ⟨by rfl,?_⟩) hHeld ?_ ?_;rotate_left
   ·exact daK
   rotate_left
   ·exact WaJ
   refine Pe (i:=7) (N:=some 19) (v:=?_) (a':=?_) #[false,true,true,false,true,true,true,true,false,false,false] rfl rfl (Ad Vd.out dm.out (by kernel_rfl)) (fun _ _ _ h=>h) (Or.inl ⟨by rfl,?_⟩) hHeld ?_ ?_;rotate_left
   ·exact daK
   rotate_left
   ·exact WaJ
   refine dP (σ:=Value × Value × Nat) 1 #[true,true,true,true,true,true,true,true,true,true,false] (fun s_=>[(12,s_.1),(15,s_.2.1),(3,.pointer (some ⟨s_.2.2,0,none⟩)),(20,.agg #[s_.2.1,.int .i64 Pa,.int .i64 Sa,.slice none 0 0])]) (fun s_ w'=>(w'.cell? ⟨ya,0,none⟩=some (.slice yb Ua.length zb)∧w'.cell? ⟨ya,1,none⟩=some (.int .i64 Pa)∧w'.cell? ⟨ya,2,none⟩=some (.int .i64 Ra)∧w'.cell? ⟨ya,3,none⟩=some (.int .i64 Sa)∧w'.cell? ⟨ya,4,none⟩=some (.slice fc Fa.length Qb))∧(Kd.R (Kd.int .i64) 3 w' w.heap.size (fun _=>True) s_.2.1 zh)∧(w'.heap[ya]? = some (.cells #[.slice yb Ua.length zb,.int .i64 Pa,.int .i64 Ra,.int .i64 Sa,.slice fc Fa.length Qb] 30 (0,0)))∧(w'.heap[Ta]? = some (.cells #[.slice none 0 0,.int .i64 0,.int .i64 0,.slice none 0 0] 49 (0,0)))∧(w'.heap[s_.2.2]? = some (.cells #[.slice none 0 0,.int .i64 0,.int .i64 0,.slice none 0 0] 49 (0,0)))∧(w.heap.size ≤ s_.2.2)∧(w.heap.size ≤ s_.2.2)∧(ya ≠ s_.2.2)∧(s_.2.2 ≠ ya)∧(Ta ≠ s_.2.2)∧(s_.2.2 ≠ Ta)∧(Below w.heap.size w w')) ?_ ?_;rotate_left
   ·intro ur;refine fN (i:=0) (j:=9) (Ni:=some 12) (Nj:=some 3) #[true,true,true,false,true,true,true,true,false,false,false] #[false,true,true,false,true,true,true,true,false,true,false] rfl rfl rfl rfl (uH Vd.out (by kernel_rfl)) (by decide) (by decide) (fun K hK=>?_) (fun K hK=>?_)
    ·skip
     refine Kd.Cm (Kd.int .i64) _ 3 ?hg (N:=12) ?hd (xs:=([]:List Int)) (inner:=[]) (ok:=fun _=>True) (Sh:=fun _=>True) ?hr ?hp (fun _ hk=>hk) trivial (Below.refl _ _) (Nat.le_refl _) (by simp) ?_;(case hd|hg=>rfl);(case hr=>exact gaK);(case hp=>exact (Wc.none _ _));intro zC Zj WU hb bk xe;clear bk xe;(first|rw [← Rv.out] at WU|(simp only [Int.reduceToNat] at WU;rw [← Rv.out] at WU));have Bb:=aa.mk (Kd.td WU (Da paK));have Db:=aa.mk (Na (g:=ya) (o:=.cells #[.slice yb Ua.length zb,.int .i64 Pa,.int .i64 Ra,.int .i64 Sa,.slice fc Fa.length Qb] 30 (0,0)) kaK hb);have Ib:=aa.mk (Na (g:=Ta) (o:=.cells #[.slice none 0 0,.int .i64 0,.int .i64 0,.slice none 0 0] 49 (0,0)) qaK hb);have Xb:=aa.mk (Ma paK hb);clear ta Ea HB;have Vh:=Bb;have ta:=Db;have Ea:=Ib;have HB:=Xb;clear Bb Db Ib Xb hb WU;refine hK.out _ _ ⟨(ja ta.out 0).trans rfl,(ja ta.out 1).trans rfl,(ja ta.out 2).trans rfl,(ja ta.out 3).trans rfl,(ja ta.out 4).trans rfl⟩ (fun hHeld=>?_);clear hK K;refine Be (a':=?_) ?_ ?_;rotate_left
     ·show Act.put _ (some 12) _=_
      exact WaJ
     refine fN (i:=3) (j:=9) (Ni:=some 15) (Nj:=some 3) #[true,true,true,true,true,true,true,true,false,false,false] #[true,true,true,false,true,true,true,true,false,true,false] rfl rfl rfl rfl (uH Vd.out (by kernel_rfl)) (by decide) (by decide) (fun K hK=>?_) (fun K hK=>?_)
     ·skip
      refine Kd.Hf (Kd.int .i64) (w0:=w) w.heap.size (by rfl) (.tmp 12) (.tmp 14) 22 3 (.int .i64 0) 8 rfl Try.underlying22 info3 rfl (by decide) (by omega) zC Md Ua _ _ _ (fun _=>True) (fun _=>False) rfl rfl ?aO ?aR (fun _ _ h=>h) (fun _ h=>h.elim) ?aF ?aB ?aS ?aL ?_
      (case aR=>repeat (first|exact (Kd.Kb lf.out HB.out)|(with_reducible refine Kd.Vb ?_ _)|(with_reducible refine Kd.Ub ?_ _)|(with_reducible refine Kd.tc ?_)))
      (case aB=>exact paK)
      (case aF=>exact (fun _ _=>trivial))
      (case aO=>exact faL)
      (case aS=>exact (Da paK))
      (case aL=>have:=tad.out;omega)
      intro WR Ep ho hb hg hat;rw [← yM.out] at ho;have Bb:=aa.mk (Mc (g:=ya) (o:=.cells #[.slice yb Ua.length zb,.int .i64 Pa,.int .i64 Ra,.int .i64 Sa,.slice fc Fa.length Qb] 30 (0,0)) kaK hg (Kd.Yh Vh.out ta.out (by decide)));have Db:=aa.mk (Mc (g:=Ta) (o:=.cells #[.slice none 0 0,.int .i64 0,.int .i64 0,.slice none 0 0] 49 (0,0)) qaK hg (Kd.Yh Vh.out Ea.out (by decide)));have Ib:=aa.mk (hb);have Xb:=aa.mk (ho);clear ta Ea HB Vh;have ta:=Bb;have Ea:=Db;have HB:=Ib;have zl:=Xb;clear Bb Db Ib Xb ho hb hg hat;obtain ⟨paB,Saz,Rak⟩:=Kd.Lc zl.out;(first|subst Rak|(injection Rak with ey vG dy;have uG:=ey.symm;have sG:=dy.symm;clear ey vG dy;subst uG;subst sG));refine hK.out _ _ ⟨(ja ta.out 0).trans rfl,(ja ta.out 1).trans rfl,(ja ta.out 2).trans rfl,(ja ta.out 3).trans rfl,(ja ta.out 4).trans rfl⟩ (fun hHeld=>?_);clear hK K;refine Be (a':=?_) ?_ ?_;rotate_left
      ·show Act.put _ (some 15) _=_
       exact WaJ
      refine ec (i:=8) (N:=some 20) (v:=?_) (a':=?_) #[true,true,true,true,true,true,true,true,true,false,false] rfl rfl (dc Vd.out (by kernel_rfl)) (fun _ _ _ h=>h) (Or.inl ⟨by rfl,?_⟩) ?_ ?_;rotate_left
      ·exact XaJ
      rotate_left
      ·exact WaJ
      refine Gi (i:=9) (N:=some 3) #[true,true,true,true,true,true,true,true,true,true,false] rfl rfl (Wg Vd.out (by kernel_rfl)) (by decide) (fun K hK=>?_);refine uF ?hg (N:=3) ?hd (cs:=#[.slice none 0 0,.int .i64 0,.int .i64 0,.slice none 0 0]) (t:=49) ?hr ?_;(case hd|hg=>rfl);(case hr=>exact gaK);intro uc hg Ho Fb hb;have Bb:=aa.mk (Kd.Yb eaL hb);have Db:=aa.mk (Na (g:=ya) (o:=.cells #[.slice yb Ua.length zb,.int .i64 Pa,.int .i64 Ra,.int .i64 Sa,.slice fc Fa.length Qb] 30 (0,0)) kaK hb);have Ib:=aa.mk (Na (g:=Ta) (o:=.cells #[.slice none 0 0,.int .i64 0,.int .i64 0,.slice none 0 0] 49 (0,0)) qaK hb);have Xb:=aa.mk (Ma paK hb);have De:=aa.mk (Fb);have ef:=aa.mk ((by rw [hg];exact (Da paK):w.heap.size ≤ uc));have Cf:=aa.mk ((by rw [hg];exact (Da paK):w.heap.size ≤ uc));have Cu:=aa.mk ((by rw [hg];exact Nat.ne_of_lt (Tb (g:=ya) (o:=.cells #[.slice yb Ua.length zb,.int .i64 Pa,.int .i64 Ra,.int .i64 Sa,.slice fc Fa.length Qb] 30 (0,0)) kaK):ya ≠ uc));have OG:=aa.mk ((by rw [hg];exact Nat.ne_of_gt (Tb (g:=ya) (o:=.cells #[.slice yb Ua.length zb,.int .i64 Pa,.int .i64 Ra,.int .i64 Sa,.slice fc Fa.length Qb] 30 (0,0)) kaK):uc ≠ ya));have NG:=aa.mk ((by rw [hg];exact Nat.ne_of_lt (Tb (g:=Ta) (o:=.cells #[.slice none 0 0,.int .i64 0,.int .i64 0,.slice none 0 0] 49 (0,0)) qaK):Ta ≠ uc));have tL:=aa.mk ((by rw [hg];exact Nat.ne_of_gt (Tb (g:=Ta) (o:=.cells #[.slice none 0 0,.int .i64 0,.int .i64 0,.slice none 0 0] 49 (0,0)) qaK):uc ≠ Ta));clear zl ta Ea HB;have zl:=Bb;have ta:=Db;have Ea:=Ib;have HB:=Xb;have ic:=De;have sC:=ef;have Rg:=Cf;have Fc:=Cu;have Uf:=OG;have ig:=NG;have fh:=tL;clear Bb Db Ib Xb De ef Cf Cu OG NG tL hb Fb hg;refine hK.out _ _ ⟨(ja ta.out 0).trans rfl,(ja ta.out 1).trans rfl,(ja ta.out 2).trans rfl,(ja ta.out 3).trans rfl,(ja ta.out 4).trans rfl⟩ (fun hHeld=>?_);clear hK K;refine Be (a':=?_) ?_ ?_;rotate_left
      ·show Act.put _ (some 3) _=_
       exact WaJ
      exact Be JaK (ur (zC,.slice paB zh.length Saz,uc) _ ⟨hHeld,eaL,kaK,qaK,zaK,sC.out,Rg.out,Fc.out,Uf.out,ig.out,fh.out,uaK⟩)
     ·skip
      refine uF ?hg (N:=3) ?hd (cs:=#[.slice none 0 0,.int .i64 0,.int .i64 0,.slice none 0 0]) (t:=49) ?hr ?_;(case hd|hg=>rfl);(case hr=>exact gaK);intro uc hg Ep Fb hb;have Bb:=aa.mk (Kd.Yb faL hb);have Db:=aa.mk (Na (g:=ya) (o:=.cells #[.slice yb Ua.length zb,.int .i64 Pa,.int .i64 Ra,.int .i64 Sa,.slice fc Fa.length Qb] 30 (0,0)) kaK hb);have Ib:=aa.mk (Na (g:=Ta) (o:=.cells #[.slice none 0 0,.int .i64 0,.int .i64 0,.slice none 0 0] 49 (0,0)) qaK hb);have Xb:=aa.mk (Ma paK hb);have De:=aa.mk (Fb);have ef:=aa.mk ((by rw [hg];exact (Da paK):w.heap.size ≤ uc));have Cf:=aa.mk ((by rw [hg];exact (Da paK):w.heap.size ≤ uc));have Cu:=aa.mk ((by rw [hg];exact Nat.ne_of_lt (Tb (g:=ya) (o:=.cells #[.slice yb Ua.length zb,.int .i64 Pa,.int .i64 Ra,.int .i64 Sa,.slice fc Fa.length Qb] 30 (0,0)) kaK):ya ≠ uc));have OG:=aa.mk ((by rw [hg];exact Nat.ne_of_gt (Tb (g:=ya) (o:=.cells #[.slice yb Ua.length zb,.int .i64 Pa,.int .i64 Ra,.int .i64 Sa,.slice fc Fa.length Qb] 30 (0,0)) kaK):uc ≠ ya));have NG:=aa.mk ((by rw [hg];exact Nat.ne_of_lt (Tb (g:=Ta) (o:=.cells #[.slice none 0 0,.int .i64 0,.int .i64 0,.slice none 0 0] 49 (0,0)) qaK):Ta ≠ uc));have tL:=aa.mk ((by rw [hg];exact Nat.ne_of_gt (Tb (g:=Ta) (o:=.cells #[.slice none 0 0,.int .i64 0,.int .i64 0,.slice none 0 0] 49 (0,0)) qaK):uc ≠ Ta));clear Vh ta Ea HB;have Vh:=Bb;have ta:=Db;have Ea:=Ib;have HB:=Xb;have ic:=De;have sC:=ef;have Rg:=Cf;have Fc:=Cu;have Uf:=OG;have ig:=NG;have fh:=tL;clear Bb Db Ib Xb De ef Cf Cu OG NG tL hb Fb hg;refine hK.out _ _ ⟨(ja ta.out 0).trans rfl,(ja ta.out 1).trans rfl,(ja ta.out 2).trans rfl,(ja ta.out 3).trans rfl,(ja ta.out 4).trans rfl⟩ (fun hHeld=>?_);clear hK K;refine Be (a':=?_) ?_ ?_;rotate_left
      ·show Act.put _ (some 3) _=_
       exact WaJ
      refine Gi (i:=3) (N:=some 15) #[true,true,true,true,true,true,true,true,false,true,false] rfl rfl (Wg Vd.out (by kernel_rfl)) (by decide) (fun K hK=>?_);refine Kd.Hf (Kd.int .i64) (w0:=w) w.heap.size (by rfl) (.tmp 12) (.tmp 14) 22 3 (.int .i64 0) 8 rfl Try.underlying22 info3 rfl (by decide) (by omega) zC Md Ua _ _ _ (fun _=>True) (fun _=>False) rfl rfl ?aO ?aR (fun _ _ h=>h) (fun _ h=>h.elim) ?aF ?aB ?aS ?aL ?_
      (case aR=>repeat (first|exact (Kd.Kb lf.out HB.out)|(with_reducible refine Kd.Vb ?_ _)|(with_reducible refine Kd.Ub ?_ _)|(with_reducible refine Kd.tc ?_)))
      (case aB=>exact uaK)
      (case aF=>exact (fun _ _=>trivial))
      (case aO=>exact faL)
      (case aS=>exact (Da uaK))
      (case aL=>have:=tad.out;omega)
      intro WR Ol ho hb hg hat;rw [← yM.out] at ho;have Bb:=aa.mk (Mc (g:=ya) (o:=.cells #[.slice yb Ua.length zb,.int .i64 Pa,.int .i64 Ra,.int .i64 Sa,.slice fc Fa.length Qb] 30 (0,0)) kaK hg (Kd.Yh Vh.out ta.out (by decide)));have Db:=aa.mk (Mc (g:=Ta) (o:=.cells #[.slice none 0 0,.int .i64 0,.int .i64 0,.slice none 0 0] 49 (0,0)) qaK hg (Kd.Yh Vh.out Ea.out (by decide)));have Ib:=aa.mk (Mc (g:=uc) (o:=.cells #[.slice none 0 0,.int .i64 0,.int .i64 0,.slice none 0 0] 49 (0,0)) zaK hg (Kd.Yh Vh.out ic.out (by decide)));have Xb:=aa.mk (hb);have De:=aa.mk (ho);clear ta Ea ic HB Vh;have ta:=Bb;have Ea:=Db;have ic:=Ib;have HB:=Xb;have zl:=De;clear Bb Db Ib Xb De ho hb hg hat;obtain ⟨QO,eO,bO⟩:=Kd.Lc zl.out;(first|subst bO|(injection bO with ey vG dy;have uG:=ey.symm;have sG:=dy.symm;clear ey vG dy;subst uG;subst sG));refine hK.out _ _ ⟨(ja ta.out 0).trans rfl,(ja ta.out 1).trans rfl,(ja ta.out 2).trans rfl,(ja ta.out 3).trans rfl,(ja ta.out 4).trans rfl⟩ (fun hHeld=>?_);clear hK K;refine Be (a':=?_) ?_ ?_;rotate_left
      ·show Act.put _ (some 15) _=_
       exact WaJ
      refine ec (i:=8) (N:=some 20) (v:=?_) (a':=?_) #[true,true,true,true,true,true,true,true,true,true,false] rfl rfl (dc Vd.out (by kernel_rfl)) (fun _ _ _ h=>h) (Or.inl ⟨by rfl,?_⟩) ?_ ?_;rotate_left
      ·exact XaJ
      rotate_left
      ·exact WaJ
      exact Be JaK (ur (zC,.slice QO zh.length eO,uc) _ ⟨hHeld,eaL,kaK,qaK,zaK,sC.out,Rg.out,Fc.out,Uf.out,ig.out,fh.out,uaK⟩)
    ·skip
     refine uF ?hg (N:=3) ?hd (cs:=#[.slice none 0 0,.int .i64 0,.int .i64 0,.slice none 0 0]) (t:=49) ?hr ?_;(case hd|hg=>rfl);(case hr=>exact gaK);intro uc hg Zj Fb hb;have Bb:=aa.mk (Na (g:=ya) (o:=.cells #[.slice yb Ua.length zb,.int .i64 Pa,.int .i64 Ra,.int .i64 Sa,.slice fc Fa.length Qb] 30 (0,0)) kaK hb);have Db:=aa.mk (Na (g:=Ta) (o:=.cells #[.slice none 0 0,.int .i64 0,.int .i64 0,.slice none 0 0] 49 (0,0)) qaK hb);have Ib:=aa.mk (Ma paK hb);have Xb:=aa.mk (Fb);have De:=aa.mk ((by rw [hg];exact (Da paK):w.heap.size ≤ uc));have ef:=aa.mk ((by rw [hg];exact (Da paK):w.heap.size ≤ uc));have Cf:=aa.mk ((by rw [hg];exact Nat.ne_of_lt (Tb (g:=ya) (o:=.cells #[.slice yb Ua.length zb,.int .i64 Pa,.int .i64 Ra,.int .i64 Sa,.slice fc Fa.length Qb] 30 (0,0)) kaK):ya ≠ uc));have Cu:=aa.mk ((by rw [hg];exact Nat.ne_of_gt (Tb (g:=ya) (o:=.cells #[.slice yb Ua.length zb,.int .i64 Pa,.int .i64 Ra,.int .i64 Sa,.slice fc Fa.length Qb] 30 (0,0)) kaK):uc ≠ ya));have OG:=aa.mk ((by rw [hg];exact Nat.ne_of_lt (Tb (g:=Ta) (o:=.cells #[.slice none 0 0,.int .i64 0,.int .i64 0,.slice none 0 0] 49 (0,0)) qaK):Ta ≠ uc));have NG:=aa.mk ((by rw [hg];exact Nat.ne_of_gt (Tb (g:=Ta) (o:=.cells #[.slice none 0 0,.int .i64 0,.int .i64 0,.slice none 0 0] 49 (0,0)) qaK):uc ≠ Ta));clear ta Ea HB;have ta:=Bb;have Ea:=Db;have HB:=Ib;have ic:=Xb;have sC:=De;have Rg:=ef;have Fc:=Cf;have Uf:=Cu;have ig:=OG;have fh:=NG;clear Bb Db Ib Xb De ef Cf Cu OG NG hb Fb hg;refine hK.out _ _ ⟨(ja ta.out 0).trans rfl,(ja ta.out 1).trans rfl,(ja ta.out 2).trans rfl,(ja ta.out 3).trans rfl,(ja ta.out 4).trans rfl⟩ (fun hHeld=>?_);clear hK K;refine Be (a':=?_) ?_ ?_;rotate_left
     ·show Act.put _ (some 3) _=_
      exact WaJ
     refine Gi (i:=0) (N:=some 12) #[true,true,true,false,true,true,true,true,false,true,false] rfl rfl (Wg Vd.out (by kernel_rfl)) (by decide) (fun K hK=>?_);refine Kd.Cm (Kd.int .i64) _ 3 ?hg (N:=12) ?hd (xs:=([]:List Int)) (inner:=[]) (ok:=fun _=>True) (Sh:=fun _=>True) ?hr ?hp (fun _ hk=>hk) trivial (Below.refl _ _) (Nat.le_refl _) (by simp) ?_;(case hd|hg=>rfl);(case hr=>exact gaK);(case hp=>exact (Wc.none _ _));intro zC Ao VU hb bk xe;clear bk xe;(first|rw [← Rv.out] at VU|(simp only [Int.reduceToNat] at VU;rw [← Rv.out] at VU));have Bb:=aa.mk (Kd.td VU (Da uaK));have Db:=aa.mk (Na (g:=ya) (o:=.cells #[.slice yb Ua.length zb,.int .i64 Pa,.int .i64 Ra,.int .i64 Sa,.slice fc Fa.length Qb] 30 (0,0)) kaK hb);have Ib:=aa.mk (Na (g:=Ta) (o:=.cells #[.slice none 0 0,.int .i64 0,.int .i64 0,.slice none 0 0] 49 (0,0)) qaK hb);have Xb:=aa.mk (Na (g:=uc) (o:=.cells #[.slice none 0 0,.int .i64 0,.int .i64 0,.slice none 0 0] 49 (0,0)) zaK hb);have De:=aa.mk (Ma uaK hb);clear ta Ea ic HB;have Vh:=Bb;have ta:=Db;have Ea:=Ib;have ic:=Xb;have HB:=De;clear Bb Db Ib Xb De hb VU;refine hK.out _ _ ⟨(ja ta.out 0).trans rfl,(ja ta.out 1).trans rfl,(ja ta.out 2).trans rfl,(ja ta.out 3).trans rfl,(ja ta.out 4).trans rfl⟩ (fun hHeld=>?_);clear hK K;refine Be (a':=?_) ?_ ?_;rotate_left
     ·show Act.put _ (some 12) _=_
      exact WaJ
     refine Gi (i:=3) (N:=some 15) #[true,true,true,true,true,true,true,true,false,true,false] rfl rfl (Wg Vd.out (by kernel_rfl)) (by decide) (fun K hK=>?_);refine Kd.Hf (Kd.int .i64) (w0:=w) w.heap.size (by rfl) (.tmp 12) (.tmp 14) 22 3 (.int .i64 0) 8 rfl Try.underlying22 info3 rfl (by decide) (by omega) zC Md Ua _ _ _ (fun _=>True) (fun _=>False) rfl rfl ?aO ?aR (fun _ _ h=>h) (fun _ h=>h.elim) ?aF ?aB ?aS ?aL ?_
     (case aR=>repeat (first|exact (Kd.Kb lf.out HB.out)|(with_reducible refine Kd.Vb ?_ _)|(with_reducible refine Kd.Ub ?_ _)|(with_reducible refine Kd.tc ?_)))
     (case aB=>exact uaK)
     (case aF=>exact (fun _ _=>trivial))
     (case aO=>exact faL)
     (case aS=>exact (Da uaK))
     (case aL=>have:=tad.out;omega)
     intro WR Ol ho hb hg hat;rw [← yM.out] at ho;have Bb:=aa.mk (Mc (g:=ya) (o:=.cells #[.slice yb Ua.length zb,.int .i64 Pa,.int .i64 Ra,.int .i64 Sa,.slice fc Fa.length Qb] 30 (0,0)) kaK hg (Kd.Yh Vh.out ta.out (by decide)));have Db:=aa.mk (Mc (g:=Ta) (o:=.cells #[.slice none 0 0,.int .i64 0,.int .i64 0,.slice none 0 0] 49 (0,0)) qaK hg (Kd.Yh Vh.out Ea.out (by decide)));have Ib:=aa.mk (Mc (g:=uc) (o:=.cells #[.slice none 0 0,.int .i64 0,.int .i64 0,.slice none 0 0] 49 (0,0)) zaK hg (Kd.Yh Vh.out ic.out (by decide)));have Xb:=aa.mk (hb);have De:=aa.mk (ho);clear ta Ea ic HB Vh;have ta:=Bb;have Ea:=Db;have ic:=Ib;have HB:=Xb;have zl:=De;clear Bb Db Ib Xb De ho hb hg hat;obtain ⟨QO,eO,bO⟩:=Kd.Lc zl.out;(first|subst bO|(injection bO with ey vG dy;have uG:=ey.symm;have sG:=dy.symm;clear ey vG dy;subst uG;subst sG));refine hK.out _ _ ⟨(ja ta.out 0).trans rfl,(ja ta.out 1).trans rfl,(ja ta.out 2).trans rfl,(ja ta.out 3).trans rfl,(ja ta.out 4).trans rfl⟩ (fun hHeld=>?_);clear hK K;refine Be (a':=?_) ?_ ?_;rotate_left
     ·show Act.put _ (some 15) _=_
      exact WaJ
     refine ec (i:=8) (N:=some 20) (v:=?_) (a':=?_) #[true,true,true,true,true,true,true,true,true,true,false] rfl rfl (dc Vd.out (by kernel_rfl)) (fun _ _ _ h=>h) (Or.inl ⟨by rfl,?_⟩) ?_ ?_;rotate_left
     ·exact XaJ
     rotate_left
     ·exact WaJ
     exact Be JaK (ur (zC,.slice QO zh.length eO,uc) _ ⟨hHeld,eaL,kaK,qaK,zaK,sC.out,Rg.out,Fc.out,Uf.out,ig.out,fh.out,uaK⟩)
   rintro ⟨zC,WR,uc⟩ um ⟨hS_,o9,n9,m9,l9,h4_,h5_,h6_,h7_,h8_,h9_,zak⟩;have Bb:aa (Kd.R (Kd.int .i64) 3 um w.heap.size (fun _=>True) WR zh):=⟨o9⟩;have Db:aa (um.heap[ya]? = some (.cells #[.slice yb Ua.length zb,.int .i64 Pa,.int .i64 Ra,.int .i64 Sa,.slice fc Fa.length Qb] 30 (0,0))):=⟨n9⟩;have Ib:aa (um.heap[Ta]? = some (.cells #[.slice none 0 0,.int .i64 0,.int .i64 0,.slice none 0 0] 49 (0,0))):=⟨m9⟩;have Xb:aa (um.heap[uc]? = some (.cells #[.slice none 0 0,.int .i64 0,.int .i64 0,.slice none 0 0] 49 (0,0))):=⟨l9⟩;have De:aa (w.heap.size ≤ uc):=⟨h4_⟩;have ef:aa (w.heap.size ≤ uc):=⟨h5_⟩;have Cf:aa (ya ≠ uc):=⟨h6_⟩;have Cu:aa (uc ≠ ya):=⟨h7_⟩;have OG:aa (Ta ≠ uc):=⟨h8_⟩;have NG:aa (uc ≠ Ta):=⟨h9_⟩;have tL:aa (Below w.heap.size w um):=⟨zak⟩;clear ta Ea HB o9 n9 m9 l9 h4_ h5_ h6_ h7_ h8_ h9_ zak;have zl:=Bb;have ta:=Db;have Ea:=Ib;have ic:=Xb;have sC:=De;have Rg:=ef;have Fc:=Cf;have Uf:=Cu;have ig:=OG;have fh:=NG;have HB:=tL;clear Bb Db Ib Xb De ef Cf Cu OG NG tL;have hHeld:um.cell? ⟨ya,0,none⟩=some (.slice yb Ua.length zb)∧um.cell? ⟨ya,1,none⟩=some (.int .i64 Pa)∧um.cell? ⟨ya,2,none⟩=some (.int .i64 Ra)∧um.cell? ⟨ya,3,none⟩=some (.int .i64 Sa)∧um.cell? ⟨ya,4,none⟩=some (.slice fc Fa.length Qb):=hS_;obtain ⟨Wk,Uk,D5⟩:=Kd.Lc zl.out;(first|subst D5|(injection D5 with ey vG dy;have uG:=ey.symm;have sG:=dy.symm;clear ey vG dy;subst uG;subst sG));refine Be (a':=?_) ?_ ?_;rotate_left
   ·simp only [qk,Act.put,List.setIfInBounds_toArray,List.set_cons_zero,List.set_cons_succ]
    rfl
   refine Gi (i:=10) (N:=none) #[true,true,true,true,true,true,true,true,true,true,true] rfl rfl (Wg Vd.out (by kernel_rfl)) (by decide) (fun K hK=>?_);have saG:um.cell? ⟨uc,0,none⟩=some (.slice none 0 0):=(ja ic.out 0).trans rfl;have KaD:=qa ic.out 0;have kao:=Fc.out;have jao:=ig.out;have wao:=Uf.out;have vao:=fh.out;have raG:um.cell? ⟨uc,1,none⟩=some (.int .i64 0):=(ja ic.out 1).trans rfl;have JaD:=qa ic.out 1;have iao:=Fc.out;have gao:=ig.out;have uao:=Uf.out;have tao:=fh.out;have paG:um.cell? ⟨uc,2,none⟩=some (.int .i64 0):=(ja ic.out 2).trans rfl;have IaD:=qa ic.out 2;have fao:=Fc.out;have eao:=ig.out;have sao:=Uf.out;have rao:=fh.out;have oaG:um.cell? ⟨uc,3,none⟩=some (.slice none 0 0):=(ja ic.out 3).trans rfl;have HaD:=qa ic.out 3;have dao:=Fc.out;have cao:=ig.out;have qao:=Uf.out;have pao:=fh.out;refine DE (w1:=?_) (by rfl) rfl ?_ ?_;rotate_left
   ·go_simp
    rfl
   refine hK.out _ _ ⟨((cell_far (p:=⟨uc,_,none⟩) Fc.out _).trans (((cell_far (p:=⟨uc,_,none⟩) Fc.out _).trans (((cell_far (p:=⟨uc,_,none⟩) Fc.out _).trans (((cell_far (p:=⟨uc,_,none⟩) Fc.out _).trans (hHeld.1)))))))),((cell_far (p:=⟨uc,_,none⟩) Fc.out _).trans (((cell_far (p:=⟨uc,_,none⟩) Fc.out _).trans (((cell_far (p:=⟨uc,_,none⟩) Fc.out _).trans (((cell_far (p:=⟨uc,_,none⟩) Fc.out _).trans (hHeld.2.1)))))))),((cell_far (p:=⟨uc,_,none⟩) Fc.out _).trans (((cell_far (p:=⟨uc,_,none⟩) Fc.out _).trans (((cell_far (p:=⟨uc,_,none⟩) Fc.out _).trans (((cell_far (p:=⟨uc,_,none⟩) Fc.out _).trans (hHeld.2.2.1)))))))),((cell_far (p:=⟨uc,_,none⟩) Fc.out _).trans (((cell_far (p:=⟨uc,_,none⟩) Fc.out _).trans (((cell_far (p:=⟨uc,_,none⟩) Fc.out _).trans (((cell_far (p:=⟨uc,_,none⟩) Fc.out _).trans (hHeld.2.2.2.1)))))))),((cell_far (p:=⟨uc,_,none⟩) Fc.out _).trans (((cell_far (p:=⟨uc,_,none⟩) Fc.out _).trans (((cell_far (p:=⟨uc,_,none⟩) Fc.out _).trans (((cell_far (p:=⟨uc,_,none⟩) Fc.out _).trans (hHeld.2.2.2.2))))))))⟩ (fun hHeld=>?_);clear hK K;refine fk (si Vd.out (by kernel_rfl)) ?_
   try go_wp2_with (first|((with_reducible refine Za (N:=21) rfl ?_);refine Kd.Ei (Kd.int .i64) _ 3 ?hg (N:=21) ?hd (xs:=([]:List Int)) (inner:=[]) (ok:=fun _=>True) (Sh:=fun _=>True) ?hr ?hp (fun _ hk=>hk) trivial (Below.refl _ _) (Nat.le_refl _) (by simp) ?_;(case hd|hg=>rfl);(case hr=>exact gaK);(case hp=>exact (Wc.none _ _));intro IY IC LS hb bk xe;clear bk xe;(first|rw [← OA.out] at LS|(simp only [Int.reduceToNat] at LS;rw [← OA.out] at LS));have Bb:=aa.mk (Kd.aj YaK (Kd.en LS) hb);have Db:=aa.mk (Kd.td (Kd.Jn LS (Kd.Ap YaK)) (Da uaK));have Ib:=aa.mk (Na (g:=ya) (o:=.cells #[.slice yb Ua.length zb,.int .i64 Pa,.int .i64 Ra,.int .i64 Sa,.slice fc Fa.length Qb] 30 (0,0)) (by (with_reducible repeat (first|refine za ?_ _|refine Ba ?_|refine Aa ?_ _));refine Qd ?_ Fc.out _;(with_reducible repeat (first|refine za ?_ _|refine Ba ?_|refine Aa ?_ _));refine Qd ?_ Fc.out _;(with_reducible repeat (first|refine za ?_ _|refine Ba ?_|refine Aa ?_ _));refine Qd ?_ Fc.out _;(with_reducible repeat (first|refine za ?_ _|refine Ba ?_|refine Aa ?_ _));refine Qd ?_ Fc.out _;(with_reducible repeat (first|refine za ?_ _|refine Ba ?_|refine Aa ?_ _));exact ta.out) hb);have Xb:=aa.mk (Na (g:=Ta) (o:=.cells #[.slice none 0 0,.int .i64 0,.int .i64 0,.slice none 0 0] 49 (0,0)) (by (with_reducible repeat (first|refine za ?_ _|refine Ba ?_|refine Aa ?_ _));refine Qd ?_ ig.out _;(with_reducible repeat (first|refine za ?_ _|refine Ba ?_|refine Aa ?_ _));refine Qd ?_ ig.out _;(with_reducible repeat (first|refine za ?_ _|refine Ba ?_|refine Aa ?_ _));refine Qd ?_ ig.out _;(with_reducible repeat (first|refine za ?_ _|refine Ba ?_|refine Aa ?_ _));refine Qd ?_ ig.out _;(with_reducible repeat (first|refine za ?_ _|refine Ba ?_|refine Aa ?_ _));exact Ea.out) hb);have De:=aa.mk (Na (g:=uc) (o:=.cells #[.slice Wk zh.length Uk,.int .i64 Pa,.int .i64 Sa,.slice none 0 0] 49 (0,0)) (by (with_reducible repeat (first|refine za ?_ _|refine Ba ?_|refine Aa ?_ _));refine zd (cs:=#[.slice Wk zh.length Uk,.int .i64 Pa,.int .i64 Sa,.slice none 0 0]) ?_ 3 _ rfl;(with_reducible repeat (first|refine za ?_ _|refine Ba ?_|refine Aa ?_ _));refine zd (cs:=#[.slice Wk zh.length Uk,.int .i64 Pa,.int .i64 0,.slice none 0 0]) ?_ 2 _ rfl;(with_reducible repeat (first|refine za ?_ _|refine Ba ?_|refine Aa ?_ _));refine zd (cs:=#[.slice Wk zh.length Uk,.int .i64 0,.int .i64 0,.slice none 0 0]) ?_ 1 _ rfl;(with_reducible repeat (first|refine za ?_ _|refine Ba ?_|refine Aa ?_ _));refine zd (cs:=#[.slice none 0 0,.int .i64 0,.int .i64 0,.slice none 0 0]) ?_ 0 _ rfl;(with_reducible repeat (first|refine za ?_ _|refine Ba ?_|refine Aa ?_ _));exact ic.out) hb);have ef:=aa.mk (Ma uaK hb);clear zl ta Ea ic HB;have zl:=Bb;have TA:=Db;have ta:=Ib;have Ea:=Xb;have ic:=De;have HB:=ef;clear Bb Db Ib Xb De ef hb LS))
   go_loopg [4,5] k (fun kq v4 v5 w'=>∃ (Vc:List Int) (Ca:Int) (uj:List (Zb)) (Ug:Value),v5 = .int .i64 Ca∧aa (Pb.l0 kq Vc Ca Ua Pa Ra Sa Fa zh Pa Sa uj=some (r1,r2,r3,r4))∧aa (kq ≤ k)∧aa (Kd.R (Kd.int .i64) 3 w' w.heap.size (fun k_=>some k_ ≠ ((.slice Wk zh.length Uk):Value).ownBlock) v4 Vc)∧aa (Kd.R (Kd.int .i64) 3 w' w.heap.size (fun k_=>some k_ ≠ (v4:Value).ownBlock) (.slice Wk zh.length Uk) zh)∧aa (Kd.R Yg 79 w' w.heap.size (fun _=>True) Ug uj)∧aa (w'.heap[ya]? = some (.cells #[(.slice yb Ua.length zb),.int .i64 Pa,.int .i64 Ra,.int .i64 Sa,(.slice fc Fa.length Qb)] 30 (0,0)))∧aa (w'.heap[Ta]? = some (.cells #[(.slice none 0 0),.int .i64 0,.int .i64 0,(.slice none 0 0)] 49 (0,0)))∧aa (w'.heap[uc]? = some (.cells #[(.slice Wk zh.length Uk),.int .i64 Pa,.int .i64 Sa,Ug] 49 (0,0)))∧aa (Below w.heap.size w w'))
   case atStart=>exact ⟨(Mm),(0),(([]:List (Zb))),(.slice none 0 0),saK,H',⟨Nat.le_refl _⟩,⟨by (with_reducible repeat (first|apply Kd.Xa|apply Kd.Ya|apply Kd.gb));exact Kd.yc TA.out (fun _ hk=>hk.2)⟩,⟨by (with_reducible repeat (first|apply Kd.Xa|apply Kd.Ya|apply Kd.gb));exact Kd.yc zl.out (fun _ hk=>hk.2)⟩,⟨UaK⟩,⟨taK⟩,⟨xaK⟩,⟨daL⟩,⟨IaK⟩⟩
   case round =>
    clear H'
    try clear p2
    try clear c3
    try clear c4
    try clear c7
    try clear Pr
    try clear Nr
    try clear Mr
    try clear Lr
    try clear Mt
    try clear Kr
    try clear Jr
    try clear Ir
    try clear Hr
    try clear Us
    (try clear HA);(try clear Vg);(try clear ai);(try clear Xc);(try clear jc);(try clear ta);(try clear Ea);(try clear ic);(try clear HB);obtain ⟨Vc,Ca,uj,Ug,rfl,HA,Vg,ai,Xc,jc,ta,Ea,ic,HB⟩:=hrel;cases gk with
    | zero=>exact absurd HA.out (by simp [Pb.l0])
    | succ k1 =>
     have H:=HA.out;clear HA;simp only [Pb.l0] at H
     by_cases VM:Ca < (Fa.length:Int)
     ·rw [if_pos VM] at H;have TV:decide (Ca < (Fa.length:Int))=true:=decide_eq_true VM;clear VM
      by_cases lR:Vc.length < 17592186044416
      ·rw [if_pos lR] at H;have mam:=aa.mk lR;clear lR;obtain ⟨Bn,jo⟩:∃ y_:List Int,y_=(Vc ++ [(uj.length:Int)]):=⟨_,rfl⟩;replace H:(Pb.l1 k1 Bn Ca 0 Ua Pa Ra Sa Fa zh Pa Sa uj)=some (r1,r2,r3,r4):=by first|(rw [jo];with_reducible exact H)|(have Ld:=(Option.bind_some _ _).symm.trans H;rw [jo];with_reducible exact Ld)|(have Ld:=(Option.bind_some _ _).symm.trans H;with_reducible exact Ld)|with_reducible exact H|(rw [jo];exact H)|exact H
       have nC:=aa.mk jo;clear jo;have H':=aa.mk H;clear H;have b8:=xb.out;have O7:=qb.out;have Y7:=Fc.out;have N7:=Uf.out;obtain ⟨fE,eE,cE,bE,GJ,uD,tD,sD,rD,WI⟩:=ri ta.out;have xag:=fh.out;have gag:=ig.out;obtain ⟨ZD,YD,XD,WD,oD,nD,mD,lD⟩:=bT ic.out;obtain ⟨U6,I5,C5⟩:=Kd.Lc jc.out;subst C5;go_wp2_with (first|((with_reducible refine Qe (b:=.append) (xs:=#[.tmp 29,.tmp 33]) rfl ?_);at_builtin;refine Kd.Ph (Kd.int .i64) (w0:=w) w.heap.size rfl (.tmp 29) (.tmp 33) 22 3 (.int .i64 0) 8 rfl Try.underlying22 info3 rfl (by decide) (by omega) u4 Vc (uj.length:Int) [.int .i64 (uj.length:Int)] (fun k_=>some k_ ≠ (.slice Wk zh.length Uk:Value).ownBlock) (fun _=>False) rfl rfl ?aP (fun _ hk=>hk.elim) ?aF ?aO ?aB ?aS ?aL ?_;(case aP=>exact rfl);(case aB=>exact uaK);(case aF=>exact (fun k_ hk=>Kd.fresh' (Kd.Ap VaK) k_ hk));(case aO=>exact SaK);(case aS=>exact (Da uaK));(case aL=>have:=mam.out;omega);intro iG WO ho hb hg hat;rw [← nC.out] at ho;have Bb:=aa.mk (Kd.Yn (ok:=(fun _=>True)) (by (with_reducible repeat (first|apply Kd.Xa|apply Kd.Ya|apply Kd.gb));exact Kd.yc Xc.out (fun _ hk=>⟨trivial,hk⟩)) hg hat);have Db:=aa.mk (Kd.Lx KaK (Kd.zp SaK) (by decide) hg);have Ib:=aa.mk (Mc (g:=ya) (o:=.cells #[.slice yb Ua.length zb,.int .i64 Pa,.int .i64 Ra,.int .i64 Sa,.slice fc Fa.length Qb] 30 (0,0)) kaK hg (Kd.Yh ai.out ta.out (by decide)));have Xb:=aa.mk (Mc (g:=Ta) (o:=.cells #[.slice none 0 0,.int .i64 0,.int .i64 0,.slice none 0 0] 49 (0,0)) qaK hg (Kd.Yh ai.out Ea.out (by decide)));have De:=aa.mk (Mc (g:=uc) (o:=.cells #[.slice Wk zh.length Uk,.int .i64 Pa,.int .i64 Sa,.slice U6 uj.length I5] 49 (0,0)) zaK hg (Kd.Yh ai.out ic.out (by decide)));have ef:=aa.mk (hb);have Cf:=aa.mk (ho);clear Xc jc ta Ea ic HB ai;have Xc:=Bb;have jc:=Db;have ta:=Ib;have Ea:=Xb;have ic:=De;have HB:=ef;have yo:=Cf;clear Bb Db Ib Xb De ef Cf ho hb hg hat))
       go_loopg [6] k1 (fun kq v6 w'=>∃ (ei:Int) (Mb:List (Zb)) (Ug:Value),v6 = .int .i64 ei∧aa (Pb.l1 kq Bn Ca ei Ua Pa Ra Sa Fa zh Pa Sa Mb=some (r1,r2,r3,r4))∧aa (kq ≤ k1)∧aa (Kd.R (Kd.int .i64) 3 w' w.heap.size (fun k_=>some k_ ≠ ((.slice Wk zh.length Uk):Value).ownBlock) iG Bn)∧aa (Kd.R (Kd.int .i64) 3 w' w.heap.size (fun k_=>some k_ ≠ (iG:Value).ownBlock) (.slice Wk zh.length Uk) zh)∧aa (Kd.R Yg 79 w' w.heap.size (fun _=>True) Ug Mb)∧aa (w'.heap[ya]? = some (.cells #[(.slice yb Ua.length zb),.int .i64 Pa,.int .i64 Ra,.int .i64 Sa,(.slice fc Fa.length Qb)] 30 (0,0)))∧aa (w'.heap[Ta]? = some (.cells #[(.slice none 0 0),.int .i64 0,.int .i64 0,(.slice none 0 0)] 49 (0,0)))∧aa (w'.heap[uc]? = some (.cells #[(.slice Wk zh.length Uk),.int .i64 Pa,.int .i64 Sa,Ug] 49 (0,0)))∧aa (Below w.heap.size w w'))
       case atStart=>exact ⟨(0),(uj),(.slice U6 uj.length I5),saK,H',⟨Nat.le_refl _⟩,⟨by (with_reducible repeat (first|apply Kd.Xa|apply Kd.Ya|apply Kd.gb));exact yo.out⟩,⟨by (with_reducible repeat (first|apply Kd.Xa|apply Kd.Ya|apply Kd.gb));exact Kd.yc Xc.out (fun _ hk=>hk.2)⟩,⟨by (with_reducible repeat (first|apply Kd.Xa|apply Kd.Ya|apply Kd.gb));exact jc.out⟩,⟨taK⟩,⟨xaK⟩,⟨daL⟩,⟨IaK⟩⟩
       case round =>
        clear H'
        try clear c2
        try clear p2
        try clear c3
        try clear c4
        try clear c7
        try clear VM
        try clear TV
        try clear lR
        try clear c26
        try clear c27
        try clear kR
        try clear fE
        try clear eE
        try clear cE
        try clear bE
        try clear GJ
        try clear ZD
        try clear YD
        try clear XD
        try clear WD
        try clear Pr
        try clear Nr
        try clear Mr
        try clear Lr
        try clear Mt
        try clear uD
        try clear tD
        try clear sD
        try clear rD
        try clear WI
        try clear oD
        try clear nD
        try clear mD
        try clear lD
        try clear Kr
        try clear Jr
        try clear Ir
        try clear Hr
        try clear Us
        try clear p2
        (try clear HA);(try clear KF);(try clear ai);(try clear Xc);(try clear jc);(try clear ta);(try clear Ea);(try clear ic);(try clear HB);obtain ⟨ei,Mb,Ug,rfl,HA,KF,ai,Xc,jc,ta,Ea,ic,HB⟩:=hrel;cases gk with
        | zero=>exact absurd HA.out (by simp [Pb.l1])
        | succ k2 =>
         have H:=HA.out;clear HA;simp only [Pb.l1] at H
         by_cases fK:0 ≤ Ca
         ·rw [if_pos fK] at H;have E9:decide (0 ≤ Ca)=true:=decide_eq_true fK;clear fK
          by_cases iO:Ca < (Fa.length:Int)
          ·rw [if_pos iO] at H;have raE:decide (Ca < (Fa.length:Int))=true:=decide_eq_true iO;clear iO
           by_cases SM:ei < (((Ia Fa Ca).f0).length:Int)
           ·rw [if_pos SM] at H;have iM:decide (ei < (((Ia Fa Ca).f0).length:Int))=true:=decide_eq_true SM;clear SM
            by_cases iR:0 ≤ ei
            ·rw [if_pos iR] at H;have SV:decide (0 ≤ ei)=true:=decide_eq_true iR;clear iR;replace H:=Option.bind_eq_some_iff.mp H;obtain ⟨t120,Jan,H⟩:=H
             try dsimp only at H
             have A37:=aa.mk Jan;clear Jan
             by_cases TK:Mb.length + t120.length < 3518437208883
             ·rw [if_pos TK] at H;have qW:=aa.mk TK;clear TK;obtain ⟨WK,Yu⟩:∃ y_:List (Zb),y_=(Mb ++ t120):=⟨_,rfl⟩;replace H:(Pb.l1 k2 Bn Ca (wrap64 (ei + 1)) Ua Pa Ra Sa Fa zh Pa Sa WK)=some (r1,r2,r3,r4):=by first|(rw [Yu];with_reducible exact H)|(have Ld:=(Option.bind_some _ _).symm.trans H;rw [Yu];with_reducible exact Ld)|(have Ld:=(Option.bind_some _ _).symm.trans H;with_reducible exact Ld)|with_reducible exact H|(rw [Yu];exact H)|exact H
              have oW:=aa.mk Yu;clear Yu;have H':=aa.mk H;clear H;have W7:=xb.out;have L7:=qb.out;have maD:=Fc.out;have DaC:=Uf.out;obtain ⟨vQ,uQ,tQ,sQ,qJ,II,GI,FI,EI,DI⟩:=ri ta.out;have sL:0 ≤ (Ca:Int):=Va;have oL:Ca < (Fa.length:Int):=Va;obtain ⟨Cj,oae,Jac,oac,nw,mw,jw,iw,gw,Yz,bA⟩:=Bj Tg.out Ca sL oL;cases oac;replace nw:=Ja HB.out nw;replace mw:=Ja HB.out mw;replace jw:=Ja HB.out jw;replace iw:=Ja HB.out iw;replace gw:=Ja HB.out gw;have l6:=aa.mk bA;have M6:=aa.mk Yz;clear bA Yz;replace sL:=eq_true sL;replace oL:=eq_true oL
              try go_wp2
              have Bb:=aa.mk (Kd.gb ai.out);have Db:=aa.mk (Kd.gb Xc.out);have Ib:=aa.mk (Kd.gb jc.out);have Xb:=aa.mk (Ba ta.out);have De:=aa.mk (Ba Ea.out);have ef:=aa.mk (Ba ic.out);have Cf:=aa.mk (oa HB.out);clear ai Xc jc ta Ea ic HB;have ai:=Bb;have Xc:=Db;have jc:=Ib;have ta:=Xb;have Ea:=De;have ic:=ef;have HB:=Cf;clear Bb Db Ib Xb De ef Cf;have bZ:0 ≤ (Ca:Int):=Va;have WY:Ca < (Fa.length:Int):=Va;obtain ⟨Oal,raB,Gac,Laz,Hz,Gz,Fz,Ez,Dz,qP,tP⟩:=Bj Tg.out Ca bZ WY;have pI:=Dz;have qI:=Ez;have rI:=Fz;have sI:=Gz;have tI:=Hz;obtain rfl:Cj=Oal:=(by injection Laz);replace Hz:=Ja HB.out Hz;replace Gz:=Ja HB.out Gz;replace Fz:=Ja HB.out Fz;replace Ez:=Ja HB.out Ez;replace Dz:=Ja HB.out Dz;have MR:=aa.mk tP;have Aaw:=aa.mk qP;clear tP qP;replace bZ:=eq_true bZ;replace WY:=eq_true WY;have aZ:0 ≤ (ei:Int):=Va;have VY:ei < (((Ia Fa Ca).f0).length:Int):=Va;obtain ⟨Ar,Kaz,Cz,Bz,zz,yz,xz,wz,vz⟩:=Mp MR.out ei aZ VY;have iI:=vz;have jI:=wz;have kI:=xz;have lI:=yz;have mI:=zz;have nI:=Bz;have oI:=Cz;cases Kaz;replace Cz:=Ja HB.out Cz;replace Bz:=Ja HB.out Bz;replace zz:=Ja HB.out zz;replace yz:=Ja HB.out yz;replace xz:=Ja HB.out xz;replace wz:=Ja HB.out wz;replace vz:=Ja HB.out vz;replace aZ:=eq_true aZ;replace VY:=eq_true VY;refine Gh (n:=15) (S:=fun w'=>w'.cell? ⟨uc,0,none⟩=some (.slice Wk zh.length Uk)∧w'.cell? ⟨uc,1,none⟩=some (.int .i64 Pa)∧w'.cell? ⟨uc,2,none⟩=some (.int .i64 Sa)∧w'.cell? ⟨uc,3,none⟩=some (Ug)∧w'.cell? ⟨ya,0,none⟩=some (.slice yb Ua.length zb)∧w'.cell? ⟨ya,1,none⟩=some (.int .i64 Pa)∧w'.cell? ⟨ya,2,none⟩=some (.int .i64 Ra)∧w'.cell? ⟨ya,3,none⟩=some (.int .i64 Sa)∧w'.cell? ⟨ya,4,none⟩=some (.slice (some Cj) Fa.length Qb)∧w'.cell? (Cj.add ((Ca).toNat * 5))=some (.slice (some Ar) ((Ia Fa Ca).f0).length Gac)∧w'.cell? ⟨(Cj.add ((Ca).toNat * 5)).block,(Cj.add ((Ca).toNat * 5)).off + 1,none⟩=some (.int .i64 ((Ia Fa Ca).f1))∧w'.cell? ⟨(Cj.add ((Ca).toNat * 5)).block,(Cj.add ((Ca).toNat * 5)).off + 2,none⟩=some (.int .i64 ((Ia Fa Ca).f2))∧w'.cell? ⟨(Cj.add ((Ca).toNat * 5)).block,(Cj.add ((Ca).toNat * 5)).off + 3,none⟩=some (.int .i64 ((Ia Fa Ca).f3))∧w'.cell? ⟨(Cj.add ((Ca).toNat * 5)).block,(Cj.add ((Ca).toNat * 5)).off + 4,none⟩=some (.int .i64 ((Ia Fa Ca).f4))∧w'.cell? (Ar.add ((ei).toNat * 7))=some (.int .i64 ((Ga ((Ia Fa Ca).f0) ei).f0))∧w'.cell? ⟨(Ar.add ((ei).toNat * 7)).block,(Ar.add ((ei).toNat * 7)).off + 1,none⟩=some (.int .i64 ((Ga ((Ia Fa Ca).f0) ei).f1))∧w'.cell? ⟨(Ar.add ((ei).toNat * 7)).block,(Ar.add ((ei).toNat * 7)).off + 2,none⟩=some (.int .i64 ((Ga ((Ia Fa Ca).f0) ei).f2))∧w'.cell? ⟨(Ar.add ((ei).toNat * 7)).block,(Ar.add ((ei).toNat * 7)).off + 3,none⟩=some (.int .i64 ((Ga ((Ia Fa Ca).f0) ei).f3))∧w'.cell? ⟨(Ar.add ((ei).toNat * 7)).block,(Ar.add ((ei).toNat * 7)).off + 4,none⟩=some (.int .i64 ((Ga ((Ia Fa Ca).f0) ei).f4))∧w'.cell? ⟨(Ar.add ((ei).toNat * 7)).block,(Ar.add ((ei).toNat * 7)).off + 5,none⟩=some (.int .i64 ((Ga ((Ia Fa Ca).f0) ei).f5))∧w'.cell? ⟨(Ar.add ((ei).toNat * 7)).block,(Ar.add ((ei).toNat * 7)).off + 6,none⟩=some (.string ((Ga ((Ia Fa Ca).f0) ei).f6))) (ds:=[14]) #[false,false,false,false,false,false,false,false,false,false,false,false,false,false,false] (by kernel_rfl) rfl rfl ⟨(ja ic.out 0).trans rfl,(ja ic.out 1).trans rfl,(ja ic.out 2).trans rfl,(ja ic.out 3).trans rfl,(ja ta.out 0).trans rfl,(ja ta.out 1).trans rfl,(ja ta.out 2).trans rfl,(ja ta.out 3).trans rfl,(ja ta.out 4).trans rfl,(Ja HB.out tI),(Ja HB.out sI),(Ja HB.out rI),(Ja HB.out qI),(Ja HB.out pI),(Ja HB.out oI),(Ja HB.out nI),(Ja HB.out mI),(Ja HB.out lI),(Ja HB.out kI),(Ja HB.out jI),(Ja HB.out iI)⟩ (fun hHeld=>?_);refine Jg Pb.iaf Pb.Yac (fun Vd dm=>?_);generalize wr.drew=oT at ai Xc jc ta Ea ic HB MR Hz Gz Fz Ez Dz Cz Bz zz yz xz wz vz hHeld ⊢;refine ec (i:=0) (N:=some 46) (v:=?_) (a':=?_) #[true,false,false,false,false,false,false,false,false,false,false,false,false,false,false] rfl rfl (dc Vd.out (by kernel_rfl)) (fun _ _ _ h=>h) (Or.inl ⟨by rfl,?_⟩) ?_ ?_;rotate_left
              ·exact XaJ
              rotate_left
              ·exact WaJ
              refine ec (i:=2) (N:=some 48) (v:=?_) (a':=?_) #[true,false,true,false,false,false,false,false,false,false,false,false,false,false,false] rfl rfl (dc Vd.out (by kernel_rfl)) (fun _ _ _ h=>h) (Or.inl ⟨by rfl,?_⟩) ?_ ?_;rotate_left
              ·exact XaJ
              rotate_left
              ·exact WaJ
              refine ec (i:=4) (N:=some 50) (v:=?_) (a':=?_) #[true,false,true,false,true,false,false,false,false,false,false,false,false,false,false] rfl rfl (dc Vd.out (by kernel_rfl)) (fun _ _ _ h=>h) (Or.inl ⟨by rfl,?_⟩) ?_ ?_;rotate_left
              ·exact XaJ
              rotate_left
              ·exact WaJ
              refine ec (i:=8) (N:=some 54) (v:=?_) (a':=?_) #[true,false,true,false,true,false,false,false,true,false,false,false,false,false,false] rfl rfl (dc Vd.out (by kernel_rfl)) (fun _ _ _ h=>h) (Or.inl ⟨by rfl,?_⟩) ?_ ?_;rotate_left
              ·exact XaJ
              rotate_left
              ·exact WaJ
              refine Pe (i:=1) (N:=some 47) (v:=?_) (a':=?_) #[true,true,true,false,true,false,false,false,true,false,false,false,false,false,false] rfl rfl (Ad Vd.out dm.out (by kernel_rfl)) (fun _ _ _ h=>h) (Or.inl ⟨by rfl,?_⟩) hHeld ?_ ?_;rotate_left
              ·exact YaJ
              rotate_left
              ·exact WaJ
              refine Pe (i:=3) (N:=some 49) (v:=?_) (a':=?_) #[true,true,true,true,true,false,false,false,true,false,false,false,false,false,false] rfl rfl (Ad Vd.out dm.out (by kernel_rfl)) (fun _ _ _ h=>h) (Or.inl ⟨by rfl,?_⟩) hHeld ?_ ?_;rotate_left
              ·exact YaJ
              rotate_left
              ·exact WaJ
              refine ec (i:=5) (N:=some 51) (v:=?_) (a':=?_) #[true,true,true,true,true,true,false,false,true,false,false,false,false,false,false] rfl rfl (dc Vd.out (by kernel_rfl)) (fun _ _ _ h=>h) (Or.inl ⟨by rfl,?_⟩) ?_ ?_;rotate_left
              ·exact XaJ
              rotate_left
              ·exact WaJ
              refine ec (i:=6) (N:=some 52) (v:=?_) (a':=?_) #[true,true,true,true,true,true,true,false,true,false,false,false,false,false,false] rfl rfl (dc Vd.out (by kernel_rfl)) (fun _ _ _ h=>h) (Or.inl ⟨by rfl,?_⟩) ?_ ?_;rotate_left
              ·exact XaJ
              rotate_left
              ·exact WaJ
              refine Pe (i:=7) (N:=some 53) (v:=?_) (a':=?_) #[true,true,true,true,true,true,true,true,true,false,false,false,false,false,false] rfl rfl (Ad Vd.out dm.out (by kernel_rfl)) (fun _ _ _ h=>h) (Or.inl ⟨by rfl,?_⟩) hHeld ?_ ?_;rotate_left
              ·exact YaJ
              rotate_left
              ·exact WaJ
              refine ec (i:=9) (N:=some 55) (v:=?_) (a':=?_) #[true,true,true,true,true,true,true,true,true,true,false,false,false,false,false] rfl rfl (dc Vd.out (by kernel_rfl)) (fun _ _ _ h=>h) (Or.inl ⟨by rfl,?_⟩) ?_ ?_;rotate_left
              ·exact XaJ
              rotate_left
              ·exact WaJ
              refine Pe (i:=10) (N:=some 56) (v:=?_) (a':=?_) #[true,true,true,true,true,true,true,true,true,true,true,false,false,false,false] rfl rfl (Ad Vd.out dm.out (by kernel_rfl)) (fun _ _ _ h=>h) (Or.inl ⟨by rfl,?_⟩) hHeld ?_ ?_;rotate_left
              ·exact YaJ
              rotate_left
              ·exact WaJ
              refine Gi (i:=11) (N:=some 57) #[true,true,true,true,true,true,true,true,true,true,true,true,false,false,false] rfl rfl (Wg Vd.out (by kernel_rfl)) (by decide) (fun K hK=>?_);refine Hj Try.func63 (by kernel_rfl) rfl #[.agg #[.int .i64 ((Ga ((Ia Fa Ca).f0) ei).f0),.int .i64 ((Ga ((Ia Fa Ca).f0) ei).f1),.int .i64 ((Ga ((Ia Fa Ca).f0) ei).f2),.int .i64 ((Ga ((Ia Fa Ca).f0) ei).f3),.int .i64 ((Ga ((Ia Fa Ca).f0) ei).f4),.int .i64 ((Ga ((Ia Fa Ca).f0) ei).f5),.string ((Ga ((Ia Fa Ca).f0) ei).f6)]] (by rfl) rfl rfl laK ?_;with_reducible refine (Tc.calls k2 ((Ga ((Ia Fa Ca).f0) ei).f0) ((Ga ((Ia Fa Ca).f0) ei).f1) ((Ga ((Ia Fa Ca).f0) ei).f2) ((Ga ((Ia Fa Ca).f0) ei).f3) ((Ga ((Ia Fa Ca).f0) ei).f4) ((Ga ((Ia Fa Ca).f0) ei).f5) ((Ga ((Ia Fa Ca).f0) ei).f6) t120 _ A37.out).mono ?_
              rintro e w43 ⟨qax,rfl,fj,hb⟩;refine ⟨_,rfl,?_⟩;have Bb:=aa.mk (Kd.Yb SaK hb);have Db:=aa.mk (Kd.Yb VaK hb);have Ib:=aa.mk (Kd.aj KaK (Kd.en fj) hb);have Xb:=aa.mk (Kd.td (Kd.Jn fj (Kd.Ap KaK)) (Da uaK));have De:=aa.mk (Na (g:=ya) (o:=.cells #[.slice yb Ua.length zb,.int .i64 Pa,.int .i64 Ra,.int .i64 Sa,.slice (some Cj) Fa.length Qb] 30 (0,0)) kaK hb);have ef:=aa.mk (Na (g:=Ta) (o:=.cells #[.slice none 0 0,.int .i64 0,.int .i64 0,.slice none 0 0] 49 (0,0)) qaK hb);have Cf:=aa.mk (Na (g:=uc) (o:=.cells #[.slice Wk zh.length Uk,.int .i64 Pa,.int .i64 Sa,Ug] 49 (0,0)) zaK hb);have Cu:=aa.mk (Ma uaK hb);clear ai Xc jc ta Ea ic HB;have ai:=Bb;have Xc:=Db;have jc:=Ib;have rC:=Xb;have ta:=De;have Ea:=ef;have ic:=Cf;have HB:=Cu;clear Bb Db Ib Xb De ef Cf Cu;(try clear hb);(try clear ek);(try clear hk);(try clear hi);(try clear fj);obtain ⟨naB,Paz,Nak⟩:=Kd.Lc rC.out;(first|subst Nak|(injection Nak with ey vG dy;have uG:=ey.symm;have sG:=dy.symm;clear ey vG dy;subst uG;subst sG));refine hK.out _ _ ⟨(ja ic.out 0).trans rfl,(ja ic.out 1).trans rfl,(ja ic.out 2).trans rfl,(ja ic.out 3).trans rfl,(ja ta.out 0).trans rfl,(ja ta.out 1).trans rfl,(ja ta.out 2).trans rfl,(ja ta.out 3).trans rfl,(ja ta.out 4).trans rfl,(Ja HB.out tI),(Ja HB.out sI),(Ja HB.out rI),(Ja HB.out qI),(Ja HB.out pI),(Ja HB.out oI),(Ja HB.out nI),(Ja HB.out mI),(Ja HB.out lI),(Ja HB.out kI),(Ja HB.out jI),(Ja HB.out iI)⟩ (fun hHeld=>?_);clear hK K;refine Be (a':=?_) ?_ ?_;rotate_left
              ·show Act.put _ (some 57) _=_
               exact WaJ
              refine Gi (i:=12) (N:=some 58) #[true,true,true,true,true,true,true,true,true,true,true,true,true,false,false] rfl rfl (Wg Vd.out (by kernel_rfl)) (by decide) (fun K hK=>?_);refine Kd.Hf Yg (w0:=w) w.heap.size (by rfl) (.tmp 47) (.tmp 57) 47 79 (.agg #[(.int .i64 0),(.int .i64 0),(.int .i64 0),(.int .i64 0),(.int .i64 0)]) 40 rfl Try.underlying47 Gr rfl (by decide) (by omega) Ug Mb t120 _ _ _ (fun k_=>some k_ ≠ (.slice naB t120.length Paz:Value).ownBlock) (fun _=>False) rfl rfl ?aO ?aR (fun _ _ h=>h) (fun _ h=>h.elim) ?aF ?aB ?aS ?aL ?_
              (case aR=>repeat (first|exact (Kd.Jb rC.out).2.2|(with_reducible refine Kd.Vb ?_ _)|(with_reducible refine Kd.Ub ?_ _)|(with_reducible refine Kd.tc ?_)))
              (case aB=>exact uaK)
              (case aF=>exact (fun k_ hk=>Kd.fresh' (Kd.Ap (by (with_reducible repeat (first|apply Kd.Xa|apply Kd.Ya|apply Kd.gb));exact rC.out)) k_ hk))
              (case aO=>exact (by (with_reducible repeat (first|apply Kd.Xa|apply Kd.Ya|apply Kd.gb));exact Kd.yc jc.out (fun _ hk=>hk.2)))
              (case aS=>exact (Da uaK))
              (case aL=>have:=qW.out;omega)
              intro pax w44 ho hb hg hat;rw [← oW.out] at ho;have Bb:=aa.mk (Kd.Lx SaK (Kd.zp KaK) (by decide) hg);have Db:=aa.mk (Kd.Lx VaK (Kd.zp KaK) (by decide) hg);have Ib:=aa.mk (Mc (g:=ya) (o:=.cells #[.slice yb Ua.length zb,.int .i64 Pa,.int .i64 Ra,.int .i64 Sa,.slice (some Cj) Fa.length Qb] 30 (0,0)) kaK hg (Kd.Yh jc.out ta.out (by decide)));have Xb:=aa.mk (Mc (g:=Ta) (o:=.cells #[.slice none 0 0,.int .i64 0,.int .i64 0,.slice none 0 0] 49 (0,0)) qaK hg (Kd.Yh jc.out Ea.out (by decide)));have De:=aa.mk (Mc (g:=uc) (o:=.cells #[.slice Wk zh.length Uk,.int .i64 Pa,.int .i64 Sa,Ug] 49 (0,0)) zaK hg (Kd.Yh jc.out ic.out (by decide)));have ef:=aa.mk (Kd.Yn (ok:=(fun _=>True)) (by (with_reducible repeat (first|apply Kd.Xa|apply Kd.Ya|apply Kd.gb));exact rC.out) hg hat);have Cf:=aa.mk (hb);have Cu:=aa.mk (ho);clear ai Xc ta Ea ic rC HB jc;have ai:=Bb;have Xc:=Db;have ta:=Ib;have Ea:=Xb;have ic:=De;have rC:=ef;have HB:=Cf;have SR:=Cu;clear Bb Db Ib Xb De ef Cf Cu ho hb hg hat;obtain ⟨S6,G5,Mak⟩:=Kd.Lc SR.out;(first|subst Mak|(injection Mak with ey vG dy;have uG:=ey.symm;have sG:=dy.symm;clear ey vG dy;subst uG;subst sG));refine hK.out _ _ ⟨(ja ic.out 0).trans rfl,(ja ic.out 1).trans rfl,(ja ic.out 2).trans rfl,(ja ic.out 3).trans rfl,(ja ta.out 0).trans rfl,(ja ta.out 1).trans rfl,(ja ta.out 2).trans rfl,(ja ta.out 3).trans rfl,(ja ta.out 4).trans rfl,(Ja HB.out tI),(Ja HB.out sI),(Ja HB.out rI),(Ja HB.out qI),(Ja HB.out pI),(Ja HB.out oI),(Ja HB.out nI),(Ja HB.out mI),(Ja HB.out lI),(Ja HB.out kI),(Ja HB.out jI),(Ja HB.out iI)⟩ (fun hHeld=>?_);clear hK K;refine Be (a':=?_) ?_ ?_;rotate_left
              ·show Act.put _ (some 58) _=_
               exact WaJ
              refine ec (i:=13) (N:=some 59) (v:=?_) (a':=?_) #[true,true,true,true,true,true,true,true,true,true,true,true,true,true,false] rfl rfl (dc Vd.out (by kernel_rfl)) (fun _ _ _ h=>h) (Or.inl ⟨by rfl,?_⟩) ?_ ?_;rotate_left
              ·exact XaJ
              rotate_left
              ·exact WaJ
              refine aC (i:=14) (N:=none) #[true,true,true,true,true,true,true,true,true,true,true,true,true,true,true] rfl rfl (Wg Vd.out (by kernel_rfl)) (by decide) (fun K hK=>?_);have naG:w44.cell? ⟨uc,3,none⟩=some (Ug):=(ja ic.out 3).trans rfl;have GaD:=qa ic.out 3;have bao:=Fc.out;have aao:=ig.out;have oao:=Uf.out;have nao:=fh.out;refine DE (w1:=?_) (by rfl) rfl ?_ ?_;rotate_left
              ·go_simp
               rfl
              refine hK.out _ _ ?_;clear hK K;refine fk (si Vd.out (by kernel_rfl)) ?_
              try go_wp2
              go_roundg k2
              case measure=>have:=Vg.out;have:=KF.out;omega
              case rel=>exact ⟨(wrap64 (ei + 1)),(WK),(.slice S6 WK.length G5),saK,H',⟨by have:=Vg.out;have:=KF.out;omega⟩,⟨by (with_reducible repeat (first|apply Kd.Xa|apply Kd.Ya|apply Kd.gb));exact Kd.yc (Kd.zf (p:=⟨uc,3,none⟩) (Kd.nh ai.out ic.out (by decide)) (fun _ hk=>hk.2) (.slice S6 WK.length G5)) (fun _ hk=>hk.1)⟩,⟨by (with_reducible repeat (first|apply Kd.Xa|apply Kd.Ya|apply Kd.gb));exact Kd.yc (Kd.zf (p:=⟨uc,3,none⟩) (Kd.nh Xc.out ic.out (by decide)) (fun _ hk=>hk.2) (.slice S6 WK.length G5)) (fun _ hk=>hk.1)⟩,⟨by (with_reducible repeat (first|apply Kd.Xa|apply Kd.Ya|apply Kd.gb));exact Kd.yc (Kd.zf (p:=⟨uc,3,none⟩) (Kd.nh SR.out ic.out (by decide)) (fun _ hk=>hk.2) (.slice S6 WK.length G5)) (fun _ hk=>trivial)⟩,⟨by (with_reducible repeat (first|refine za ?_ _|refine Ba ?_|refine Aa ?_ _));refine Qd ?_ Fc.out _;(with_reducible repeat (first|refine za ?_ _|refine Ba ?_|refine Aa ?_ _));exact ta.out⟩,⟨by (with_reducible repeat (first|refine za ?_ _|refine Ba ?_|refine Aa ?_ _));refine Qd ?_ ig.out _;(with_reducible repeat (first|refine za ?_ _|refine Ba ?_|refine Aa ?_ _));exact Ea.out⟩,⟨gaL⟩,⟨IaK⟩⟩
             ·rw [if_neg TK] at H;exact absurd H (by simp)
            ·rw [if_neg iR] at H;exact absurd H (by simp)
           ·rw [if_neg SM] at H;have iM:decide (ei < (((Ia Fa Ca).f0).length:Int))=false:=decide_eq_false SM;clear SM;replace H:=Option.bind_eq_some_iff.mp H;obtain ⟨t127,Ian,H⟩:=H
            try dsimp only at H
            have A48:=aa.mk Ian;clear Ian
            by_cases c49:Mb.length + t127.length < 3518437208883
            ·rw [if_pos c49] at H;have ham:=aa.mk c49;clear c49;obtain ⟨VK,Xu⟩:∃ y_:List (Zb),y_=(Mb ++ t127):=⟨_,rfl⟩;replace H:(Pb.l0 k2 Bn (wrap64 (Ca + 1)) Ua Pa Ra Sa Fa zh Pa Sa VK)=some (r1,r2,r3,r4):=by first|(rw [Xu];with_reducible exact H)|(have Ld:=(Option.bind_some _ _).symm.trans H;rw [Xu];with_reducible exact Ld)|(have Ld:=(Option.bind_some _ _).symm.trans H;with_reducible exact Ld)|with_reducible exact H|(rw [Xu];exact H)|exact H
             have xR:=aa.mk Xu;clear Xu;have H':=aa.mk H;clear H;have rag:=xb.out;have bag:=qb.out;have U7:=Fc.out;have J7:=Uf.out;obtain ⟨zD,yD,xD,wD,vD,QC,OC,NC,MC,LC⟩:=ri ta.out;have sL:0 ≤ (Ca:Int):=Va;have oL:Ca < (Fa.length:Int):=Va;obtain ⟨Cj,oae,Jac,oac,nw,mw,jw,iw,gw,Yz,bA⟩:=Bj Tg.out Ca sL oL;cases oac;replace nw:=Ja HB.out nw;replace mw:=Ja HB.out mw;replace jw:=Ja HB.out jw;replace iw:=Ja HB.out iw;replace gw:=Ja HB.out gw;have l6:=aa.mk bA;have M6:=aa.mk Yz;clear bA Yz;replace sL:=eq_true sL;replace oL:=eq_true oL
             try go_wp2
             have Bb:=aa.mk (Kd.gb ai.out);have Db:=aa.mk (Kd.gb Xc.out);have Ib:=aa.mk (Kd.gb jc.out);have Xb:=aa.mk (Ba ta.out);have De:=aa.mk (Ba Ea.out);have ef:=aa.mk (Ba ic.out);have Cf:=aa.mk (oa HB.out);clear ai Xc jc ta Ea ic HB;have ai:=Bb;have Xc:=Db;have jc:=Ib;have ta:=Xb;have Ea:=De;have ic:=ef;have HB:=Cf;clear Bb Db Ib Xb De ef Cf;have ZY:0 ≤ (Ca:Int):=Va;have UY:Ca < (Fa.length:Int):=Va;obtain ⟨Nal,jY,YV,Jaz,uz,rz,qz,pz,oz,pP,sP⟩:=Bj Tg.out Ca ZY UY;have cI:=oz;have dI:=pz;have eI:=qz;have fI:=rz;have gI:=uz;obtain rfl:Cj=Nal:=(by injection Jaz);replace uz:=Ja HB.out uz;replace rz:=Ja HB.out rz;replace qz:=Ja HB.out qz;replace pz:=Ja HB.out pz;replace oz:=Ja HB.out oz;have LR:=aa.mk sP;have L6:=aa.mk pP;clear sP pP;replace ZY:=eq_true ZY;replace UY:=eq_true UY;refine Gh (n:=13) (S:=fun w'=>w'.cell? ⟨uc,0,none⟩=some (.slice Wk zh.length Uk)∧w'.cell? ⟨uc,1,none⟩=some (.int .i64 Pa)∧w'.cell? ⟨uc,2,none⟩=some (.int .i64 Sa)∧w'.cell? ⟨uc,3,none⟩=some (Ug)∧w'.cell? ⟨ya,0,none⟩=some (.slice yb Ua.length zb)∧w'.cell? ⟨ya,1,none⟩=some (.int .i64 Pa)∧w'.cell? ⟨ya,2,none⟩=some (.int .i64 Ra)∧w'.cell? ⟨ya,3,none⟩=some (.int .i64 Sa)∧w'.cell? ⟨ya,4,none⟩=some (.slice (some Cj) Fa.length Qb)∧w'.cell? (Cj.add ((Ca).toNat * 5))=some (.slice jY ((Ia Fa Ca).f0).length YV)∧w'.cell? ⟨(Cj.add ((Ca).toNat * 5)).block,(Cj.add ((Ca).toNat * 5)).off + 1,none⟩=some (.int .i64 ((Ia Fa Ca).f1))∧w'.cell? ⟨(Cj.add ((Ca).toNat * 5)).block,(Cj.add ((Ca).toNat * 5)).off + 2,none⟩=some (.int .i64 ((Ia Fa Ca).f2))∧w'.cell? ⟨(Cj.add ((Ca).toNat * 5)).block,(Cj.add ((Ca).toNat * 5)).off + 3,none⟩=some (.int .i64 ((Ia Fa Ca).f3))∧w'.cell? ⟨(Cj.add ((Ca).toNat * 5)).block,(Cj.add ((Ca).toNat * 5)).off + 4,none⟩=some (.int .i64 ((Ia Fa Ca).f4))) (ds:=[12]) #[false,false,false,false,false,false,false,false,false,false,false,false,false] (by kernel_rfl) rfl rfl ⟨(ja ic.out 0).trans rfl,(ja ic.out 1).trans rfl,(ja ic.out 2).trans rfl,(ja ic.out 3).trans rfl,(ja ta.out 0).trans rfl,(ja ta.out 1).trans rfl,(ja ta.out 2).trans rfl,(ja ta.out 3).trans rfl,(ja ta.out 4).trans rfl,(Ja HB.out gI),(Ja HB.out fI),(Ja HB.out eI),(Ja HB.out dI),(Ja HB.out cI)⟩ (fun hHeld=>?_);refine Jg Pb.eL Pb.vF (fun Vd dm=>?_);generalize wr.drew=w53 at ai Xc jc ta Ea ic HB LR uz rz qz pz oz hHeld ⊢;refine ec (i:=0) (N:=some 60) (v:=?_) (a':=?_) #[true,false,false,false,false,false,false,false,false,false,false,false,false] rfl rfl (dc Vd.out (by kernel_rfl)) (fun _ _ _ h=>h) (Or.inl ⟨by rfl,?_⟩) ?_ ?_;rotate_left
             ·exact XaJ
             rotate_left
             ·exact WaJ
             refine ec (i:=2) (N:=some 62) (v:=?_) (a':=?_) #[true,false,true,false,false,false,false,false,false,false,false,false,false] rfl rfl (dc Vd.out (by kernel_rfl)) (fun _ _ _ h=>h) (Or.inl ⟨by rfl,?_⟩) ?_ ?_;rotate_left
             ·exact XaJ
             rotate_left
             ·exact WaJ
             refine ec (i:=4) (N:=some 64) (v:=?_) (a':=?_) #[true,false,true,false,true,false,false,false,false,false,false,false,false] rfl rfl (dc Vd.out (by kernel_rfl)) (fun _ _ _ h=>h) (Or.inl ⟨by rfl,?_⟩) ?_ ?_;rotate_left
             ·exact XaJ
             rotate_left
             ·exact WaJ
             refine ec (i:=7) (N:=some 67) (v:=?_) (a':=?_) #[true,false,true,false,true,false,false,true,false,false,false,false,false] rfl rfl (dc Vd.out (by kernel_rfl)) (fun _ _ _ h=>h) (Or.inl ⟨by rfl,?_⟩) ?_ ?_;rotate_left
             ·exact XaJ
             rotate_left
             ·exact WaJ
             refine ec (i:=8) (N:=some 68) (v:=?_) (a':=?_) #[true,false,true,false,true,false,false,true,true,false,false,false,false] rfl rfl (dc Vd.out (by kernel_rfl)) (fun _ _ _ h=>h) (Or.inl ⟨by rfl,?_⟩) ?_ ?_;rotate_left
             ·exact XaJ
             rotate_left
             ·exact WaJ
             refine Pe (i:=1) (N:=some 61) (v:=?_) (a':=?_) #[true,true,true,false,true,false,false,true,true,false,false,false,false] rfl rfl (Ad Vd.out dm.out (by kernel_rfl)) (fun _ _ _ h=>h) (Or.inl ⟨by rfl,?_⟩) hHeld ?_ ?_;rotate_left
             ·exact aaK
             rotate_left
             ·exact WaJ
             refine Pe (i:=3) (N:=some 63) (v:=?_) (a':=?_) #[true,true,true,true,true,false,false,true,true,false,false,false,false] rfl rfl (Ad Vd.out dm.out (by kernel_rfl)) (fun _ _ _ h=>h) (Or.inl ⟨by rfl,?_⟩) hHeld ?_ ?_;rotate_left
             ·exact aaK
             rotate_left
             ·exact WaJ
             refine ec (i:=5) (N:=some 65) (v:=?_) (a':=?_) #[true,true,true,true,true,true,false,true,true,false,false,false,false] rfl rfl (dc Vd.out (by kernel_rfl)) (fun _ _ _ h=>h) (Or.inl ⟨by rfl,?_⟩) ?_ ?_;rotate_left
             ·exact XaJ
             rotate_left
             ·exact WaJ
             refine Pe (i:=6) (N:=some 66) (v:=?_) (a':=?_) #[true,true,true,true,true,true,true,true,true,false,false,false,false] rfl rfl (Ad Vd.out dm.out (by kernel_rfl)) (fun _ _ _ h=>h) (Or.inl ⟨by rfl,?_⟩) hHeld ?_ ?_;rotate_left
             ·exact aaK
             rotate_left
             ·exact WaJ
             refine Gi (i:=9) (N:=some 69) #[true,true,true,true,true,true,true,true,true,true,false,false,false] rfl rfl (Wg Vd.out (by kernel_rfl)) (by decide) (fun K hK=>?_);refine Hj Try.func64 (by kernel_rfl) rfl #[.agg #[.slice jY ((Ia Fa Ca).f0).length YV,.int .i64 ((Ia Fa Ca).f1),.int .i64 ((Ia Fa Ca).f2),.int .i64 ((Ia Fa Ca).f3),.int .i64 ((Ia Fa Ca).f4)],.int .i64 (wrap64 (Ca + 1))] (by rfl) rfl rfl laK ?_;with_reducible refine (Bl.calls _ _ ((Ia Fa Ca).f0) ((Ia Fa Ca).f1) ((Ia Fa Ca).f2) ((Ia Fa Ca).f3) ((Ia Fa Ca).f4) (wrap64 (Ca + 1)) t127 _ ?Ic ?Gc A48.out).mono ?_
             (case Ic=>repeat (first|exact (Kd.Kb LR.out HB.out)|(with_reducible refine Kd.Vb ?_ _)|(with_reducible refine Kd.Ub ?_ _)|(with_reducible refine Kd.tc ?_)))
             (case Gc=>exact L6.out)
             rintro e w54 ⟨oax,rfl,fj,hb⟩;refine ⟨_,rfl,?_⟩;have Bb:=aa.mk (Kd.Yb SaK hb);have Db:=aa.mk (Kd.Yb VaK hb);have Ib:=aa.mk (Kd.aj KaK (Kd.en fj) hb);have Xb:=aa.mk (Kd.td (Kd.Jn fj (Kd.Ap KaK)) (Da uaK));have De:=aa.mk (Na (g:=ya) (o:=.cells #[.slice yb Ua.length zb,.int .i64 Pa,.int .i64 Ra,.int .i64 Sa,.slice (some Cj) Fa.length Qb] 30 (0,0)) kaK hb);have ef:=aa.mk (Na (g:=Ta) (o:=.cells #[.slice none 0 0,.int .i64 0,.int .i64 0,.slice none 0 0] 49 (0,0)) qaK hb);have Cf:=aa.mk (Na (g:=uc) (o:=.cells #[.slice Wk zh.length Uk,.int .i64 Pa,.int .i64 Sa,Ug] 49 (0,0)) zaK hb);have Cu:=aa.mk (Ma uaK hb);clear ai Xc jc ta Ea ic HB;have ai:=Bb;have Xc:=Db;have jc:=Ib;have qC:=Xb;have ta:=De;have Ea:=ef;have ic:=Cf;have HB:=Cu;clear Bb Db Ib Xb De ef Cf Cu;(try clear hb);(try clear ek);(try clear hk);(try clear hi);(try clear fj);obtain ⟨maB,Oaz,Lak⟩:=Kd.Lc qC.out;(first|subst Lak|(injection Lak with ey vG dy;have uG:=ey.symm;have sG:=dy.symm;clear ey vG dy;subst uG;subst sG));refine hK.out _ _ ⟨(ja ic.out 0).trans rfl,(ja ic.out 1).trans rfl,(ja ic.out 2).trans rfl,(ja ic.out 3).trans rfl,(ja ta.out 0).trans rfl,(ja ta.out 1).trans rfl,(ja ta.out 2).trans rfl,(ja ta.out 3).trans rfl,(ja ta.out 4).trans rfl,(Ja HB.out gI),(Ja HB.out fI),(Ja HB.out eI),(Ja HB.out dI),(Ja HB.out cI)⟩ (fun hHeld=>?_);clear hK K;refine Be (a':=?_) ?_ ?_;rotate_left
             ·show Act.put _ (some 69) _=_
              exact WaJ
             refine Gi (i:=10) (N:=some 70) #[true,true,true,true,true,true,true,true,true,true,true,false,false] rfl rfl (Wg Vd.out (by kernel_rfl)) (by decide) (fun K hK=>?_);refine Kd.Hf Yg (w0:=w) w.heap.size (by rfl) (.tmp 61) (.tmp 69) 47 79 (.agg #[(.int .i64 0),(.int .i64 0),(.int .i64 0),(.int .i64 0),(.int .i64 0)]) 40 rfl Try.underlying47 Gr rfl (by decide) (by omega) Ug Mb t127 _ _ _ (fun k_=>some k_ ≠ (.slice maB t127.length Oaz:Value).ownBlock) (fun _=>False) rfl rfl ?aO ?aR (fun _ _ h=>h) (fun _ h=>h.elim) ?aF ?aB ?aS ?aL ?_
             (case aR=>repeat (first|exact (Kd.Jb qC.out).2.2|(with_reducible refine Kd.Vb ?_ _)|(with_reducible refine Kd.Ub ?_ _)|(with_reducible refine Kd.tc ?_)))
             (case aB=>exact uaK)
             (case aF=>exact (fun k_ hk=>Kd.fresh' (Kd.Ap (by (with_reducible repeat (first|apply Kd.Xa|apply Kd.Ya|apply Kd.gb));exact qC.out)) k_ hk))
             (case aO=>exact (by (with_reducible repeat (first|apply Kd.Xa|apply Kd.Ya|apply Kd.gb));exact Kd.yc jc.out (fun _ hk=>hk.2)))
             (case aS=>exact (Da uaK))
             (case aL=>have:=ham.out;omega)
             intro kax w55 ho hb hg hat;rw [← xR.out] at ho;have Bb:=aa.mk (Kd.Lx SaK (Kd.zp KaK) (by decide) hg);have Db:=aa.mk (Kd.Lx VaK (Kd.zp KaK) (by decide) hg);have Ib:=aa.mk (Mc (g:=ya) (o:=.cells #[.slice yb Ua.length zb,.int .i64 Pa,.int .i64 Ra,.int .i64 Sa,.slice (some Cj) Fa.length Qb] 30 (0,0)) kaK hg (Kd.Yh jc.out ta.out (by decide)));have Xb:=aa.mk (Mc (g:=Ta) (o:=.cells #[.slice none 0 0,.int .i64 0,.int .i64 0,.slice none 0 0] 49 (0,0)) qaK hg (Kd.Yh jc.out Ea.out (by decide)));have De:=aa.mk (Mc (g:=uc) (o:=.cells #[.slice Wk zh.length Uk,.int .i64 Pa,.int .i64 Sa,Ug] 49 (0,0)) zaK hg (Kd.Yh jc.out ic.out (by decide)));have ef:=aa.mk (Kd.Yn (ok:=(fun _=>True)) (by (with_reducible repeat (first|apply Kd.Xa|apply Kd.Ya|apply Kd.gb));exact qC.out) hg hat);have Cf:=aa.mk (hb);have Cu:=aa.mk (ho);clear ai Xc ta Ea ic qC HB jc;have ai:=Bb;have Xc:=Db;have ta:=Ib;have Ea:=Xb;have ic:=De;have qC:=ef;have HB:=Cf;have RR:=Cu;clear Bb Db Ib Xb De ef Cf Cu ho hb hg hat;obtain ⟨R6,F5,Kak⟩:=Kd.Lc RR.out;(first|subst Kak|(injection Kak with ey vG dy;have uG:=ey.symm;have sG:=dy.symm;clear ey vG dy;subst uG;subst sG));refine hK.out _ _ ⟨(ja ic.out 0).trans rfl,(ja ic.out 1).trans rfl,(ja ic.out 2).trans rfl,(ja ic.out 3).trans rfl,(ja ta.out 0).trans rfl,(ja ta.out 1).trans rfl,(ja ta.out 2).trans rfl,(ja ta.out 3).trans rfl,(ja ta.out 4).trans rfl,(Ja HB.out gI),(Ja HB.out fI),(Ja HB.out eI),(Ja HB.out dI),(Ja HB.out cI)⟩ (fun hHeld=>?_);clear hK K;refine Be (a':=?_) ?_ ?_;rotate_left
             ·show Act.put _ (some 70) _=_
              exact WaJ
             refine ec (i:=11) (N:=some 71) (v:=?_) (a':=?_) #[true,true,true,true,true,true,true,true,true,true,true,true,false] rfl rfl (dc Vd.out (by kernel_rfl)) (fun _ _ _ h=>h) (Or.inl ⟨by rfl,?_⟩) ?_ ?_;rotate_left
             ·exact XaJ
             rotate_left
             ·exact WaJ
             refine aC (i:=12) (N:=none) #[true,true,true,true,true,true,true,true,true,true,true,true,true] rfl rfl (Wg Vd.out (by kernel_rfl)) (by decide) (fun K hK=>?_);have maG:w55.cell? ⟨uc,3,none⟩=some (Ug):=(ja ic.out 3).trans rfl;have FaD:=qa ic.out 3;have Zan:=Fc.out;have Yan:=ig.out;have mao:=Uf.out;have lao:=fh.out;refine DE (w1:=?_) (by rfl) rfl ?_ ?_;rotate_left
             ·go_simp
              rfl
             refine hK.out _ _ ?_;clear hK K;refine fk (si Vd.out (by kernel_rfl)) ?_
             try go_wp2
             go_roundg k2
             case measure=>have:=Vg.out;have:=KF.out;omega
             case rel=>exact ⟨(Bn),(wrap64 (Ca + 1)),(VK),(.slice R6 VK.length F5),saK,H',⟨by have:=Vg.out;have:=KF.out;omega⟩,⟨by (with_reducible repeat (first|apply Kd.Xa|apply Kd.Ya|apply Kd.gb));exact Kd.yc (Kd.zf (p:=⟨uc,3,none⟩) (Kd.nh ai.out ic.out (by decide)) (fun _ hk=>hk.2) (.slice R6 VK.length F5)) (fun _ hk=>hk.1)⟩,⟨by (with_reducible repeat (first|apply Kd.Xa|apply Kd.Ya|apply Kd.gb));exact Kd.yc (Kd.zf (p:=⟨uc,3,none⟩) (Kd.nh Xc.out ic.out (by decide)) (fun _ hk=>hk.2) (.slice R6 VK.length F5)) (fun _ hk=>hk.1)⟩,⟨by (with_reducible repeat (first|apply Kd.Xa|apply Kd.Ya|apply Kd.gb));exact Kd.yc (Kd.zf (p:=⟨uc,3,none⟩) (Kd.nh RR.out ic.out (by decide)) (fun _ hk=>hk.2) (.slice R6 VK.length F5)) (fun _ hk=>trivial)⟩,⟨by (with_reducible repeat (first|refine za ?_ _|refine Ba ?_|refine Aa ?_ _));refine Qd ?_ Fc.out _;(with_reducible repeat (first|refine za ?_ _|refine Ba ?_|refine Aa ?_ _));exact ta.out⟩,⟨by (with_reducible repeat (first|refine za ?_ _|refine Ba ?_|refine Aa ?_ _));refine Qd ?_ ig.out _;(with_reducible repeat (first|refine za ?_ _|refine Ba ?_|refine Aa ?_ _));exact Ea.out⟩,⟨gaL⟩,⟨IaK⟩⟩
            ·rw [if_neg c49] at H;exact absurd H (by simp)
          ·rw [if_neg iO] at H;exact absurd H (by simp)
         ·rw [if_neg fK] at H;exact absurd H (by simp)
      ·rw [if_neg lR] at H;exact absurd H (by simp)
     ·rw [if_neg VM] at H;have TV:decide (Ca < (Fa.length:Int))=false:=decide_eq_false VM;clear VM;have H':=aa.mk H;clear H;have qag:=xb.out;have aag:=qb.out;have faD:=Fc.out;have waC:=Uf.out;obtain ⟨G2,F2,E2,D2,C2,EZ,DZ,CZ,BZ,AZ⟩:=ri ta.out;go_wp2
      go_loopg [7] k1 (fun kq v7 w'=>∃ (Ve:Int) (Mb:List (Zb)) (Ug:Value),v7 = .int .i64 Ve∧aa (Pb.l2 kq Vc Ve zh Pa Sa Mb=some (r1,r2,r3,r4))∧aa (kq ≤ k1)∧aa (Kd.R (Kd.int .i64) 3 w' w.heap.size (fun k_=>some k_ ≠ ((.slice Wk zh.length Uk):Value).ownBlock) u4 Vc)∧aa (Kd.R (Kd.int .i64) 3 w' w.heap.size (fun k_=>some k_ ≠ (u4:Value).ownBlock) (.slice Wk zh.length Uk) zh)∧aa (Kd.R Yg 79 w' w.heap.size (fun _=>True) Ug Mb)∧aa (w'.heap[ya]? = some (.cells #[(.slice yb Ua.length zb),.int .i64 Pa,.int .i64 Ra,.int .i64 Sa,(.slice fc Fa.length Qb)] 30 (0,0)))∧aa (w'.heap[Ta]? = some (.cells #[(.slice none 0 0),.int .i64 0,.int .i64 0,(.slice none 0 0)] 49 (0,0)))∧aa (w'.heap[uc]? = some (.cells #[(.slice Wk zh.length Uk),.int .i64 Pa,.int .i64 Sa,Ug] 49 (0,0)))∧aa (Below w.heap.size w w'))
      case atStart=>exact ⟨(0),(uj),(Ug),saK,H',⟨Nat.le_refl _⟩,⟨by (with_reducible repeat (first|apply Kd.Xa|apply Kd.Ya|apply Kd.gb));exact ai.out⟩,⟨by (with_reducible repeat (first|apply Kd.Xa|apply Kd.Ya|apply Kd.gb));exact Xc.out⟩,⟨by (with_reducible repeat (first|apply Kd.Xa|apply Kd.Ya|apply Kd.gb));exact jc.out⟩,⟨taK⟩,⟨xaK⟩,⟨daL⟩,⟨IaK⟩⟩
      case round =>
       clear H'
       try clear c1
       try clear p1
       try clear q1
       try clear hx1
       try clear c2
       try clear p2
       try clear c3
       try clear c4
       try clear c5
       try clear c6
       try clear p6
       try clear wT
       try clear l7
       try clear k7
       try clear Maf
       try clear uo
       try clear p12
       try clear IE
       try clear jaG
       try clear VM
       try clear TV
       try clear lR
       try clear fK
       try clear iO
       try clear SM
       try clear iM
       try clear iR
       try clear TK
       try clear c49
       try clear c50
       try clear c51
       try clear c59
       try clear c60
       try clear qJ
       try clear zD
       try clear yD
       try clear xD
       try clear wD
       try clear vD
       try clear G2
       try clear F2
       try clear E2
       try clear D2
       try clear C2
       try clear II
       try clear GI
       try clear FI
       try clear EI
       try clear DI
       try clear QC
       try clear OC
       try clear NC
       try clear MC
       try clear LC
       try clear EZ
       try clear DZ
       try clear CZ
       try clear BZ
       try clear AZ
       try clear nw
       try clear mw
       try clear jw
       try clear iw
       try clear gw
       try clear Hz
       try clear Gz
       try clear Fz
       try clear Ez
       try clear Dz
       try clear Cz
       try clear Bz
       try clear zz
       try clear yz
       try clear xz
       try clear wz
       try clear vz
       try clear uz
       try clear rz
       try clear qz
       try clear pz
       try clear oz
       try clear sL
       try clear bZ
       try clear aZ
       try clear ZY
       try clear oL
       try clear WY
       try clear VY
       try clear UY
       (try clear HA);(try clear KF);(try clear ai);(try clear Xc);(try clear jc);(try clear ta);(try clear Ea);(try clear ic);(try clear HB);obtain ⟨Ve,Mb,Ug,rfl,HA,KF,ai,Xc,jc,ta,Ea,ic,HB⟩:=hrel;cases gk with
       | zero=>exact absurd HA.out (by simp [Pb.l2])
       | succ k2 =>
        have H:=HA.out;clear HA;simp only [Pb.l2] at H
        by_cases c62:Ve < (Mb.length:Int)
        ·rw [if_pos c62] at H;have jal:decide (Ve < (Mb.length:Int))=true:=decide_eq_true c62;clear c62
         by_cases c63:0 ≤ Ve
         ·rw [if_pos c63] at H;have qaE:decide (0 ≤ Ve)=true:=decide_eq_true c63;clear c63;replace H:=Option.bind_eq_some_iff.mp H;obtain ⟨t134,Gan,H⟩:=H
          try dsimp only at H
          have A64:=aa.mk Gan;clear Gan
          by_cases uT:t134=true
          ·subst uT;rw [if_pos rfl] at H
           by_cases L5:0 ≤ ((Wa Mb Ve).f4)
           ·rw [if_pos L5] at H;have paE:decide (0 ≤ ((Wa Mb Ve).f4))=true:=decide_eq_true L5;clear L5
            by_cases K5:((Wa Mb Ve).f4) < (Vc.length:Int)
            ·rw [if_pos K5] at H;have oaE:decide (((Wa Mb Ve).f4) < (Vc.length:Int))=true:=decide_eq_true K5;clear K5;obtain ⟨aaf,CL⟩:∃ y_:List (Zb),y_=(Mb.set (Ve:Int).toNat (⟨(Wa Mb Ve).f0,(Wa Mb Ve).f1,(Wa Mb Ve).f2,(Wa Mb Ve).f3,rd Vc ((Wa Mb Ve).f4)⟩:Zb)):=⟨_,rfl⟩;replace H:(Pb.l2 k2 Vc (wrap64 (Ve + 1)) zh Pa Sa aaf)=some (r1,r2,r3,r4):=by first|(rw [CL];with_reducible exact H)|(have Ld:=(Option.bind_some _ _).symm.trans H;rw [CL];with_reducible exact Ld)|(have Ld:=(Option.bind_some _ _).symm.trans H;with_reducible exact Ld)|with_reducible exact H|(rw [CL];exact H)|exact H
             have aam:=aa.mk CL;clear CL;have H':=aa.mk H;clear H;have caD:=Uf.out;have taC:=Fc.out;have baD:=fh.out;have saC:=ig.out;obtain ⟨iau,hau,gau,fau,uaq,taq,saq,raq⟩:=bT ic.out;obtain ⟨RaI,uac,yaz⟩:=Kd.Lc jc.out;subst yaz;have qN:0 ≤ (Ve:Int):=Va;have nN:Ve < (Mb.length:Int):=Va;obtain ⟨oM,nac,UH,TH,SH,RH,QH⟩:=yh (Kd.Jb jc.out).2.2 Ve qN nN;cases nac;replace qN:=eq_true qN;replace nN:=eq_true nN
             try go_wp2_with (first|((with_reducible refine Cb (f:=65) rfl ?_);refine Jc (some 84) rfl rfl Try.func65 (by kernel_rfl) rfl #[.agg #[.int .i64 ((Wa Mb Ve).f0),.int .i64 ((Wa Mb Ve).f1),.int .i64 ((Wa Mb Ve).f2),.int .i64 ((Wa Mb Ve).f3),.int .i64 ((Wa Mb Ve).f4)]] rfl laK ?_;(with_reducible refine (Jj.calls ((Wa Mb Ve).f0) ((Wa Mb Ve).f1) ((Wa Mb Ve).f2) ((Wa Mb Ve).f3) ((Wa Mb Ve).f4) true _ A64.out).mono ?_);rintro e GY ⟨rfl,hb⟩;refine ⟨_,rfl,?_⟩;have Bb:=aa.mk (Kd.Yb SaK hb);have Db:=aa.mk (Kd.Yb VaK hb);have Ib:=aa.mk (Kd.Yb KaK hb);have Xb:=aa.mk (Na (g:=ya) (o:=.cells #[.slice yb Ua.length zb,.int .i64 Pa,.int .i64 Ra,.int .i64 Sa,.slice fc Fa.length Qb] 30 (0,0)) kaK hb);have De:=aa.mk (Na (g:=Ta) (o:=.cells #[.slice none 0 0,.int .i64 0,.int .i64 0,.slice none 0 0] 49 (0,0)) qaK hb);have ef:=aa.mk (Na (g:=uc) (o:=.cells #[.slice Wk zh.length Uk,.int .i64 Pa,.int .i64 Sa,.slice (some oM) Mb.length uac] 49 (0,0)) zaK hb);have Cf:=aa.mk (Ma uaK hb);clear ai Xc jc ta Ea ic HB;have ai:=Bb;have Xc:=Db;have jc:=Ib;have ta:=Xb;have Ea:=De;have ic:=ef;have HB:=Cf;clear Bb Db Ib Xb De ef Cf;(try clear hb);(try clear ek);(try clear hk);(try clear hi)))
             have Bb:=aa.mk (Kd.gb ai.out);have Db:=aa.mk (Kd.gb Xc.out);have Ib:=aa.mk (Kd.gb jc.out);have Xb:=aa.mk (Ba ta.out);have De:=aa.mk (Ba Ea.out);have ef:=aa.mk (Ba ic.out);have Cf:=aa.mk (oa HB.out);clear ai Xc jc ta Ea ic HB;have ai:=Bb;have Xc:=Db;have jc:=Ib;have ta:=Xb;have Ea:=De;have ic:=ef;have HB:=Cf;clear Bb Db Ib Xb De ef Cf;have saa:0 ≤ (Ve:Int):=Va;have oaa:Ve < (Mb.length:Int):=Va;obtain ⟨Mal,Iaz,OH,NH,MH,LH,KH⟩:=yh (Kd.Jb jc.out).2.2 Ve saa oaa;obtain rfl:oM=Mal:=(by injection Iaz);replace saa:=eq_true saa;replace oaa:=eq_true oaa;obtain ⟨QaI,kaH,Iak⟩:=Kd.Lc ai.out;(first|subst Iak|(injection Iak with ey vG dy;have uG:=ey.symm;have sG:=dy.symm;clear ey vG dy;subst uG;subst sG));have raa:0 ≤ (((Wa Mb Ve).f4):Int):=Va;have naa:((Wa Mb Ve).f4) < (Vc.length:Int):=Va;obtain ⟨Lal,Haz,eP⟩:=Kd.Bm (Kd.Jb ai.out).2.2 ((Wa Mb Ve).f4) raa naa;cases Haz;replace raa:=eq_true raa;replace naa:=eq_true naa;have p68:0 ≤ (Ve:Int):=Va;have q68:(Ve:Int) < ((Mb.length:Int):Int):=Va;obtain ⟨ru,laH,Jak,Bak,oaz,oaH,jan⟩:=Kd.Kn jc.out (by omega);(first|cases Jak|(injection Jak with vp YJ ZJ;(first|subst vp|(injection vp with vp;subst vp));subst ZJ;clear YJ));have haB:=aa.mk Bak;have fae:=aa.mk jan;clear Bak oaz jan;(first|simp only [add_plain] at UH|skip);(first|simp only [add_plain] at TH|skip);(first|simp only [add_plain] at SH|skip);(first|simp only [add_plain] at RH|skip);(first|simp only [add_plain] at QH|skip);(first|simp only [add_plain] at OH|skip);(first|simp only [add_plain] at NH|skip);(first|simp only [add_plain] at MH|skip);(first|simp only [add_plain] at LH|skip);(first|simp only [add_plain] at KH|skip);obtain ⟨waH,Waj,hak,XG,SG⟩:=Kd.Xg jc.out PK (Ve:Int) p68 q68;obtain rfl:=Wh hak;have Maa:World.cell? _ ⟨ru,(Ve:Int).toNat * 5,none⟩=some (.int .i64 ((Wa Mb Ve).f0)):=XG 0 _ rfl;have Laa:World.cell? _ ⟨ru,(Ve:Int).toNat * 5 + 1,none⟩=some (.int .i64 ((Wa Mb Ve).f1)):=XG 1 _ rfl;have Kaa:World.cell? _ ⟨ru,(Ve:Int).toNat * 5 + 2,none⟩=some (.int .i64 ((Wa Mb Ve).f2)):=XG 2 _ rfl;have Jaa:World.cell? _ ⟨ru,(Ve:Int).toNat * 5 + 3,none⟩=some (.int .i64 ((Wa Mb Ve).f3)):=XG 3 _ rfl;have Iaa:World.cell? _ ⟨ru,(Ve:Int).toNat * 5 + 4,none⟩=some (.int .i64 ((Wa Mb Ve).f4)):=XG 4 _ rfl;have zab:World.frozen? _ ⟨ru,(Ve:Int).toNat * 5,none⟩=false:=SG 0;have yab:World.frozen? _ ⟨ru,(Ve:Int).toNat * 5 + 1,none⟩=false:=SG 1;have xab:World.frozen? _ ⟨ru,(Ve:Int).toNat * 5 + 2,none⟩=false:=SG 2;have wab:World.frozen? _ ⟨ru,(Ve:Int).toNat * 5 + 3,none⟩=false:=SG 3;have vab:World.frozen? _ ⟨ru,(Ve:Int).toNat * 5 + 4,none⟩=false:=SG 4;clear Waj XG SG hak;replace p68:=eq_true p68;replace q68:=eq_true q68;obtain ⟨uaH,N8,fak,e9,cai⟩:=Kd.Xg jc.out PK (Ve:Int) (Va) (by have h_:(Ve:Int) < ((Mb.length:Int):Int):=Va;first|exact h_|(have e_:=(Kd.Jb jc.out).1;omega)|simpa using h_);obtain rfl:=Wh fak;have zad:=(Kd.Jo jc.out (Ve:Int) (Va) (by have h_:(Ve:Int) < ((Mb.length:Int):Int):=Va;first|exact h_|(have e_:=(Kd.Jb jc.out).1;omega)|simpa using h_) (seg:=[.int .i64 (rd Vc ((Wa Mb Ve).f4))]) (j:=4) N8 e9 (show 5 ≤ 5 from by decide) (x':=(⟨(Wa Mb Ve).f0,(Wa Mb Ve).f1,(Wa Mb Ve).f2,(Wa Mb Ve).f3,rd Vc ((Wa Mb Ve).f4)⟩:Zb)) (af _ _ _ (⟨(Wa Mb Ve).f0,(Wa Mb Ve).f1,(Wa Mb Ve).f2,(Wa Mb Ve).f3,rd Vc ((Wa Mb Ve).f4)⟩:Zb) ) (fun _ hk=>hk)).1;rw [← aam.out] at zad;have Fam:=aa.mk zad;clear N8 e9 cai fak zad;refine Gh (n:=15) (S:=fun w'=>w'.cell? ⟨uc,0,none⟩=some (.slice Wk zh.length Uk)∧w'.cell? ⟨uc,1,none⟩=some (.int .i64 Pa)∧w'.cell? ⟨uc,2,none⟩=some (.int .i64 Sa)∧w'.cell? ⟨uc,3,none⟩=some (.slice (some ⟨ru,0,none⟩) Mb.length uac)∧w'.cell? ⟨ru,((Ve).toNat * 5),none⟩=some (.int .i64 ((Wa Mb Ve).f0))∧w'.cell? ⟨ru,((Ve).toNat * 5) + 1,none⟩=some (.int .i64 ((Wa Mb Ve).f1))∧w'.cell? ⟨ru,((Ve).toNat * 5) + 2,none⟩=some (.int .i64 ((Wa Mb Ve).f2))∧w'.cell? ⟨ru,((Ve).toNat * 5) + 3,none⟩=some (.int .i64 ((Wa Mb Ve).f3))∧w'.cell? ⟨ru,((Ve).toNat * 5) + 4,none⟩=some (.int .i64 ((Wa Mb Ve).f4))∧w'.cell? (Lal.add (((Wa Mb Ve).f4)).toNat)=some (.int .i64 (rd Vc ((Wa Mb Ve).f4)))) (ds:=[14]) #[false,false,false,false,false,false,false,false,false,false,false,false,false,false,false] (by kernel_rfl) rfl rfl ⟨(ja ic.out 0).trans rfl,(ja ic.out 1).trans rfl,(ja ic.out 2).trans rfl,(ja ic.out 3).trans rfl,OH,NH,MH,LH,KH,eP⟩ (fun hHeld=>?_);refine Jg Pb.haf Pb.Xac (fun Vd dm=>?_);generalize GY.drew=w74 at ai Xc jc ta Ea ic HB fae Fam zab yab xab wab vab UH TH SH RH QH OH NH MH LH KH eP Maa Laa Kaa Jaa Iaa hHeld ⊢;refine ec (i:=0) (N:=some 85) (v:=?_) (a':=?_) #[true,false,false,false,false,false,false,false,false,false,false,false,false,false,false] rfl rfl (dc Vd.out (by kernel_rfl)) (fun _ _ _ h=>h) (Or.inl ⟨by rfl,?_⟩) ?_ ?_;rotate_left
             ·exact XaJ
             rotate_left
             ·exact WaJ
             refine ec (i:=2) (N:=some 87) (v:=?_) (a':=?_) #[true,false,true,false,false,false,false,false,false,false,false,false,false,false,false] rfl rfl (dc Vd.out (by kernel_rfl)) (fun _ _ _ h=>h) (Or.inl ⟨by rfl,?_⟩) ?_ ?_;rotate_left
             ·exact XaJ
             rotate_left
             ·exact WaJ
             refine ec (i:=3) (N:=some 88) (v:=?_) (a':=?_) #[true,false,true,true,false,false,false,false,false,false,false,false,false,false,false] rfl rfl (dc Vd.out (by kernel_rfl)) (fun _ _ _ h=>h) (Or.inl ⟨by rfl,?_⟩) ?_ ?_;rotate_left
             ·exact XaJ
             rotate_left
             ·exact WaJ
             refine ec (i:=4) (N:=some 89) (v:=?_) (a':=?_) #[true,false,true,true,true,false,false,false,false,false,false,false,false,false,false] rfl rfl (dc Vd.out (by kernel_rfl)) (fun _ _ _ h=>h) (Or.inl ⟨by rfl,?_⟩) ?_ ?_;rotate_left
             ·exact XaJ
             rotate_left
             ·exact WaJ
             refine ec (i:=6) (N:=some 91) (v:=?_) (a':=?_) #[true,false,true,true,true,false,true,false,false,false,false,false,false,false,false] rfl rfl (dc Vd.out (by kernel_rfl)) (fun _ _ _ h=>h) (Or.inl ⟨by rfl,?_⟩) ?_ ?_;rotate_left
             ·exact XaJ
             rotate_left
             ·exact WaJ
             refine Pe (i:=1) (N:=some 86) (v:=?_) (a':=?_) #[true,true,true,true,true,false,true,false,false,false,false,false,false,false,false] rfl rfl (Ad Vd.out dm.out (by kernel_rfl)) (fun _ _ _ h=>h) (Or.inl ⟨by rfl,?_⟩) hHeld ?_ ?_;rotate_left
             ·exact baK
             rotate_left
             ·exact WaJ
             refine Pe (i:=5) (N:=some 90) (v:=?_) (a':=?_) #[true,true,true,true,true,true,true,false,false,false,false,false,false,false,false] rfl rfl (Ad Vd.out dm.out (by kernel_rfl)) (fun _ _ _ h=>h) (Or.inl ⟨by rfl,?_⟩) hHeld ?_ ?_;rotate_left
             ·exact baK
             rotate_left
             ·exact WaJ
             refine ec (i:=7) (N:=some 92) (v:=?_) (a':=?_) #[true,true,true,true,true,true,true,true,false,false,false,false,false,false,false] rfl rfl (dc Vd.out (by kernel_rfl)) (fun _ _ _ h=>h) (Or.inl ⟨by rfl,?_⟩) ?_ ?_;rotate_left
             ·exact XaJ
             rotate_left
             ·exact WaJ
             refine ec (i:=8) (N:=some 93) (v:=?_) (a':=?_) #[true,true,true,true,true,true,true,true,true,false,false,false,false,false,false] rfl rfl (dc Vd.out (by kernel_rfl)) (fun _ _ _ h=>h) (Or.inl ⟨by rfl,?_⟩) ?_ ?_;rotate_left
             ·exact XaJ
             rotate_left
             ·exact WaJ
             refine Pe (i:=9) (N:=some 94) (v:=?_) (a':=?_) #[true,true,true,true,true,true,true,true,true,true,false,false,false,false,false] rfl rfl (Ad Vd.out dm.out (by kernel_rfl)) (fun _ _ _ h=>h) (Or.inl ⟨by rfl,?_⟩) hHeld ?_ ?_;rotate_left
             ·exact baK
             rotate_left
             ·exact WaJ
             refine ec (i:=10) (N:=some 95) (v:=?_) (a':=?_) #[true,true,true,true,true,true,true,true,true,true,true,false,false,false,false] rfl rfl (dc Vd.out (by kernel_rfl)) (fun _ _ _ h=>h) (Or.inl ⟨by rfl,?_⟩) ?_ ?_;rotate_left
             ·exact XaJ
             rotate_left
             ·exact WaJ
             refine Pe (i:=11) (N:=some 96) (v:=?_) (a':=?_) #[true,true,true,true,true,true,true,true,true,true,true,true,false,false,false] rfl rfl (Ad Vd.out dm.out (by kernel_rfl)) (fun _ _ _ h=>h) (Or.inl ⟨by rfl,?_⟩) hHeld ?_ ?_;rotate_left
             ·exact baK
             rotate_left
             ·exact WaJ
             refine ec (i:=12) (N:=some 97) (v:=?_) (a':=?_) #[true,true,true,true,true,true,true,true,true,true,true,true,true,false,false] rfl rfl (dc Vd.out (by kernel_rfl)) (fun _ _ _ h=>h) (Or.inl ⟨by rfl,?_⟩) ?_ ?_;rotate_left
             ·exact XaJ
             rotate_left
             ·exact WaJ
             refine ec (i:=13) (N:=some 98) (v:=?_) (a':=?_) #[true,true,true,true,true,true,true,true,true,true,true,true,true,true,false] rfl rfl (dc Vd.out (by kernel_rfl)) (fun _ _ _ h=>h) (Or.inl ⟨by rfl,?_⟩) ?_ ?_;rotate_left
             ·exact XaJ
             rotate_left
             ·exact WaJ
             refine aC (i:=14) (N:=none) #[true,true,true,true,true,true,true,true,true,true,true,true,true,true,true] rfl rfl (Wg Vd.out (by kernel_rfl)) (by decide) (fun K hK=>?_);refine DE (w1:=?_) (by rfl) rfl ?_ ?_;rotate_left
             ·go_simp
              rfl
             refine hK.out _ _ ?_;clear hK K;refine fk (si Vd.out (by kernel_rfl)) ?_
             try go_wp2
             go_roundg k2
             case measure=>have:=Vg.out;have:=KF.out;omega
             case rel=>exact ⟨(wrap64 (Ve + 1)),(aaf),(.slice (some ⟨ru,0,none⟩) Mb.length uac),saK,H',⟨by have:=Vg.out;have:=KF.out;omega⟩,⟨by (with_reducible repeat (first|apply Kd.Xa|apply Kd.Ya|apply Kd.gb));exact Kd.yc (Kd.zf (p:=⟨ru,(Ve:Int).toNat * 5 + 4,none⟩) (Kd.nh ai.out fae.out (by decide)) (fun _ hk=>hk.2) (.int .i64 (rd Vc ((Wa Mb Ve).f4)))) (fun _ hk=>hk.1)⟩,⟨by (with_reducible repeat (first|apply Kd.Xa|apply Kd.Ya|apply Kd.gb));exact Kd.yc (Kd.zf (p:=⟨ru,(Ve:Int).toNat * 5 + 4,none⟩) (Kd.nh Xc.out fae.out (by decide)) (fun _ hk=>hk.2) (.int .i64 (rd Vc ((Wa Mb Ve).f4)))) (fun _ hk=>hk.1)⟩,⟨by (with_reducible repeat (first|apply Kd.Xa|apply Kd.Ya|apply Kd.gb));exact Fam.out⟩,⟨by (with_reducible repeat (first|refine za ?_ _|refine Ba ?_|refine Aa ?_ _));refine Qd ?_ (by have h_:=Kd.Yh jc.out ta.out (by decide);intro e_;exact h_ (by rw [e_];rfl)) _;(with_reducible repeat (first|refine za ?_ _|refine Ba ?_|refine Aa ?_ _));exact ta.out⟩,⟨by (with_reducible repeat (first|refine za ?_ _|refine Ba ?_|refine Aa ?_ _));refine Qd ?_ (by have h_:=Kd.Yh jc.out Ea.out (by decide);intro e_;exact h_ (by rw [e_];rfl)) _;(with_reducible repeat (first|refine za ?_ _|refine Ba ?_|refine Aa ?_ _));exact Ea.out⟩,⟨by (with_reducible repeat (first|refine za ?_ _|refine Ba ?_|refine Aa ?_ _));refine Qd ?_ (by have h_:=Kd.Yh jc.out ic.out (by decide);intro e_;exact h_ (by rw [e_];rfl)) _;(with_reducible repeat (first|refine za ?_ _|refine Ba ?_|refine Aa ?_ _));exact ic.out⟩,⟨by repeat (first|(with_reducible first|exact HB.out|apply ia|apply ga|apply oa|refine ua ?_ haB.out|refine ua ?_ Qa.out|refine ua ?_ Lb.out|refine ua ?_ Rg.out)|exact HB.out)⟩⟩
            ·rw [if_neg K5] at H;exact absurd H (by simp)
           ·rw [if_neg L5] at H;exact absurd H (by simp)
          ·replace uT:=Bool.eq_false_iff.mpr uT;subst uT;rw [if_neg (show ¬ (false=true) by decide)] at H;have H':=aa.mk H;clear H;have nag:=Uf.out;have Xaf:=Fc.out;have ZaC:=fh.out;have qaC:=ig.out;obtain ⟨Gat,Fat,Eat,Dat,Vap,Uap,Tap,Sap⟩:=bT ic.out;obtain ⟨OaI,Sak,waz⟩:=Kd.Lc jc.out;subst waz;have qN:0 ≤ (Ve:Int):=Va;have nN:Ve < (Mb.length:Int):=Va;obtain ⟨oM,nac,UH,TH,SH,RH,QH⟩:=yh (Kd.Jb jc.out).2.2 Ve qN nN;cases nac;replace qN:=eq_true qN;replace nN:=eq_true nN;go_wp2_with (first|((with_reducible refine Cb (f:=65) rfl ?_);refine Jc (some 84) rfl rfl Try.func65 (by kernel_rfl) rfl #[.agg #[.int .i64 ((Wa Mb Ve).f0),.int .i64 ((Wa Mb Ve).f1),.int .i64 ((Wa Mb Ve).f2),.int .i64 ((Wa Mb Ve).f3),.int .i64 ((Wa Mb Ve).f4)]] rfl laK ?_;(with_reducible refine (Jj.calls ((Wa Mb Ve).f0) ((Wa Mb Ve).f1) ((Wa Mb Ve).f2) ((Wa Mb Ve).f3) ((Wa Mb Ve).f4) false _ A64.out).mono ?_);rintro e w81 ⟨rfl,hb⟩;refine ⟨_,rfl,?_⟩;have Bb:=aa.mk (Kd.Yb SaK hb);have Db:=aa.mk (Kd.Yb VaK hb);have Ib:=aa.mk (Kd.Yb KaK hb);have Xb:=aa.mk (Na (g:=ya) (o:=.cells #[.slice yb Ua.length zb,.int .i64 Pa,.int .i64 Ra,.int .i64 Sa,.slice fc Fa.length Qb] 30 (0,0)) kaK hb);have De:=aa.mk (Na (g:=Ta) (o:=.cells #[.slice none 0 0,.int .i64 0,.int .i64 0,.slice none 0 0] 49 (0,0)) qaK hb);have ef:=aa.mk (Na (g:=uc) (o:=.cells #[.slice Wk zh.length Uk,.int .i64 Pa,.int .i64 Sa,.slice (some oM) Mb.length Sak] 49 (0,0)) zaK hb);have Cf:=aa.mk (Ma uaK hb);clear ai Xc jc ta Ea ic HB;have ai:=Bb;have Xc:=Db;have jc:=Ib;have ta:=Xb;have Ea:=De;have ic:=ef;have HB:=Cf;clear Bb Db Ib Xb De ef Cf;(try clear hb);(try clear ek);(try clear hk);(try clear hi)))
           go_roundg k2
           case measure=>have:=Vg.out;have:=KF.out;omega
           case rel=>exact ⟨(wrap64 (Ve + 1)),(Mb),(.slice (some oM) Mb.length Sak),saK,H',⟨by have:=Vg.out;have:=KF.out;omega⟩,⟨by (with_reducible repeat (first|apply Kd.Xa|apply Kd.Ya|apply Kd.gb));exact ai.out⟩,⟨by (with_reducible repeat (first|apply Kd.Xa|apply Kd.Ya|apply Kd.gb));exact Xc.out⟩,⟨by (with_reducible repeat (first|apply Kd.Xa|apply Kd.Ya|apply Kd.gb));exact jc.out⟩,⟨taK⟩,⟨xaK⟩,⟨daL⟩,⟨IaK⟩⟩
         ·rw [if_neg c63] at H;exact absurd H (by simp)
        ·rw [if_neg c62] at H;have jal:decide (Ve < (Mb.length:Int))=false:=decide_eq_false c62;clear c62;simp only [Option.some.injEq,Prod.mk.injEq] at H;obtain ⟨rfl,rfl,rfl,rfl⟩:=H;have WaC:=Uf.out;have naC:=Fc.out;have lag:=fh.out;have Waf:=ig.out;obtain ⟨B2,Z1,Y1,X1,zZ,yZ,xZ,wZ⟩:=bT ic.out;obtain ⟨jae,sac,vaz⟩:=Kd.Lc jc.out;subst vaz;have VaC:=qb.out;have maC:=xb.out;obtain ⟨gat,fat,eat,bat,yap,xap,wap,vap⟩:=bT Ea.out;go_wp2;refine bodyPost_ret (results_cell_row rfl _ _ Ta 49 #[.slice Wk zh.length Uk,.int .i64 Pa,.int .i64 Sa,.slice jae Mb.length sac] (0,0) _ rfl (by (with_reducible repeat (first|refine za ?_ _|refine Ba ?_|refine Aa ?_ _));refine zd (cs:=#[.slice Wk zh.length Uk,.int .i64 Pa,.int .i64 Sa,.slice none 0 0]) ?_ 3 _ rfl;(with_reducible repeat (first|refine za ?_ _|refine Ba ?_|refine Aa ?_ _));refine zd (cs:=#[.slice Wk zh.length Uk,.int .i64 Pa,.int .i64 0,.slice none 0 0]) ?_ 2 _ rfl;(with_reducible repeat (first|refine za ?_ _|refine Ba ?_|refine Aa ?_ _));refine zd (cs:=#[.slice Wk zh.length Uk,.int .i64 0,.int .i64 0,.slice none 0 0]) ?_ 1 _ rfl;(with_reducible repeat (first|refine za ?_ _|refine Ba ?_|refine Aa ?_ _));refine zd (cs:=#[.slice none 0 0,.int .i64 0,.int .i64 0,.slice none 0 0]) ?_ 0 _ rfl;(with_reducible repeat (first|refine za ?_ _|refine Ba ?_|refine Aa ?_ _));exact Ea.out) Try.underlying49 rfl (by kernel_rfl)) rfl ?_;exact ⟨_,_,naK,by (with_reducible repeat (first|apply Kd.Xa|apply Kd.Ya|apply Kd.gb));exact Kd.yc (Kd.zf (p:=⟨Ta,3,none⟩) (Kd.zf (p:=⟨Ta,2,none⟩) (Kd.zf (p:=⟨Ta,1,none⟩) (Kd.zf (p:=⟨Ta,0,none⟩) (Kd.nh Xc.out Ea.out (by decide)) (fun _ hk=>hk.2) (.slice Wk zh.length Uk)) (fun _ hk=>hk.2) (.int .i64 Pa)) (fun _ hk=>hk.2) (.int .i64 Sa)) (fun _ hk=>hk.2) (.slice jae Mb.length sac)) (fun _ hk=>trivial),by (with_reducible repeat (first|apply Kd.Xa|apply Kd.Ya|apply Kd.gb));exact Kd.yc (Kd.zf (p:=⟨Ta,3,none⟩) (Kd.zf (p:=⟨Ta,2,none⟩) (Kd.zf (p:=⟨Ta,1,none⟩) (Kd.zf (p:=⟨Ta,0,none⟩) (Kd.nh jc.out Ea.out (by decide)) (fun _ hk=>hk.2) (.slice Wk zh.length Uk)) (fun _ hk=>hk.2) (.int .i64 Pa)) (fun _ hk=>hk.2) (.int .i64 Sa)) (fun _ hk=>hk.2) (.slice jae Mb.length sac)) (fun _ hk=>trivial),IaK⟩
  ·rw [if_neg c4] at H;exact absurd H (by simp)
 ·replace c3:=Bool.eq_false_iff.mpr c3;subst c3;rw [if_neg (show ¬ (false=true) by decide)] at H;simp only [Option.some.injEq,Prod.mk.injEq] at H;obtain ⟨rfl,rfl,rfl,rfl⟩:=H;go_enter Try.func33,Try.ntmps33;go_wp2_with (first|((with_reducible refine Za (N:=1) rfl ?_);refine Ab ?hg (N:=1) ?hd (cs:=#[.slice yb Ua.length zb,.int .i64 Pa,.int .i64 Ra,.int .i64 Sa,.slice fc Fa.length Qb]) (t:=30) ?hr ?_;(case hd|hg=>rfl);(case hr=>exact gaK);intro ya hg w88 Fb hb;have Bb:=aa.mk (Ma jaK hb);have Db:=aa.mk (Fb);have Ib:=aa.mk ((by rw [hg];exact (Da jaK):w.heap.size ≤ ya));have Xb:=aa.mk ((by rw [hg];exact (Da jaK):w.heap.size ≤ ya));clear HB;have HB:=Bb;have ta:=Db;have Jd:=Ib;have Qa:=Xb;clear Bb Db Ib Xb hb Fb hg)|((with_reducible refine Za (N:=2) rfl ?_);refine Ab ?hg (N:=2) ?hd (cs:=#[.slice none 0 0,.int .i64 0,.int .i64 0,.slice none 0 0]) (t:=49) ?hr ?_;(case hd|hg=>rfl);(case hr=>exact gaK);intro Ta hg w89 Fb hb;have Bb:=aa.mk (Na (g:=ya) (o:=.cells #[.slice yb Ua.length zb,.int .i64 Pa,.int .i64 Ra,.int .i64 Sa,.slice fc Fa.length Qb] 30 (0,0)) kaK hb);have Db:=aa.mk (Ma iaK hb);have Ib:=aa.mk (Fb);have Xb:=aa.mk ((by rw [hg];exact (Da iaK):w.heap.size ≤ Ta));have De:=aa.mk ((by rw [hg];exact (Da iaK):w.heap.size ≤ Ta));have ef:=aa.mk ((by rw [hg];exact Nat.ne_of_lt (Tb (g:=ya) (o:=.cells #[.slice yb Ua.length zb,.int .i64 Pa,.int .i64 Ra,.int .i64 Sa,.slice fc Fa.length Qb] 30 (0,0)) kaK):ya ≠ Ta));have Cf:=aa.mk ((by rw [hg];exact Nat.ne_of_gt (Tb (g:=ya) (o:=.cells #[.slice yb Ua.length zb,.int .i64 Pa,.int .i64 Ra,.int .i64 Sa,.slice fc Fa.length Qb] 30 (0,0)) kaK):Ta ≠ ya));clear ta HB;have ta:=Bb;have HB:=Db;have Ea:=Ib;have bh:=Xb;have Lb:=De;have xb:=ef;have qb:=Cf;clear Bb Db Ib Xb De ef Cf hb Fb hg;have SaC:=xb.out;have jaC:=qb.out;have Mas:w89.cell? ⟨ya,0,none⟩=some (.slice yb Ua.length zb):=(ja ta.out 0).trans rfl;have Las:w89.cell? ⟨ya,1,none⟩=some (.int .i64 Pa):=(ja ta.out 1).trans rfl;have Kas:w89.cell? ⟨ya,2,none⟩=some (.int .i64 Ra):=(ja ta.out 2).trans rfl;have Jas:w89.cell? ⟨ya,3,none⟩=some (.int .i64 Sa):=(ja ta.out 3).trans rfl;have Ias:w89.cell? ⟨ya,4,none⟩=some (.slice fc Fa.length Qb):=(ja ta.out 4).trans rfl;have aap:=qa ta.out 0;have Zao:=qa ta.out 1;have Yao:=qa ta.out 2;have Xao:=qa ta.out 3;have Wao:=qa ta.out 4)|((with_reducible refine Cb (f:=40) rfl ?_);refine Jc (some 9) rfl rfl Try.func40 (by kernel_rfl) rfl #[.agg #[.slice yb Ua.length zb,.int .i64 Pa,.int .i64 Ra,.int .i64 Sa,.slice fc Fa.length Qb]] rfl laK ?_;(with_reducible refine (Sb.calls k _ _ Ua Pa Ra Sa _ _ Fa false _ ?Ic ?Gc ?Ae ?ze A2.out).mono ?_);(case Ic=>repeat (first|exact (Kd.Kb lf.out HB.out)|(with_reducible refine Kd.Vb ?_ _)|(with_reducible refine Kd.Ub ?_ _)|(with_reducible refine Kd.tc ?_)));(case Gc=>exact Df.out);(case Ae=>repeat (first|exact (Kd.Kb Tg.out HB.out)|(with_reducible refine Kd.Vb ?_ _)|(with_reducible refine Kd.Ub ?_ _)|(with_reducible refine Kd.tc ?_)));(case ze=>exact Ej.out);rintro e w92 ⟨rfl,hb⟩;refine ⟨_,rfl,?_⟩;have Bb:=aa.mk (Na (g:=ya) (o:=.cells #[.slice yb Ua.length zb,.int .i64 Pa,.int .i64 Ra,.int .i64 Sa,.slice fc Fa.length Qb] 30 (0,0)) kaK hb);have Db:=aa.mk (Na (g:=Ta) (o:=.cells #[.slice none 0 0,.int .i64 0,.int .i64 0,.slice none 0 0] 49 (0,0)) qaK hb);have Ib:=aa.mk (Ma paK hb);clear ta Ea HB;have ta:=Bb;have Ea:=Db;have HB:=Ib;clear Bb Db Ib;(try clear hb);(try clear ek);(try clear hk);(try clear hi);have Gas:w92.cell? ⟨Ta,0,none⟩=some (.slice none 0 0):=(ja Ea.out 0).trans rfl;have Fas:w92.cell? ⟨Ta,1,none⟩=some (.int .i64 0):=(ja Ea.out 1).trans rfl;have Eas:w92.cell? ⟨Ta,2,none⟩=some (.int .i64 0):=(ja Ea.out 2).trans rfl;have Das:w92.cell? ⟨Ta,3,none⟩=some (.slice none 0 0):=(ja Ea.out 3).trans rfl;have Vao:=qa Ea.out 0;have Uao:=qa Ea.out 1;have Tao:=qa Ea.out 2;have Sao:=qa Ea.out 3));refine bodyPost_ret (results_cell_row rfl _ _ Ta 49 #[.slice none 0 0,.int .i64 0,.int .i64 0,.slice none 0 0] (0,0) _ rfl OaK Try.underlying49 rfl (by kernel_rfl)) rfl ?_;exact ⟨_,_,naK,UaK,UaK,maK⟩
end Go.Proofs.Ytkigbdceceeenaa.P
