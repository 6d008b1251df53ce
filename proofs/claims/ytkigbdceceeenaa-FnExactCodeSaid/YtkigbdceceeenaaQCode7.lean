import Derived.Test.YtkigbdceceeenaaQCode1
import Derived.Test.YtkigbdceceeenaaQCode6
import Derived.Shelf.Abstract
import Derived.Outline
import Derived.RegionTactic
set_option maxHeartbeats 8000000
set_option maxRecDepth 100000
section
namespace Go.Proofs.Ytkigbdceceeenaa.P
open Go.RowKit Go.Proofs.Oa.Rb Go.Proofs.Oa.Pd Go.Proofs.Oa.Re
set_option linter.unusedVariables false
set_option linter.unusedSimpArgs false
attribute [local go_sem] Mh ki rj Kj th qh ni ji
mutual
def Xd.j0:Nat→List Int→Int→Bool→Int→Int→Int→Int→Int→Int→ByteArray→Option (List Int)
 | 0,_,_,_,_,_,_,_,_,_,_=>none
 | k + 1,x3,x6,x7,qe,Ie,Wd,me,Qc,Xy,Wy=>if x7=true then (if x3.length < 17592186044416 then (some (x3 ++ [Wd])) else (none)) else (if x6=2 then ((some (([Wd,me]:List Int):List Int)).bind fun tj=>(if x3.length + tj.length < 17592186044416 then (some (x3 ++ tj)) else (none))) else (if x6=3 then (Xd.j1 k x3 (x6 == 3) qe Ie Wd me Qc Xy Wy) else (Xd.j1 k x3 (x6 == 4) qe Ie Wd me Qc Xy Wy)))
def Xd.j1:Nat→List Int→Bool→Int→Int→Int→Int→Int→Int→ByteArray→Option (List Int)
 | 0,_,_,_,_,_,_,_,_,_=>none
 | k + 1,x3,x24,qe,Ie,Wd,me,Qc,Xy,Wy=>if x24=true then (if x3.length < 17592186044416 then ((some (x3 ++ [me]:List Int)).bind fun Bn=>(if Wd ≥ 0 then (if Bn.length < 17592186044416 then ((some (Bn ++ [Wd]:List Int)).bind fun Nx=>(if qe=4 then (if Nx.length < 17592186044416 then (some (Nx ++ [Qc])) else (none)) else (some Nx))) else (none)) else (if qe=4 then (if Bn.length < 17592186044416 then (some (Bn ++ [Qc])) else (none)) else (some Bn)))) else (none)) else (some x3)
end
def Xd.f (k:Nat) (Nb:Int) (Pa:Int) (Ra:Int) (Sa:Int) (Eb:Int) (qc:Int) (Cc:ByteArray):Option (List Int):=(some (([]:List Int):List Int)).bind fun Rc=>(if Nb=1 then (Xd.j0 k Rc Nb (Nb == 1) Nb Pa Ra Sa Eb qc Cc) else (Xd.j0 k Rc Nb (Nb == 6) Nb Pa Ra Sa Eb qc Cc))
theorem Xd.calls (k:Nat) (Nb:Int) (Pa:Int) (Ra:Int) (Sa:Int) (Eb:Int) (qc:Int) (Cc:ByteArray) (r:List Int) (w:World) (h:Xd.f k Nb Pa Ra Sa Eb qc Cc=some r) :
  Calls Try.prog 88 #[.agg #[.int .i64 Nb,.int .i64 Pa,.int .i64 Ra,.int .i64 Sa,.int .i64 Eb,.int .i64 qc,.string Cc]] w fun e w'=>∃ Zn:Value,e = .returned (Zn)∧Kd.R (Kd.int .i64) 3 w' w.heap.size (fun _=>True) Zn r∧Below w.heap.size w w':=by
 have CC:=Try.underlying65;have HB:=aa.mk (Below.refl w.heap.size w);have H:((some (([]:List Int):List Int)).bind fun Rc=>(if Nb=1 then (Xd.j0 k Rc Nb (Nb == 1) Nb Pa Ra Sa Eb qc Cc) else (Xd.j0 k Rc Nb (Nb == 6) Nb Pa Ra Sa Eb qc Cc)))=some r:=h;clear h;obtain ⟨Rc,zg⟩:∃ y_:List Int,y_=(([]:List Int)):=⟨_,rfl⟩;replace H:(if Nb=1 then (Xd.j0 k Rc Nb (Nb == 1) Nb Pa Ra Sa Eb qc Cc) else (Xd.j0 k Rc Nb (Nb == 6) Nb Pa Ra Sa Eb qc Cc))=some r:=by first|(rw [zg];with_reducible exact H)|(have Ld:=(Option.bind_some _ _).symm.trans H;rw [zg];with_reducible exact Ld)|(have Ld:=(Option.bind_some _ _).symm.trans H;with_reducible exact Ld)|with_reducible exact H|(rw [zg];exact H)|exact H
 have Qh:=aa.mk zg;clear zg;have yY:=aa.mk H;clear H;go_enter Try.func88,Try.ntmps88
 go_upto_if 7 with (first|((with_reducible refine Za (N:=1) rfl ?_);refine Ab ?hg (N:=1) ?hd (cs:=#[.int .i64 Nb,.int .i64 Pa,.int .i64 Ra,.int .i64 Sa,.int .i64 Eb,.int .i64 qc,.string Cc]) (t:=65) ?hr ?_;(case hd|hg=>rfl);(case hr=>exact gaK);intro ya hg w3 Fb hb;have Bb:=aa.mk (Ma jaK hb);have Db:=aa.mk (Fb);have Ib:=aa.mk ((by rw [hg];exact (Da jaK):w.heap.size ≤ ya));have Xb:=aa.mk ((by rw [hg];exact (Da jaK):w.heap.size ≤ ya));clear HB;have HB:=Bb;have ta:=Db;have Jd:=Ib;have Qa:=Xb;clear Bb Db Ib Xb hb Fb hg)|((with_reducible refine Za (N:=4) rfl ?_);refine Kd.Ei (Kd.int .i64) _ 3 ?hg (N:=4) ?hd (xs:=([]:List Int)) (inner:=[]) (ok:=fun _=>True) (Sh:=fun _=>True) ?hr ?hp (fun _ hk=>hk) trivial (Below.refl _ _) (Nat.le_refl _) (by simp) ?_;(case hd|hg=>rfl);(case hr=>exact gaK);(case hp=>exact (Wc.none _ _));intro En w4 WE hb bk xe;clear bk xe;(first|rw [← Qh.out] at WE|(simp only [Int.reduceToNat] at WE;rw [← Qh.out] at WE));have Bb:=aa.mk (Kd.td WE (Da iaK));have Db:=aa.mk (Na (g:=ya) (o:=.cells #[.int .i64 Nb,.int .i64 Pa,.int .i64 Ra,.int .i64 Sa,.int .i64 Eb,.int .i64 qc,.string Cc] 65 (0,0)) kaK hb);have Ib:=aa.mk (Ma iaK hb);clear ta HB;have dg:=Bb;have ta:=Db;have HB:=Ib;clear Bb Db Ib hb WE;have Qt:w4.cell? ⟨ya,0,none⟩=some (.int .i64 Nb):=(ja ta.out 0).trans rfl;have Pt:w4.cell? ⟨ya,1,none⟩=some (.int .i64 Pa):=(ja ta.out 1).trans rfl;have Ot:w4.cell? ⟨ya,2,none⟩=some (.int .i64 Ra):=(ja ta.out 2).trans rfl;have Nt:w4.cell? ⟨ya,3,none⟩=some (.int .i64 Sa):=(ja ta.out 3).trans rfl;have Ov:w4.cell? ⟨ya,4,none⟩=some (.int .i64 Eb):=(ja ta.out 4).trans rfl;have cF:w4.cell? ⟨ya,5,none⟩=some (.int .i64 qc):=(ja ta.out 5).trans rfl;have bF:w4.cell? ⟨ya,6,none⟩=some (.string Cc):=(ja ta.out 6).trans rfl;have Ys:=qa ta.out 0;have Xs:=qa ta.out 1;have Ws:=qa ta.out 2;have Vs:=qa ta.out 3;have Cv:=qa ta.out 4;have ZE:=qa ta.out 5;have YE:=qa ta.out 6))
 (try simp only [Act.put,List.setIfInBounds_toArray,List.set_cons_zero,List.set_cons_succ])
 go_cut [7] (fun v7 wc=>∃ (kq:Nat) (wC:Bool),v7 = .bool wC∧aa (Xd.j0 kq Rc Nb wC Nb Pa Ra Sa Eb qc Cc=some r)∧aa (kq ≤ k)∧aa (Kd.R (Kd.int .i64) 3 wc w.heap.size (fun _=>True) En Rc)∧aa (wc.heap[ya]? = some (.cells #[.int .i64 Nb,.int .i64 Pa,.int .i64 Ra,.int .i64 Sa,.int .i64 Eb,.int .i64 qc,.string Cc] 65 (0,0)))∧aa (Below w.heap.size w wc))
 case first =>
  have H:=yY.out;clear yY
  by_cases c7:Nb=1
  ·rw [if_pos c7] at H;have Yl:=beq_iff_eq.mpr c7;have su:=bne_eq_false_iff_eq.mpr c7;clear c7;(first|rw [Yl]|(simp only [jb,mb];rw [Yl])|skip);have H':=aa.mk H;clear H;go_wp2
   go_meet
   case rel=>exact ⟨_,((Nb == 1)),saK,H',⟨ZaK⟩,⟨WaK⟩,⟨taK⟩,⟨oaK⟩⟩
  ·rw [if_neg c7] at H;have Yl:=beq_eq_false_iff_ne.mpr c7;have su:=bne_iff_ne.mpr c7;(first|rw [Yl]|(simp only [jb,mb];rw [Yl])|skip);have H':=aa.mk H;clear H;go_wp2
   go_meet
   case rel=>exact ⟨_,((Nb == 6)),saK,H',⟨ZaK⟩,⟨WaK⟩,⟨taK⟩,⟨oaK⟩⟩
 case rest =>
  clear yY
  try clear p2
  try clear c7
  try clear Yl
  try clear su
  try clear Qt
  try clear Pt
  try clear Ot
  try clear Nt
  try clear Ov
  try clear cF
  try clear bF
  try clear Ys
  try clear Xs
  try clear Ws
  try clear Vs
  try clear Cv
  try clear ZE
  try clear YE
  obtain ⟨kq,wC,rfl,HA,wY,Jf,ta,HB⟩:=hcut;cases kq with
  | zero=>exact absurd HA.out (by simp [Xd.j0])
  | succ kj1 =>
   have H:=HA.out;clear HA;simp only [Xd.j0] at H
   by_cases c8:wC=true
   ·subst c8;rw [if_pos rfl] at H
    by_cases c9:Rc.length < 17592186044416
    ·rw [if_pos c9] at H;have sad:=aa.mk c9;clear c9;obtain ⟨He,cg⟩:∃ y_:List Int,y_=(Rc ++ [Ra]):=⟨_,rfl⟩;replace H:(some He)=some r:=by first|(rw [cg];with_reducible exact H)|(have Ld:=(Option.bind_some _ _).symm.trans H;rw [cg];with_reducible exact Ld)|(have Ld:=(Option.bind_some _ _).symm.trans H;with_reducible exact Ld)|with_reducible exact H|(rw [cg];exact H)|exact H
     have cm:=aa.mk cg;clear cg;obtain rfl:=Option.some.inj H;obtain ⟨Qk,Pk,Ok,Nk,rm,DA,CA,Kk,Jk,Ik,Gk,qm,rA,qA⟩:=kj ta.out;go_wp2_with (first|((with_reducible refine Qe (b:=.append) (xs:=#[.tmp 10,.tmp 13]) rfl ?_);at_builtin;refine Kd.Ph (Kd.int .i64) (w0:=w) w.heap.size rfl (.tmp 10) (.tmp 13) 22 3 (.int .i64 0) 8 rfl Try.underlying22 info3 rfl (by decide) (by omega) En Rc Ra [.int .i64 Ra] (fun _=>True) (fun _=>False) rfl rfl ?aP (fun _ hk=>hk.elim) ?aF ?aO ?aB ?aS ?aL ?_;(case aP=>exact rfl);(case aB=>exact iaK);(case aF=>exact (fun _ _=>trivial));(case aO=>exact CaK);(case aS=>exact (Da iaK));(case aL=>have:=sad.out;omega);intro xE Zj ho hb hg hat;rw [← cm.out] at ho;have Bb:=aa.mk (Mc (g:=ya) (o:=.cells #[.int .i64 Nb,.int .i64 Pa,.int .i64 Ra,.int .i64 Sa,.int .i64 Eb,.int .i64 qc,.string Cc] 65 (0,0)) kaK hg (Kd.Yh Jf.out ta.out (by decide)));have Db:=aa.mk (hb);have Ib:=aa.mk (ho);clear ta HB Jf;have ta:=Bb;have HB:=Db;have Km:=Ib;clear Bb Db Ib ho hb hg hat));go_ret;exact ⟨_,naK,iaL,oaK⟩
    ·rw [if_neg c9] at H;exact absurd H (by simp)
   ·replace c8:=Bool.eq_false_iff.mpr c8;subst c8;rw [if_neg (show ¬ (false=true) by decide)] at H
    by_cases uo:Nb=2
    ·rw [if_pos uo] at H;have JA:=beq_iff_eq.mpr uo;have cH:=bne_eq_false_iff_eq.mpr uo;clear uo;obtain ⟨tj,Dh⟩:∃ y_:List Int,y_=(([Ra,Sa]:List Int)):=⟨_,rfl⟩;replace H:(if Rc.length + tj.length < 17592186044416 then (some (Rc ++ tj)) else (none))=some r:=by first|(rw [Dh];with_reducible exact H)|(have Ld:=(Option.bind_some _ _).symm.trans H;rw [Dh];with_reducible exact Ld)|(have Ld:=(Option.bind_some _ _).symm.trans H;with_reducible exact Ld)|with_reducible exact H|(rw [Dh];exact H)|exact H
     have Ko:=aa.mk Dh;clear Dh
     by_cases ZF:Rc.length + tj.length < 17592186044416
     ·rw [if_pos ZF] at H;have rW:=aa.mk ZF;clear ZF;obtain ⟨Mm,fl⟩:∃ y_:List Int,y_=(Rc ++ tj):=⟨_,rfl⟩;replace H:(some Mm)=some r:=by first|(rw [fl];with_reducible exact H)|(have Ld:=(Option.bind_some _ _).symm.trans H;rw [fl];with_reducible exact Ld)|(have Ld:=(Option.bind_some _ _).symm.trans H;with_reducible exact Ld)|with_reducible exact H|(rw [fl];exact H)|exact H
      have OA:=aa.mk fl;clear fl;obtain rfl:=Option.some.inj H;obtain ⟨Xn,Wn,Vn,Un,Tn,OJ,NJ,Sn,Rn,Qn,Pn,Nn,fJ,eJ⟩:=kj ta.out;go_wp2_with (first|((with_reducible refine Za (N:=22) rfl ?_);refine Kd.Ei (Kd.int .i64) _ 3 ?hg (N:=22) ?hd (xs:=([Ra,Sa]:List Int)) (inner:=[.int .i64 Ra,.int .i64 Sa]) (ok:=fun _=>True) (Sh:=fun _=>True) ?hr ?hp (fun _ hk=>hk) trivial (Below.refl _ _) (Nat.le_refl _) (by simp) ?_;(case hd|hg=>rfl);(case hr=>exact gaK);(case hp=>exact (Wc.one (show Kd.M (Kd.int .i64) _ _ _ Ra [.int .i64 Ra] from rfl) (Wc.one (show Kd.M (Kd.int .i64) _ _ _ Sa [.int .i64 Sa] from rfl) (Wc.none _ _))));intro JY Ho DC hb bk xe;clear bk xe;(first|rw [← Ko.out] at DC|(simp only [Int.reduceToNat] at DC;rw [← Ko.out] at DC));have Bb:=aa.mk (Kd.aj CaK (Kd.en DC) hb);have Db:=aa.mk (Kd.td (Kd.Jn DC (Kd.Ap CaK)) (Da iaK));have Ib:=aa.mk (Na (g:=ya) (o:=.cells #[.int .i64 Nb,.int .i64 Pa,.int .i64 Ra,.int .i64 Sa,.int .i64 Eb,.int .i64 qc,.string Cc] 65 (0,0)) kaK hb);have Xb:=aa.mk (Ma iaK hb);clear Jf ta HB;have Jf:=Bb;have Fi:=Db;have ta:=Ib;have HB:=Xb;clear Bb Db Ib Xb hb DC;obtain ⟨mae,wac,mac⟩:=Kd.Lc Fi.out;subst mac)|((with_reducible refine Qe (b:=.append) (xs:=#[.tmp 17,.tmp 22]) rfl ?_);at_builtin;refine Kd.Uh (Kd.int .i64) (w0:=w) w.heap.size rfl (.tmp 17) (.tmp 22) 22 3 (.int .i64 0) 8 rfl Try.underlying22 info3 rfl (by decide) (by omega) En Rc tj _ _ _ (fun k_=>some k_ ≠ (.slice mae tj.length wac:Value).ownBlock) (fun _=>False) rfl rfl ?aO ?aR (fun _ _ h=>h) (fun _ h=>h.elim) ?aF ?aB ?aS ?aL ?_;(case aR=>repeat (first|exact (Kd.Jb Fi.out).2.2|(with_reducible refine Kd.Vb ?_ _)|(with_reducible refine Kd.Ub ?_ _)|(with_reducible refine Kd.tc ?_)));(case aB=>exact iaK);(case aF=>exact (fun k_ hk=>Kd.fresh' (Kd.Ap TaK) k_ hk));(case aO=>exact (by (with_reducible repeat (first|apply Kd.Xa|apply Kd.Ya|apply Kd.gb));exact Kd.yc Jf.out (fun _ hk=>hk.2)));(case aS=>exact (Da iaK));(case aL=>have:=rW.out;omega);intro IY Qr ho hb hg hat;rw [← OA.out] at ho;have Bb:=aa.mk (Mc (g:=ya) (o:=.cells #[.int .i64 Nb,.int .i64 Pa,.int .i64 Ra,.int .i64 Sa,.int .i64 Eb,.int .i64 qc,.string Cc] 65 (0,0)) kaK hg (Kd.Yh Jf.out ta.out (by decide)));have Db:=aa.mk (Kd.Yn (ok:=(fun _=>True)) TaK hg hat);have Ib:=aa.mk (hb);have Xb:=aa.mk (ho);clear ta Fi HB Jf;have ta:=Bb;have Fi:=Db;have HB:=Ib;have TA:=Xb;clear Bb Db Ib Xb ho hb hg hat));go_ret;exact ⟨_,naK,by (with_reducible repeat (first|apply Kd.Xa|apply Kd.Ya|apply Kd.gb));exact Kd.yc TA.out (fun _ hk=>trivial),oaK⟩
     ·rw [if_neg ZF] at H;exact absurd H (by simp)
    ·rw [if_neg uo] at H;have JA:=beq_eq_false_iff_ne.mpr uo;have cH:=bne_iff_ne.mpr uo;have bae:=aa.mk H;clear H
     go_upto_if 24 with (fail)
     go_cut [24] (fun v24 wc=>∃ (kq:Nat) (qH:Bool),v24 = .bool qH∧aa (Xd.j1 kq Rc qH Nb Pa Ra Sa Eb qc Cc=some r)∧aa (kq ≤ kj1)∧aa (Kd.R (Kd.int .i64) 3 wc w.heap.size (fun _=>True) En Rc)∧aa (wc.heap[ya]? = some (.cells #[.int .i64 Nb,.int .i64 Pa,.int .i64 Ra,.int .i64 Sa,.int .i64 Eb,.int .i64 qc,.string Cc] 65 (0,0)))∧aa (Below w.heap.size w wc))
     case first =>
      have H:=bae.out;clear bae
      by_cases Tp:Nb=3
      ·rw [if_pos Tp] at H;have fy:=beq_iff_eq.mpr Tp;have mR:=bne_eq_false_iff_eq.mpr Tp;clear Tp;(first|rw [fy]|(simp only [jb,mb];rw [fy])|skip);have H':=aa.mk H;clear H;go_wp2
       go_meet
       case rel=>exact ⟨_,((Nb == 3)),saK,H',⟨by have:=wY.out;first|omega|exact Nat.le_refl _⟩,⟨QaK⟩,⟨taK⟩,⟨oaK⟩⟩
      ·rw [if_neg Tp] at H;have fy:=beq_eq_false_iff_ne.mpr Tp;have mR:=bne_iff_ne.mpr Tp;(first|rw [fy]|(simp only [jb,mb];rw [fy])|skip);have H':=aa.mk H;clear H;go_wp2
       go_meet
       case rel=>exact ⟨_,((Nb == 4)),saK,H',⟨by have:=wY.out;first|omega|exact Nat.le_refl _⟩,⟨QaK⟩,⟨taK⟩,⟨oaK⟩⟩
     case rest =>
      clear bae
      try clear c1
      try clear c2
      try clear p2
      try clear c7
      try clear Yl
      try clear su
      try clear c8
      try clear c9
      try clear uo
      try clear JA
      try clear cH
      try clear ZF
      try clear Tp
      try clear fy
      try clear mR
      try clear Qk
      try clear Pk
      try clear Ok
      try clear Nk
      try clear rm
      try clear DA
      try clear CA
      try clear Xn
      try clear Wn
      try clear Vn
      try clear Un
      try clear Tn
      try clear OJ
      try clear NJ
      try clear Qt
      try clear Pt
      try clear Ot
      try clear Nt
      try clear Ov
      try clear cF
      try clear bF
      try clear Kk
      try clear Jk
      try clear Ik
      try clear Gk
      try clear qm
      try clear rA
      try clear qA
      try clear Sn
      try clear Rn
      try clear Qn
      try clear Pn
      try clear Nn
      try clear fJ
      try clear eJ
      try clear Ys
      try clear Xs
      try clear Ws
      try clear Vs
      try clear Cv
      try clear ZE
      try clear YE
      try clear p2
      obtain ⟨kq,qH,rfl,HA,uaI,Jf,ta,HB⟩:=hcut;cases kq with
      | zero=>exact absurd HA.out (by simp [Xd.j1])
      | succ iaG =>
       have H:=HA.out;clear HA;simp only [Xd.j1] at H
       by_cases iE:qH=true
       ·subst iE;rw [if_pos rfl] at H
        by_cases gK:Rc.length < 17592186044416
        ·rw [if_pos gK] at H;have oC:=aa.mk gK;clear gK;obtain ⟨Bn,jo⟩:∃ y_:List Int,y_=(Rc ++ [Sa]):=⟨_,rfl⟩;replace H:(if Ra ≥ 0 then (if Bn.length < 17592186044416 then ((some (Bn ++ [Ra]:List Int)).bind fun Nx=>(if Nb=4 then (if Nx.length < 17592186044416 then (some (Nx ++ [Eb])) else (none)) else (some Nx))) else (none)) else (if Nb=4 then (if Bn.length < 17592186044416 then (some (Bn ++ [Eb])) else (none)) else (some Bn)))=some r:=by first|(rw [jo];with_reducible exact H)|(have Ld:=(Option.bind_some _ _).symm.trans H;rw [jo];with_reducible exact Ld)|(have Ld:=(Option.bind_some _ _).symm.trans H;with_reducible exact Ld)|with_reducible exact H|(rw [jo];exact H)|exact H
         have nC:=aa.mk jo;clear jo
         by_cases VV:Ra ≥ 0
         ·rw [if_pos VV] at H;have Bal:decide (0 ≤ Ra)=true:=decide_eq_true VV;clear VV
          by_cases VM:Bn.length < 17592186044416
          ·rw [if_pos VM] at H;have O9:=aa.mk VM;clear VM;obtain ⟨Nx,Zu⟩:∃ y_:List Int,y_=(Bn ++ [Ra]):=⟨_,rfl⟩;replace H:(if Nb=4 then (if Nx.length < 17592186044416 then (some (Nx ++ [Eb])) else (none)) else (some Nx))=some r:=by first|(rw [Zu];with_reducible exact H)|(have Ld:=(Option.bind_some _ _).symm.trans H;rw [Zu];with_reducible exact Ld)|(have Ld:=(Option.bind_some _ _).symm.trans H;with_reducible exact Ld)|with_reducible exact H|(rw [Zu];exact H)|exact H
           have zR:=aa.mk Zu;clear Zu
           by_cases lR:Nb=4
           ·rw [if_pos lR] at H;have Aal:=beq_iff_eq.mpr lR;have zal:=bne_eq_false_iff_eq.mpr lR;clear lR
            by_cases c26:Nx.length < 17592186044416
            ·rw [if_pos c26] at H;have kam:=aa.mk c26;clear c26;obtain ⟨Saw,GL⟩:∃ y_:List Int,y_=(Nx ++ [Eb]):=⟨_,rfl⟩;replace H:(some Saw)=some r:=by first|(rw [GL];with_reducible exact H)|(have Ld:=(Option.bind_some _ _).symm.trans H;rw [GL];with_reducible exact Ld)|(have Ld:=(Option.bind_some _ _).symm.trans H;with_reducible exact Ld)|with_reducible exact H|(rw [GL];exact H)|exact H
             have cam:=aa.mk GL;clear GL;obtain rfl:=Option.some.inj H;obtain ⟨Wt,Vt,Ut,Tt,Rt,IJ,HJ,nt,jt,ct,bt,Zs,YI,XI⟩:=kj ta.out;go_wp2_with (first|((with_reducible refine Qe (b:=.append) (xs:=#[.tmp 27,.tmp 30]) rfl ?_);at_builtin;refine Kd.Ph (Kd.int .i64) (w0:=w) w.heap.size rfl (.tmp 27) (.tmp 30) 22 3 (.int .i64 0) 8 rfl Try.underlying22 info3 rfl (by decide) (by omega) En Rc Sa [.int .i64 Sa] (fun _=>True) (fun _=>False) rfl rfl ?aP (fun _ hk=>hk.elim) ?aF ?aO ?aB ?aS ?aL ?_;(case aP=>exact rfl);(case aB=>exact iaK);(case aF=>exact (fun _ _=>trivial));(case aO=>exact CaK);(case aS=>exact (Da iaK));(case aL=>have:=oC.out;omega);intro iG Fu ho hb hg hat;rw [← nC.out] at ho;have Bb:=aa.mk (Mc (g:=ya) (o:=.cells #[.int .i64 Nb,.int .i64 Pa,.int .i64 Ra,.int .i64 Sa,.int .i64 Eb,.int .i64 qc,.string Cc] 65 (0,0)) kaK hg (Kd.Yh Jf.out ta.out (by decide)));have Db:=aa.mk (hb);have Ib:=aa.mk (ho);clear ta HB Jf;have ta:=Bb;have HB:=Db;have yo:=Ib;clear Bb Db Ib ho hb hg hat;have AA:Fu.cell? ⟨ya,0,none⟩=some (.int .i64 Nb):=(ja ta.out 0).trans rfl;have zA:Fu.cell? ⟨ya,1,none⟩=some (.int .i64 Pa):=(ja ta.out 1).trans rfl;have yA:Fu.cell? ⟨ya,2,none⟩=some (.int .i64 Ra):=(ja ta.out 2).trans rfl;have xA:Fu.cell? ⟨ya,3,none⟩=some (.int .i64 Sa):=(ja ta.out 3).trans rfl;have aE:Fu.cell? ⟨ya,4,none⟩=some (.int .i64 Eb):=(ja ta.out 4).trans rfl;have M4:Fu.cell? ⟨ya,5,none⟩=some (.int .i64 qc):=(ja ta.out 5).trans rfl;have L4:Fu.cell? ⟨ya,6,none⟩=some (.string Cc):=(ja ta.out 6).trans rfl;have nA:=qa ta.out 0;have mA:=qa ta.out 1;have lA:=qa ta.out 2;have kA:=qa ta.out 3;have qD:=qa ta.out 4;have J1:=qa ta.out 5;have I1:=qa ta.out 6)|((with_reducible refine Qe (b:=.append) (xs:=#[.tmp 35,.tmp 38]) rfl ?_);at_builtin;refine Kd.Ph (Kd.int .i64) (w0:=w) w.heap.size rfl (.tmp 35) (.tmp 38) 22 3 (.int .i64 0) 8 rfl Try.underlying22 info3 rfl (by decide) (by omega) iG Bn Ra [.int .i64 Ra] (fun _=>True) (fun _=>False) rfl rfl ?aP (fun _ hk=>hk.elim) ?aF ?aO ?aB ?aS ?aL ?_;(case aP=>exact rfl);(case aB=>exact iaK);(case aF=>exact (fun _ _=>trivial));(case aO=>exact (by (with_reducible repeat (first|apply Kd.Xa|apply Kd.Ya|apply Kd.gb));exact yo.out));(case aS=>exact (Da iaK));(case aL=>have:=O9.out;omega);intro faa fG ho hb hg hat;rw [← zR.out] at ho;have Bb:=aa.mk (Mc (g:=ya) (o:=.cells #[.int .i64 Nb,.int .i64 Pa,.int .i64 Ra,.int .i64 Sa,.int .i64 Eb,.int .i64 qc,.string Cc] 65 (0,0)) kaK hg (Kd.Yh yo.out ta.out (by decide)));have Db:=aa.mk (hb);have Ib:=aa.mk (ho);clear ta HB yo;have ta:=Bb;have HB:=Db;have JF:=Ib;clear Bb Db Ib ho hb hg hat;have Ww:fG.cell? ⟨ya,0,none⟩=some (.int .i64 Nb):=(ja ta.out 0).trans rfl;have Vw:fG.cell? ⟨ya,1,none⟩=some (.int .i64 Pa):=(ja ta.out 1).trans rfl;have Uw:fG.cell? ⟨ya,2,none⟩=some (.int .i64 Ra):=(ja ta.out 2).trans rfl;have Tw:fG.cell? ⟨ya,3,none⟩=some (.int .i64 Sa):=(ja ta.out 3).trans rfl;have Sw:fG.cell? ⟨ya,4,none⟩=some (.int .i64 Eb):=(ja ta.out 4).trans rfl;have Eav:fG.cell? ⟨ya,5,none⟩=some (.int .i64 qc):=(ja ta.out 5).trans rfl;have Dav:fG.cell? ⟨ya,6,none⟩=some (.string Cc):=(ja ta.out 6).trans rfl;have uw:=qa ta.out 0;have tw:=qa ta.out 1;have sw:=qa ta.out 2;have qw:=qa ta.out 3;have ow:=qa ta.out 4;have Tar:=qa ta.out 5;have Sar:=qa ta.out 6)|((with_reducible refine Qe (b:=.append) (xs:=#[.tmp 43,.tmp 46]) rfl ?_);at_builtin;refine Kd.Ph (Kd.int .i64) (w0:=w) w.heap.size rfl (.tmp 43) (.tmp 46) 22 3 (.int .i64 0) 8 rfl Try.underlying22 info3 rfl (by decide) (by omega) faa Nx Eb [.int .i64 Eb] (fun _=>True) (fun _=>False) rfl rfl ?aP (fun _ hk=>hk.elim) ?aF ?aO ?aB ?aS ?aL ?_;(case aP=>exact rfl);(case aB=>exact iaK);(case aF=>exact (fun _ _=>trivial));(case aO=>exact (by (with_reducible repeat (first|apply Kd.Xa|apply Kd.Ya|apply Kd.gb));exact JF.out));(case aS=>exact (Da iaK));(case aL=>have:=kam.out;omega);intro qax WO ho hb hg hat;rw [← cam.out] at ho;have Bb:=aa.mk (Mc (g:=ya) (o:=.cells #[.int .i64 Nb,.int .i64 Pa,.int .i64 Ra,.int .i64 Sa,.int .i64 Eb,.int .i64 qc,.string Cc] 65 (0,0)) kaK hg (Kd.Yh JF.out ta.out (by decide)));have Db:=aa.mk (hb);have Ib:=aa.mk (ho);clear ta HB JF;have ta:=Bb;have HB:=Db;have rC:=Ib;clear Bb Db Ib ho hb hg hat));go_ret;exact ⟨_,naK,by (with_reducible repeat (first|apply Kd.Xa|apply Kd.Ya|apply Kd.gb));exact rC.out,oaK⟩
            ·rw [if_neg c26] at H;exact absurd H (by simp)
           ·rw [if_neg lR] at H;have Aal:=beq_eq_false_iff_ne.mpr lR;have zal:=bne_iff_ne.mpr lR;obtain rfl:=Option.some.inj H;obtain ⟨G4,E4,D4,C4,q4,m4,j4,D1,B1,Z0,Y0,W0,V0,U0⟩:=kj ta.out;go_wp2_with (first|((with_reducible refine Qe (b:=.append) (xs:=#[.tmp 27,.tmp 30]) rfl ?_);at_builtin;refine Kd.Ph (Kd.int .i64) (w0:=w) w.heap.size rfl (.tmp 27) (.tmp 30) 22 3 (.int .i64 0) 8 rfl Try.underlying22 info3 rfl (by decide) (by omega) En Rc Sa [.int .i64 Sa] (fun _=>True) (fun _=>False) rfl rfl ?aP (fun _ hk=>hk.elim) ?aF ?aO ?aB ?aS ?aL ?_;(case aP=>exact rfl);(case aB=>exact iaK);(case aF=>exact (fun _ _=>trivial));(case aO=>exact CaK);(case aS=>exact (Da iaK));(case aL=>have:=oC.out;omega);intro iG oy ho hb hg hat;rw [← nC.out] at ho;have Bb:=aa.mk (Mc (g:=ya) (o:=.cells #[.int .i64 Nb,.int .i64 Pa,.int .i64 Ra,.int .i64 Sa,.int .i64 Eb,.int .i64 qc,.string Cc] 65 (0,0)) kaK hg (Kd.Yh Jf.out ta.out (by decide)));have Db:=aa.mk (hb);have Ib:=aa.mk (ho);clear ta HB Jf;have ta:=Bb;have HB:=Db;have yo:=Ib;clear Bb Db Ib ho hb hg hat;have BJ:oy.cell? ⟨ya,0,none⟩=some (.int .i64 Nb):=(ja ta.out 0).trans rfl;have zJ:oy.cell? ⟨ya,1,none⟩=some (.int .i64 Pa):=(ja ta.out 1).trans rfl;have yJ:oy.cell? ⟨ya,2,none⟩=some (.int .i64 Ra):=(ja ta.out 2).trans rfl;have xJ:oy.cell? ⟨ya,3,none⟩=some (.int .i64 Sa):=(ja ta.out 3).trans rfl;have GQ:oy.cell? ⟨ya,4,none⟩=some (.int .i64 Eb):=(ja ta.out 4).trans rfl;have Cav:oy.cell? ⟨ya,5,none⟩=some (.int .i64 qc):=(ja ta.out 5).trans rfl;have Bav:oy.cell? ⟨ya,6,none⟩=some (.string Cc):=(ja ta.out 6).trans rfl;have RI:=qa ta.out 0;have QI:=qa ta.out 1;have PI:=qa ta.out 2;have OI:=qa ta.out 3;have NP:=qa ta.out 4;have Rar:=qa ta.out 5;have Qar:=qa ta.out 6)|((with_reducible refine Qe (b:=.append) (xs:=#[.tmp 35,.tmp 38]) rfl ?_);at_builtin;refine Kd.Ph (Kd.int .i64) (w0:=w) w.heap.size rfl (.tmp 35) (.tmp 38) 22 3 (.int .i64 0) 8 rfl Try.underlying22 info3 rfl (by decide) (by omega) iG Bn Ra [.int .i64 Ra] (fun _=>True) (fun _=>False) rfl rfl ?aP (fun _ hk=>hk.elim) ?aF ?aO ?aB ?aS ?aL ?_;(case aP=>exact rfl);(case aB=>exact iaK);(case aF=>exact (fun _ _=>trivial));(case aO=>exact (by (with_reducible repeat (first|apply Kd.Xa|apply Kd.Ya|apply Kd.gb));exact yo.out));(case aS=>exact (Da iaK));(case aL=>have:=O9.out;omega);intro faa wE ho hb hg hat;rw [← zR.out] at ho;have Bb:=aa.mk (Mc (g:=ya) (o:=.cells #[.int .i64 Nb,.int .i64 Pa,.int .i64 Ra,.int .i64 Sa,.int .i64 Eb,.int .i64 qc,.string Cc] 65 (0,0)) kaK hg (Kd.Yh yo.out ta.out (by decide)));have Db:=aa.mk (hb);have Ib:=aa.mk (ho);clear ta HB yo;have ta:=Bb;have HB:=Db;have JF:=Ib;clear Bb Db Ib ho hb hg hat;have LD:wE.cell? ⟨ya,0,none⟩=some (.int .i64 Nb):=(ja ta.out 0).trans rfl;have KD:wE.cell? ⟨ya,1,none⟩=some (.int .i64 Pa):=(ja ta.out 1).trans rfl;have JD:wE.cell? ⟨ya,2,none⟩=some (.int .i64 Ra):=(ja ta.out 2).trans rfl;have ID:wE.cell? ⟨ya,3,none⟩=some (.int .i64 Sa):=(ja ta.out 3).trans rfl;have GD:wE.cell? ⟨ya,4,none⟩=some (.int .i64 Eb):=(ja ta.out 4).trans rfl;have yav:wE.cell? ⟨ya,5,none⟩=some (.int .i64 qc):=(ja ta.out 5).trans rfl;have xav:wE.cell? ⟨ya,6,none⟩=some (.string Cc):=(ja ta.out 6).trans rfl;have aD:=qa ta.out 0;have ZC:=qa ta.out 1;have YC:=qa ta.out 2;have XC:=qa ta.out 3;have WC:=qa ta.out 4;have Nar:=qa ta.out 5;have Mar:=qa ta.out 6));go_ret;exact ⟨_,naK,by (with_reducible repeat (first|apply Kd.Xa|apply Kd.Ya|apply Kd.gb));exact JF.out,oaK⟩
          ·rw [if_neg VM] at H;exact absurd H (by simp)
         ·rw [if_neg VV] at H;have Bal:decide (0 ≤ Ra)=false:=decide_eq_false VV;clear VV
          by_cases TK:Nb=4
          ·rw [if_pos TK] at H;have ral:=beq_iff_eq.mpr TK;have qal:=bne_eq_false_iff_eq.mpr TK;clear TK
           by_cases c39:Bn.length < 17592186044416
           ·rw [if_pos c39] at H;have iam:=aa.mk c39;clear c39;obtain ⟨WK,Yu⟩:∃ y_:List Int,y_=(Bn ++ [Eb]):=⟨_,rfl⟩;replace H:(some WK)=some r:=by first|(rw [Yu];with_reducible exact H)|(have Ld:=(Option.bind_some _ _).symm.trans H;rw [Yu];with_reducible exact Ld)|(have Ld:=(Option.bind_some _ _).symm.trans H;with_reducible exact Ld)|with_reducible exact H|(rw [Yu];exact H)|exact H
            have oW:=aa.mk Yu;clear Yu;obtain rfl:=Option.some.inj H;obtain ⟨wA,vA,uA,tA,sA,xQ,wQ,jA,iA,gA,fA,eA,EP,DP⟩:=kj ta.out;go_wp2_with (first|((with_reducible refine Qe (b:=.append) (xs:=#[.tmp 27,.tmp 30]) rfl ?_);at_builtin;refine Kd.Ph (Kd.int .i64) (w0:=w) w.heap.size rfl (.tmp 27) (.tmp 30) 22 3 (.int .i64 0) 8 rfl Try.underlying22 info3 rfl (by decide) (by omega) En Rc Sa [.int .i64 Sa] (fun _=>True) (fun _=>False) rfl rfl ?aP (fun _ hk=>hk.elim) ?aF ?aO ?aB ?aS ?aL ?_;(case aP=>exact rfl);(case aB=>exact iaK);(case aF=>exact (fun _ _=>trivial));(case aO=>exact CaK);(case aS=>exact (Da iaK));(case aL=>have:=oC.out;omega);intro iG Pu ho hb hg hat;rw [← nC.out] at ho;have Bb:=aa.mk (Mc (g:=ya) (o:=.cells #[.int .i64 Nb,.int .i64 Pa,.int .i64 Ra,.int .i64 Sa,.int .i64 Eb,.int .i64 qc,.string Cc] 65 (0,0)) kaK hg (Kd.Yh Jf.out ta.out (by decide)));have Db:=aa.mk (hb);have Ib:=aa.mk (ho);clear ta HB Jf;have ta:=Bb;have HB:=Db;have yo:=Ib;clear Bb Db Ib ho hb hg hat;have FD:Pu.cell? ⟨ya,0,none⟩=some (.int .i64 Nb):=(ja ta.out 0).trans rfl;have ED:Pu.cell? ⟨ya,1,none⟩=some (.int .i64 Pa):=(ja ta.out 1).trans rfl;have DD:Pu.cell? ⟨ya,2,none⟩=some (.int .i64 Ra):=(ja ta.out 2).trans rfl;have CD:Pu.cell? ⟨ya,3,none⟩=some (.int .i64 Sa):=(ja ta.out 3).trans rfl;have BD:Pu.cell? ⟨ya,4,none⟩=some (.int .i64 Eb):=(ja ta.out 4).trans rfl;have rQ:Pu.cell? ⟨ya,5,none⟩=some (.int .i64 qc):=(ja ta.out 5).trans rfl;have qQ:Pu.cell? ⟨ya,6,none⟩=some (.string Cc):=(ja ta.out 6).trans rfl;have VC:=qa ta.out 0;have UC:=qa ta.out 1;have TC:=qa ta.out 2;have SC:=qa ta.out 3;have RC:=qa ta.out 4;have CP:=qa ta.out 5;have BP:=qa ta.out 6)|((with_reducible refine Qe (b:=.append) (xs:=#[.tmp 43,.tmp 46]) rfl ?_);at_builtin;refine Kd.Ph (Kd.int .i64) (w0:=w) w.heap.size rfl (.tmp 43) (.tmp 46) 22 3 (.int .i64 0) 8 rfl Try.underlying22 info3 rfl (by decide) (by omega) iG Bn Eb [.int .i64 Eb] (fun _=>True) (fun _=>False) rfl rfl ?aP (fun _ hk=>hk.elim) ?aF ?aO ?aB ?aS ?aL ?_;(case aP=>exact rfl);(case aB=>exact iaK);(case aF=>exact (fun _ _=>trivial));(case aO=>exact (by (with_reducible repeat (first|apply Kd.Xa|apply Kd.Ya|apply Kd.gb));exact yo.out));(case aS=>exact (Da iaK));(case aL=>have:=iam.out;omega);intro pax w43 ho hb hg hat;rw [← oW.out] at ho;have Bb:=aa.mk (Mc (g:=ya) (o:=.cells #[.int .i64 Nb,.int .i64 Pa,.int .i64 Ra,.int .i64 Sa,.int .i64 Eb,.int .i64 qc,.string Cc] 65 (0,0)) kaK hg (Kd.Yh yo.out ta.out (by decide)));have Db:=aa.mk (hb);have Ib:=aa.mk (ho);clear ta HB yo;have ta:=Bb;have HB:=Db;have SR:=Ib;clear Bb Db Ib ho hb hg hat));go_ret;exact ⟨_,naK,by (with_reducible repeat (first|apply Kd.Xa|apply Kd.Ya|apply Kd.gb));exact SR.out,oaK⟩
           ·rw [if_neg c39] at H;exact absurd H (by simp)
          ·rw [if_neg TK] at H;have ral:=beq_eq_false_iff_ne.mpr TK;have qal:=bne_iff_ne.mpr TK;obtain rfl:=Option.some.inj H;obtain ⟨pQ,oQ,nQ,mQ,lQ,S3,R3,AP,zP,yP,xP,wP,N0,M0⟩:=kj ta.out;go_wp2_with (first|((with_reducible refine Qe (b:=.append) (xs:=#[.tmp 27,.tmp 30]) rfl ?_);at_builtin;refine Kd.Ph (Kd.int .i64) (w0:=w) w.heap.size rfl (.tmp 27) (.tmp 30) 22 3 (.int .i64 0) 8 rfl Try.underlying22 info3 rfl (by decide) (by omega) En Rc Sa [.int .i64 Sa] (fun _=>True) (fun _=>False) rfl rfl ?aP (fun _ hk=>hk.elim) ?aF ?aO ?aB ?aS ?aL ?_;(case aP=>exact rfl);(case aB=>exact iaK);(case aF=>exact (fun _ _=>trivial));(case aO=>exact CaK);(case aS=>exact (Da iaK));(case aL=>have:=oC.out;omega);intro iG LM ho hb hg hat;rw [← nC.out] at ho;have Bb:=aa.mk (Mc (g:=ya) (o:=.cells #[.int .i64 Nb,.int .i64 Pa,.int .i64 Ra,.int .i64 Sa,.int .i64 Eb,.int .i64 qc,.string Cc] 65 (0,0)) kaK hg (Kd.Yh Jf.out ta.out (by decide)));have Db:=aa.mk (hb);have Ib:=aa.mk (ho);clear ta HB Jf;have ta:=Bb;have HB:=Db;have yo:=Ib;clear Bb Db Ib ho hb hg hat;have Q3:LM.cell? ⟨ya,0,none⟩=some (.int .i64 Nb):=(ja ta.out 0).trans rfl;have P3:LM.cell? ⟨ya,1,none⟩=some (.int .i64 Pa):=(ja ta.out 1).trans rfl;have O3:LM.cell? ⟨ya,2,none⟩=some (.int .i64 Ra):=(ja ta.out 2).trans rfl;have N3:LM.cell? ⟨ya,3,none⟩=some (.int .i64 Sa):=(ja ta.out 3).trans rfl;have L3:LM.cell? ⟨ya,4,none⟩=some (.int .i64 Eb):=(ja ta.out 4).trans rfl;have K3:LM.cell? ⟨ya,5,none⟩=some (.int .i64 qc):=(ja ta.out 5).trans rfl;have J3:LM.cell? ⟨ya,6,none⟩=some (.string Cc):=(ja ta.out 6).trans rfl;have L0:=qa ta.out 0;have K0:=qa ta.out 1;have J0:=qa ta.out 2;have I0:=qa ta.out 3;have G0:=qa ta.out 4;have C0:=qa ta.out 5;have ZZ:=qa ta.out 6));go_ret;exact ⟨_,naK,by (with_reducible repeat (first|apply Kd.Xa|apply Kd.Ya|apply Kd.gb));exact yo.out,oaK⟩
        ·rw [if_neg gK] at H;exact absurd H (by simp)
       ·replace iE:=Bool.eq_false_iff.mpr iE;subst iE;rw [if_neg (show ¬ (false=true) by decide)] at H;obtain rfl:=Option.some.inj H;go_wp2;go_ret;exact ⟨_,naK,QaK,oaK⟩
mutual
def Ye.j0:Nat→List Bool→Int→Int→Int→Int→Int→Int→ByteArray→Option (List Bool)
 | 0,_,_,_,_,_,_,_,_=>none
 | k + 1,x0,qe,Ie,Wd,me,Qc,Xy,Wy=>(Xd.f k qe Ie Wd me Qc Xy Wy).bind fun t104=>(Ye.l0 k x0 t104 (t104.length:Int) 0)
def Ye.l0:Nat→List Bool→List Int→Int→Int→Option (List Bool)
 | 0,_,_,_,_=>none
 | k + 1,x0,x15,x16,x17=>if x17 < x16 then (if 0 ≤ x17 then (if x17 < (x15.length:Int) then (if 0 ≤ (rd x15 x17) then (if (rd x15 x17) < (x0.length:Int) then (Ye.l0 k (x0.set ((rd x15 x17):Int).toNat true) x15 x16 (wrap64 (x17 + 1))) else (none)) else (none)) else (none)) else (none)) else (some x0)
end
def Ye.f (k:Nat) (l0:List Bool) (kf:Int) (Oc:Int) (Bc:Int) (Nc:Int) (Ed:Int) (qg:Int) (Ag:ByteArray):Option (List Bool):=(Am.f kf Oc Bc Nc Ed qg Ag).bind fun t102=>(if t102 ≥ 0 then (if 0 ≤ t102 then (if t102 < (l0.length:Int) then (Ye.j0 k (l0.set (t102:Int).toNat false) kf Oc Bc Nc Ed qg Ag) else (none)) else (none)) else (Ye.j0 k l0 kf Oc Bc Nc Ed qg Ag))
theorem Ye.calls (k:Nat) (di:Nat→Prop) (pg:Value) (l0:List Bool) (kf:Int) (Oc:Int) (Bc:Int) (Nc:Int) (Ed:Int) (qg:Int) (Ag:ByteArray) (r:List Bool) (w0 w:World) (hB:Below w0.heap.size w0 w) (fj:Kd.R Kd.bool 4 w w0.heap.size di pg l0) (h:Ye.f k l0 kf Oc Bc Nc Ed qg Ag=some r) :
  Calls Try.prog 79 #[pg,.agg #[.int .i64 kf,.int .i64 Oc,.int .i64 Bc,.int .i64 Nc,.int .i64 Ed,.int .i64 qg,.string Ag]] w fun e w'=>e = .returned (.tuple #[])∧Kd.R Kd.bool 4 w' w0.heap.size (fun k_=>(di k_ ∨ w.heap.size ≤ k_)) pg r∧Below w0.heap.size w0 w'∧Kept w w' (fun k_=>di k_):=by
 have CC:=Try.underlying65;have bG:=aa.mk (show Kd.R Kd.bool 4 w w0.heap.size (fun k_=>(di k_ ∨ w.heap.size ≤ k_)) pg l0 from Kd.yc fj (fun k_ hk=>(.inl hk)));have HK:=aa.mk (Kept.refl w (fun k_=>di k_));have HW0:=aa.mk hB.size;have HB:=aa.mk hB;clear hB;have H:((Am.f kf Oc Bc Nc Ed qg Ag).bind fun t102=>(if t102 ≥ 0 then (if 0 ≤ t102 then (if t102 < (l0.length:Int) then (Ye.j0 k (l0.set (t102:Int).toNat false) kf Oc Bc Nc Ed qg Ag) else (none)) else (none)) else (Ye.j0 k l0 kf Oc Bc Nc Ed qg Ag)))=some r:=h;clear h;replace H:=Option.bind_eq_some_iff.mp H;obtain ⟨t102,Qx,H⟩:=H
 try dsimp only at H
 have A3:=aa.mk Qx;clear Qx;have HC4:=aa.mk H;clear H;go_enter Try.func79,Try.ntmps79
 go_upto_if 10 with (first|((with_reducible refine Za (N:=3) rfl ?_);refine Ab ?hg (N:=3) ?hd (cs:=#[.int .i64 kf,.int .i64 Oc,.int .i64 Bc,.int .i64 Nc,.int .i64 Ed,.int .i64 qg,.string Ag]) (t:=65) ?hr ?_;(case hd|hg=>rfl);(case hr=>exact gaK);intro ya hg w5 Fb hb;have Bb:=aa.mk (Kd.Yb (by (with_reducible repeat (first|apply Kd.Xa|apply Kd.Ya|apply Kd.gb));exact bG.out) hb);have Db:=aa.mk (Kept.below (S:=(fun k_=>di k_)) waK hb);have Ib:=aa.mk (Ma jaK hb);have Xb:=aa.mk (Fb);have De:=aa.mk ((by rw [hg];exact (by first|exact HK.out.1|exact (show Kept w _ (fun k_=>di k_) from by repeat (first|(with_reducible first|exact HK.out|apply Kept.alloc|apply Kept.drewN|apply Kept.drew)|exact HK.out)).1):w.heap.size ≤ ya));have ef:=aa.mk ((by rw [hg];exact (Da jaK):w0.heap.size ≤ ya));clear bG HK HB;have bG:=Bb;have HK:=Db;have HB:=Ib;have ta:=Xb;have Jd:=De;have Qa:=ef;clear Bb Db Ib Xb De ef hb Fb hg;have Qt:w5.cell? ⟨ya,0,none⟩=some (.int .i64 kf):=(ja ta.out 0).trans rfl;have Pt:w5.cell? ⟨ya,1,none⟩=some (.int .i64 Oc):=(ja ta.out 1).trans rfl;have Ot:w5.cell? ⟨ya,2,none⟩=some (.int .i64 Bc):=(ja ta.out 2).trans rfl;have Nt:w5.cell? ⟨ya,3,none⟩=some (.int .i64 Nc):=(ja ta.out 3).trans rfl;have Ov:w5.cell? ⟨ya,4,none⟩=some (.int .i64 Ed):=(ja ta.out 4).trans rfl;have cF:w5.cell? ⟨ya,5,none⟩=some (.int .i64 qg):=(ja ta.out 5).trans rfl;have bF:w5.cell? ⟨ya,6,none⟩=some (.string Ag):=(ja ta.out 6).trans rfl;have Ys:=qa ta.out 0;have Xs:=qa ta.out 1;have Ws:=qa ta.out 2;have Vs:=qa ta.out 3;have Cv:=qa ta.out 4;have ZE:=qa ta.out 5;have YE:=qa ta.out 6)|((with_reducible refine Cb (f:=87) rfl ?_);refine Jc (some 8) rfl rfl Try.func87 (by kernel_rfl) rfl #[.agg #[.int .i64 kf,.int .i64 Oc,.int .i64 Bc,.int .i64 Nc,.int .i64 Ed,.int .i64 qg,.string Ag]] rfl laK ?_;(with_reducible refine (Am.calls kf Oc Bc Nc Ed qg Ag t102 _ A3.out).mono ?_);rintro e w7 ⟨rfl,hb⟩;refine ⟨_,rfl,?_⟩;have Bb:=aa.mk (Kd.Yb (by (with_reducible repeat (first|apply Kd.Xa|apply Kd.Ya|apply Kd.gb));exact bG.out) hb);have Db:=aa.mk (Na (g:=ya) (o:=.cells #[.int .i64 kf,.int .i64 Oc,.int .i64 Bc,.int .i64 Nc,.int .i64 Ed,.int .i64 qg,.string Ag] 65 (0,0)) kaK hb);have Ib:=aa.mk (Kept.below (S:=(fun k_=>di k_)) MaK hb);have Xb:=aa.mk (Ma iaK hb);clear bG ta HK HB;have bG:=Bb;have ta:=Db;have HK:=Ib;have HB:=Xb;clear Bb Db Ib Xb;(try clear hb);(try clear ek);(try clear hk);(try clear hi)))
 (try simp only [Act.put,List.setIfInBounds_toArray,List.set_cons_zero,List.set_cons_succ])
 go_cut [] (fun wc=>∃ (kq:Nat) (FY:List Bool),aa (Ye.j0 kq FY kf Oc Bc Nc Ed qg Ag=some r)∧aa (kq ≤ k)∧aa (Kd.R Kd.bool 4 wc w0.heap.size (fun k_=>(di k_ ∨ w.heap.size ≤ k_)) pg FY)∧aa (wc.heap[ya]? = some (.cells #[.int .i64 kf,.int .i64 Oc,.int .i64 Bc,.int .i64 Nc,.int .i64 Ed,.int .i64 qg,.string Ag] 65 (0,0)))∧aa (Kept w wc (fun k_=>di k_))∧aa (Below w0.heap.size w0 wc))
 case first =>
  have H:=HC4.out;clear HC4
  by_cases c8:t102 ≥ 0
  ·rw [if_pos c8] at H;have Kp:decide (0 ≤ t102)=true:=decide_eq_true c8;clear c8;(first|rw [Kp]|(simp only [jb,mb];rw [Kp])|skip)
   by_cases c9:0 ≤ t102
   ·rw [if_pos c9] at H;have eM:decide (0 ≤ t102)=true:=decide_eq_true c9;clear c9
    by_cases WM:t102 < (l0.length:Int)
    ·rw [if_pos WM] at H;have oR:decide (t102 < (l0.length:Int))=true:=decide_eq_true WM;clear WM;obtain ⟨Me,mo⟩:∃ y_:List Bool,y_=(l0.set (t102:Int).toNat false):=⟨_,rfl⟩;replace H:(Ye.j0 k Me kf Oc Bc Nc Ed qg Ag)=some r:=by first|(rw [mo];with_reducible exact H)|(have Ld:=(Option.bind_some _ _).symm.trans H;rw [mo];with_reducible exact Ld)|(have Ld:=(Option.bind_some _ _).symm.trans H;with_reducible exact Ld)|with_reducible exact H|(rw [mo];exact H)|exact H
     have zM:=aa.mk mo;clear mo;have H':=aa.mk H;clear H;have l7:0 ≤ (t102:Int):=Va;have k7:(t102:Int) < ((l0.length:Int):Int):=Va;obtain ⟨IV,Py,E5,Eak,raz,raH,man⟩:=Kd.Kn bG.out (by omega);(first|cases E5|(injection E5 with vp YJ ZJ;(first|subst vp|(injection vp with vp;subst vp));subst ZJ;clear YJ));have kaB:=aa.mk Eak;have IaI:=aa.mk man;clear Eak raz man;have BaA:=aa.mk (show (di IV ∨ w.heap.size ≤ IV) from (bG.out.1 _ rfl));obtain ⟨bI,iV⟩:=Kd.Br false bG.out (t102:Int) l7 k7;replace l7:=eq_true l7;replace k7:=eq_true k7;have GF:=Kd.Sy bG.out (t102:Int) false;go_wp2_with (first|((with_reducible refine Tf (t:=4) (p:=13) rfl ?_);refine uf (t:=4) (p:=13) (v:=?JT) (w1:=(w7.setCell ⟨IV,(t102:Int).toNat,none⟩ (.bool false))) ?hg ?ho ?hn ?hr ?_;(case ho=>rfl);(case hg=>rfl);(case hn=>rfl);(case hr=>exact gaK);intro Ep hw;have hg:w7.grownBy Ep (some IV):=(by rw [hw];exact GF.2);have zn:Kd.R Kd.bool 4 Ep w0.heap.size (fun k_=>(di k_ ∨ w.heap.size ≤ k_)) (.slice (some ⟨IV,0,none⟩) l0.length Py) Me:=(by rw [hw,zM.out];exact GF.1);clear GF;have Bb:=aa.mk (zn);have Db:=aa.mk (Mc (g:=ya) (o:=.cells #[.int .i64 kf,.int .i64 Oc,.int .i64 Bc,.int .i64 Nc,.int .i64 Ed,.int .i64 qg,.string Ag] 65 (0,0)) kaK hg (Kd.Yh bG.out ta.out (by decide)));have Ib:=aa.mk ((by rw [hw];exact ua (HB.out) kaB.out:Below w0.heap.size w0 Ep));have Xb:=aa.mk (Kept.Bh (S:=(fun k_=>di k_)) hg MaK (fun k_ e_=>(bG.out.1 k_ e_)));clear bG ta HB HK;have bG:=Bb;have ta:=Db;have HB:=Ib;have HK:=Xb;clear Bb Db Ib Xb hg hw zn))
     go_meet
     case rel=>exact ⟨_,(Me),H',⟨ZaK⟩,⟨aaL⟩,⟨taK⟩,⟨NaK⟩,⟨oaK⟩⟩
    ·rw [if_neg WM] at H;exact absurd H (by simp)
   ·rw [if_neg c9] at H;exact absurd H (by simp)
  ·rw [if_neg c8] at H;have Kp:decide (0 ≤ t102)=false:=decide_eq_false c8;clear c8;(first|rw [Kp]|(simp only [jb,mb];rw [Kp])|skip);have H':=aa.mk H;clear H;go_wp2
   go_meet
   case rel=>exact ⟨_,(l0),H',⟨ZaK⟩,⟨aaL⟩,⟨taK⟩,⟨NaK⟩,⟨oaK⟩⟩
 case rest =>
  clear HC4
  try clear c1
  try clear p1
  try clear q1
  try clear hx1
  try clear p2
  try clear c7
  try clear c8
  try clear Kp
  try clear c9
  try clear eM
  try clear WM
  try clear oR
  try clear l7
  try clear k7
  try clear Maf
  try clear Yay
  try clear Qt
  try clear Pt
  try clear Ot
  try clear Nt
  try clear Ov
  try clear cF
  try clear bF
  try clear Ys
  try clear Xs
  try clear Ws
  try clear Vs
  try clear Cv
  try clear ZE
  try clear YE
  try clear bI
  try clear l7
  try clear k7
  obtain ⟨kq,FY,HA,UK,Nd,ta,HK,HB⟩:=hcut;cases kq with
  | zero=>exact absurd HA.out (by simp [Ye.j0])
  | succ kj3 =>
   have H:=HA.out;clear HA;simp only [Ye.j0] at H;replace H:=Option.bind_eq_some_iff.mp H;obtain ⟨t104,KM,H⟩:=H
   try dsimp only at H
   have A14:=aa.mk KM;clear KM;have H':=aa.mk H;clear H;obtain ⟨Ix,Hx,Gx,Ex,Dx,ZQ,YQ,Rw,Qw,Pw,Ow,Nw,jQ,iQ⟩:=kj ta.out;go_wp2_with (first|((with_reducible refine Cb (f:=88) rfl ?_);refine Jc (some 15) rfl rfl Try.func88 (by kernel_rfl) rfl #[.agg #[.int .i64 kf,.int .i64 Oc,.int .i64 Bc,.int .i64 Nc,.int .i64 Ed,.int .i64 qg,.string Ag]] rfl laK ?_;(with_reducible refine (Xd.calls kj3 kf Oc Bc Nc Ed qg Ag t104 _ A14.out).mono ?_);rintro e um ⟨zC,rfl,fj,hb⟩;refine ⟨_,rfl,?_⟩;have Bb:=aa.mk (Kd.Yb BaK hb);have Db:=aa.mk (Kd.td (Kd.mad (M:=fun k_=>(di k_ ∨ w.heap.size ≤ k_)) fj (by first|exact HK.out.1|exact (show Kept w _ (fun k_=>di k_) from by repeat (first|(with_reducible first|exact HK.out|apply Kept.alloc|apply Kept.drewN|apply Kept.drew|refine Kept.setCell ?_ (.inr Jd.out) _)|exact HK.out)).1) (fun k_ h_=>.inr h_)) (Da iaK));have Ib:=aa.mk (Na (g:=ya) (o:=.cells #[.int .i64 kf,.int .i64 Oc,.int .i64 Bc,.int .i64 Nc,.int .i64 Ed,.int .i64 qg,.string Ag] 65 (0,0)) kaK hb);have Xb:=aa.mk (Kept.below (S:=(fun k_=>di k_)) MaK hb);have De:=aa.mk (Ma iaK hb);clear Nd ta HK HB;have Nd:=Bb;have Vh:=Db;have ta:=Ib;have HK:=Xb;have HB:=De;clear Bb Db Ib Xb De;(try clear hb);(try clear ek);(try clear hk);(try clear hi);(try clear fj);obtain ⟨Wk,Uk,D5⟩:=Kd.Lc Vh.out;subst D5))
   go_loopg [17] kj3 (fun kq v17 w'=>∃ (rH:List Bool) (ak:Int),v17 = .int .i64 ak∧aa (Ye.l0 kq rH t104 (t104.length:Int) ak=some r)∧aa (kq ≤ kj3)∧aa (Kd.R Kd.bool 4 w' w0.heap.size (fun k_=>(di k_ ∨ w.heap.size ≤ k_)) pg rH)∧aa (Kd.R (Kd.int .i64) 3 w' w0.heap.size (fun k_=>(di k_ ∨ w.heap.size ≤ k_)) (.slice Wk t104.length Uk) t104)∧aa (w'.heap[ya]? = some (.cells #[.int .i64 kf,.int .i64 Oc,.int .i64 Bc,.int .i64 Nc,.int .i64 Ed,.int .i64 qg,.string Ag] 65 (0,0)))∧aa (Kept w w' (fun k_=>di k_))∧aa (Below w0.heap.size w0 w'))
   case atStart=>exact ⟨(FY),(0),saK,H',⟨Nat.le_refl _⟩,⟨PaK⟩,⟨by (with_reducible repeat (first|apply Kd.Xa|apply Kd.Ya|apply Kd.gb));exact Kd.yc Vh.out (fun _ hk=>hk.1)⟩,⟨taK⟩,⟨NaK⟩,⟨oaK⟩⟩
   case round =>
    clear H'
    try clear c1
    try clear p1
    try clear q1
    try clear hx1
    try clear p2
    try clear c7
    try clear c8
    try clear Kp
    try clear c9
    try clear eM
    try clear WM
    try clear oR
    try clear l7
    try clear k7
    try clear Maf
    try clear Yay
    try clear Ix
    try clear Hx
    try clear Gx
    try clear Ex
    try clear Dx
    try clear ZQ
    try clear YQ
    try clear Qt
    try clear Pt
    try clear Ot
    try clear Nt
    try clear Ov
    try clear cF
    try clear bF
    try clear Rw
    try clear Qw
    try clear Pw
    try clear Ow
    try clear Nw
    try clear jQ
    try clear iQ
    try clear Ys
    try clear Xs
    try clear Ws
    try clear Vs
    try clear Cv
    try clear ZE
    try clear YE
    try clear bI
    try clear p1
    try clear l7
    try clear p2
    try clear q1
    try clear k7
    (try clear HA);(try clear KF);(try clear Nd);(try clear mH);(try clear ta);(try clear HK);(try clear HB);obtain ⟨rH,ak,rfl,HA,KF,Nd,mH,ta,HK,HB⟩:=hrel;cases gk with
    | zero=>exact absurd HA.out (by simp [Ye.l0])
    | succ k2 =>
     have H:=HA.out;clear HA;simp only [Ye.l0] at H
     by_cases BG:ak < (t104.length:Int)
     ·rw [if_pos BG] at H;have gy:decide (ak < (t104.length:Int))=true:=decide_eq_true BG;clear BG
      by_cases iC:0 ≤ ak
      ·rw [if_pos iC] at H;have nR:decide (0 ≤ ak)=true:=decide_eq_true iC;clear iC
       by_cases Tp:ak < (t104.length:Int)
       ·rw [if_pos Tp] at H;have fy:decide (ak < (t104.length:Int))=true:=decide_eq_true Tp;clear Tp
        by_cases iE:0 ≤ (rd t104 ak)
        ·rw [if_pos iE] at H;have WV:decide (0 ≤ (rd t104 ak))=true:=decide_eq_true iE;clear iE
         by_cases gK:(rd t104 ak) < (rH.length:Int)
         ·rw [if_pos gK] at H;have saE:decide ((rd t104 ak) < (rH.length:Int))=true:=decide_eq_true gK;clear gK;obtain ⟨tj,Dh⟩:∃ y_:List Bool,y_=(rH.set ((rd t104 ak):Int).toNat true):=⟨_,rfl⟩;replace H:(Ye.l0 k2 tj t104 (t104.length:Int) (wrap64 (ak + 1)))=some r:=by first|(rw [Dh];with_reducible exact H)|(have Ld:=(Option.bind_some _ _).symm.trans H;rw [Dh];with_reducible exact Ld)|(have Ld:=(Option.bind_some _ _).symm.trans H;with_reducible exact Ld)|with_reducible exact H|(rw [Dh];exact H)|exact H
          have Ko:=aa.mk Dh;clear Dh;have H':=aa.mk H;clear H;have taa:0 ≤ (ak:Int):=Va;have paa:ak < (t104.length:Int):=Va;obtain ⟨waE,Maz,Wan⟩:=Kd.Bm (Kd.Jb mH.out).2.2 ak taa paa;cases Maz;replace taa:=eq_true taa;replace paa:=eq_true paa;have p23:0 ≤ ((rd t104 ak):Int):=Va;have q23:((rd t104 ak):Int) < ((rH.length:Int):Int):=Va;obtain ⟨RS,Uak,Pak,Cak,paz,paH,kan⟩:=Kd.Kn Nd.out (by omega);(first|cases Pak|(injection Pak with vp YJ ZJ;(first|subst vp|(injection vp with vp;subst vp));subst ZJ;clear YJ));have iaB:=aa.mk Cak;have GaI:=aa.mk kan;clear Cak paz kan;have AaA:=aa.mk (show (di RS ∨ w.heap.size ≤ RS) from (Nd.out.1 _ rfl));obtain ⟨Sax,Vay⟩:=Kd.Br false Nd.out ((rd t104 ak):Int) p23 q23;replace p23:=eq_true p23;replace q23:=eq_true q23;have KO:=Kd.Sy Nd.out ((rd t104 ak):Int) true;go_wp2_with (first|((with_reducible refine Tf (t:=4) (p:=23) rfl ?_);refine uf (t:=4) (p:=23) (v:=?daa) (w1:=(wr.setCell ⟨RS,((rd t104 ak):Int).toNat,none⟩ (.bool true))) ?hg ?ho ?hn ?hr ?_;(case ho=>rfl);(case hg=>rfl);(case hn=>rfl);(case hr=>exact gaK);intro gG hw;have hg:wr.grownBy gG (some RS):=(by rw [hw];exact KO.2);have zn:Kd.R Kd.bool 4 gG w0.heap.size (fun k_=>(di k_ ∨ w.heap.size ≤ k_)) (.slice (some ⟨RS,0,none⟩) rH.length Uak) tj:=(by rw [hw,Ko.out];exact KO.1);clear KO;have Bb:=aa.mk (zn);have Db:=aa.mk (Kd.Lx (v:=(.slice (some ⟨RS,0,none⟩) rH.length Uak)) (by (with_reducible repeat (first|apply Kd.Xa|apply Kd.Ya|apply Kd.gb));exact mH.out) (Kd.zp Nd.out) (by decide) hg);have Ib:=aa.mk (Mc (g:=ya) (o:=.cells #[.int .i64 kf,.int .i64 Oc,.int .i64 Bc,.int .i64 Nc,.int .i64 Ed,.int .i64 qg,.string Ag] 65 (0,0)) kaK hg (Kd.Yh Nd.out ta.out (by decide)));have Xb:=aa.mk ((by rw [hw];exact ua (HB.out) iaB.out:Below w0.heap.size w0 gG));have De:=aa.mk (Kept.Bh (S:=(fun k_=>di k_)) hg MaK (fun k_ e_=>(Nd.out.1 k_ e_)));clear Nd mH ta HB HK;have Nd:=Bb;have mH:=Db;have ta:=Ib;have HB:=Xb;have HK:=De;clear Bb Db Ib Xb De hg hw zn))
          go_roundg k2
          case measure=>have:=UK.out;have:=KF.out;omega
          case rel=>exact ⟨(tj),(wrap64 (ak + 1)),saK,H',⟨by have:=UK.out;have:=KF.out;omega⟩,⟨PaK⟩,⟨by (with_reducible repeat (first|apply Kd.Xa|apply Kd.Ya|apply Kd.gb));exact mH.out⟩,⟨taK⟩,⟨NaK⟩,⟨oaK⟩⟩
         ·rw [if_neg gK] at H;exact absurd H (by simp)
        ·rw [if_neg iE] at H;exact absurd H (by simp)
       ·rw [if_neg Tp] at H;exact absurd H (by simp)
      ·rw [if_neg iC] at H;exact absurd H (by simp)
     ·rw [if_neg BG] at H;have gy:decide (ak < (t104.length:Int))=false:=decide_eq_false BG;clear BG;obtain rfl:=Option.some.inj H;go_wp2
      first|go_end0|((try simp only [Exit.inBlock,Exit.then]);refine bodyPost_ret (results_none rfl _ _ _) rfl ?_)
      exact ⟨naK,PaK,oaK,NaK⟩
def Pj.f (Ua:List Int) (Pa:Int) (Ra:Int) (Sa:Int) (Fa:List (Ff)) (l1:List (List Bool)) (a2:Int):Option (List Bool):=(some (([]:List Bool):List Bool)).bind fun Rc=>(if 0 ≤ a2 then (if a2 < (l1.length:Int) then (if Rc.length + (Rl l1 a2).length < 140737488355328 then ((some (Rc ++ (Rl l1 a2):List Bool)).bind fun Oe=>(if a2 < (Fa.length:Int) then (if ((Ia Fa a2).f1)=0 then (some Oe) else (if 0 ≤ ((Ia Fa a2).f2) then (if ((Ia Fa a2).f2) < (Oe.length:Int) then (some (Oe.set (((Ia Fa a2).f2):Int).toNat true)) else (none)) else (none))) else (none))) else (none)) else (none)) else (none))
theorem Pj.calls (yb:Option Addr) (zb:Nat) (Ua:List Int) (Pa:Int) (Ra:Int) (Sa:Int) (fc:Option Addr) (Qb:Nat) (Fa:List (Ff)) (A1:Option Addr) (c1:Nat) (l1:List (List Bool)) (a2:Int) (r:List Bool) (w:World) (jf:Kd.C (Kd.int .i64) w yb Ua.length Ua) (Ze:Ua.length ≤ zb) (Lg:Kd.C Wr w fc Fa.length Fa) (Ig:Fa.length ≤ Qb) (Hu:Kd.C (Kd.slice 4 Kd.bool) w A1 l1.length l1) (Qp:l1.length ≤ c1) (h:Pj.f Ua Pa Ra Sa Fa l1 a2=some r) :
  Calls Try.prog 81 #[.agg #[.slice yb Ua.length zb,.int .i64 Pa,.int .i64 Ra,.int .i64 Sa,.slice fc Fa.length Qb],.slice A1 l1.length c1,.int .i64 a2] w fun e w'=>∃ Zn:Value,e = .returned (Zn)∧Kd.R Kd.bool 4 w' w.heap.size (fun _=>True) Zn r∧Below w.heap.size w w':=by
 have uI:=Try.underlying30;have oG:=Try.underlying59;have lf:=aa.mk jf;have Df:=aa.mk Ze;clear jf Ze;have Tg:=aa.mk Lg;have Ej:=aa.mk Ig;clear Lg Ig;have pE:=aa.mk Hu;have QF:=aa.mk Qp;clear Hu Qp;have HB:=aa.mk (Below.refl w.heap.size w);have H:((some (([]:List Bool):List Bool)).bind fun Rc=>(if 0 ≤ a2 then (if a2 < (l1.length:Int) then (if Rc.length + (Rl l1 a2).length < 140737488355328 then ((some (Rc ++ (Rl l1 a2):List Bool)).bind fun Oe=>(if a2 < (Fa.length:Int) then (if ((Ia Fa a2).f1)=0 then (some Oe) else (if 0 ≤ ((Ia Fa a2).f2) then (if ((Ia Fa a2).f2) < (Oe.length:Int) then (some (Oe.set (((Ia Fa a2).f2):Int).toNat true)) else (none)) else (none))) else (none))) else (none)) else (none)) else (none)))=some r:=h;clear h;obtain ⟨Rc,zg⟩:∃ y_:List Bool,y_=(([]:List Bool)):=⟨_,rfl⟩;replace H:(if 0 ≤ a2 then (if a2 < (l1.length:Int) then (if Rc.length + (Rl l1 a2).length < 140737488355328 then ((some (Rc ++ (Rl l1 a2):List Bool)).bind fun Oe=>(if a2 < (Fa.length:Int) then (if ((Ia Fa a2).f1)=0 then (some Oe) else (if 0 ≤ ((Ia Fa a2).f2) then (if ((Ia Fa a2).f2) < (Oe.length:Int) then (some (Oe.set (((Ia Fa a2).f2):Int).toNat true)) else (none)) else (none))) else (none))) else (none)) else (none)) else (none))=some r:=by first|(rw [zg];with_reducible exact H)|(have Ld:=(Option.bind_some _ _).symm.trans H;rw [zg];with_reducible exact Ld)|(have Ld:=(Option.bind_some _ _).symm.trans H;with_reducible exact Ld)|with_reducible exact H|(rw [zg];exact H)|exact H
 have Qh:=aa.mk zg;clear zg
 by_cases c4:0 ≤ a2
 ·rw [if_pos c4] at H;have mj:decide (0 ≤ a2)=true:=decide_eq_true c4;clear c4
  by_cases c5:a2 < (l1.length:Int)
  ·rw [if_pos c5] at H;have Tl:decide (a2 < (l1.length:Int))=true:=decide_eq_true c5;clear c5
   by_cases c6:Rc.length + (Rl l1 a2).length < 140737488355328
   ·rw [if_pos c6] at H;have gam:=aa.mk c6;clear c6;obtain ⟨Oe,gv⟩:∃ y_:List Bool,y_=(Rc ++ (Rl l1 a2)):=⟨_,rfl⟩;replace H:(if a2 < (Fa.length:Int) then (if ((Ia Fa a2).f1)=0 then (some Oe) else (if 0 ≤ ((Ia Fa a2).f2) then (if ((Ia Fa a2).f2) < (Oe.length:Int) then (some (Oe.set (((Ia Fa a2).f2):Int).toNat true)) else (none)) else (none))) else (none))=some r:=by first|(rw [gv];with_reducible exact H)|(have Ld:=(Option.bind_some _ _).symm.trans H;rw [gv];with_reducible exact Ld)|(have Ld:=(Option.bind_some _ _).symm.trans H;with_reducible exact Ld)|with_reducible exact H|(rw [gv];exact H)|exact H
    have BR:=aa.mk gv;clear gv
    by_cases c7:a2 < (Fa.length:Int)
    ·rw [if_pos c7] at H;have Yl:decide (a2 < (Fa.length:Int))=true:=decide_eq_true c7;clear c7
     by_cases c8:((Ia Fa a2).f1)=0
     ·rw [if_pos c8] at H;have Kp:=beq_iff_eq.mpr c8;have AG:=bne_eq_false_iff_eq.mpr c8;clear c8;obtain rfl:=Option.some.inj H;go_enter Try.func81,Try.ntmps81;go_wp2_with (first|((with_reducible refine Za (N:=3) rfl ?_);refine Ab ?hg (N:=3) ?hd (cs:=#[.slice yb Ua.length zb,.int .i64 Pa,.int .i64 Ra,.int .i64 Sa,.slice fc Fa.length Qb]) (t:=30) ?hr ?_;(case hd|hg=>rfl);(case hr=>exact gaK);intro ya hg w9 Fb hb;have Bb:=aa.mk (Ma jaK hb);have Db:=aa.mk (Fb);have Ib:=aa.mk ((by rw [hg];exact (Da jaK):w.heap.size ≤ ya));have Xb:=aa.mk ((by rw [hg];exact (Da jaK):w.heap.size ≤ ya));clear HB;have HB:=Bb;have ta:=Db;have Jd:=Ib;have Qa:=Xb;clear Bb Db Ib Xb hb Fb hg)|((with_reducible refine Za (N:=9) rfl ?_);refine Kd.Ei Kd.bool _ 4 ?hg (N:=9) ?hd (xs:=([]:List Bool)) (inner:=[]) (ok:=fun _=>True) (Sh:=fun _=>True) ?hr ?hp (fun _ hk=>hk) trivial (Below.refl _ _) (Nat.le_refl _) (by simp) ?_;(case hd|hg=>rfl);(case hr=>exact gaK);(case hp=>exact (Wc.none _ _));intro En Bo jv hb bk xe;clear bk xe;(first|rw [← Qh.out] at jv|(simp only [Int.reduceToNat] at jv;rw [← Qh.out] at jv));have Bb:=aa.mk (Kd.td jv (Da iaK));have Db:=aa.mk (Na (g:=ya) (o:=.cells #[.slice yb Ua.length zb,.int .i64 Pa,.int .i64 Ra,.int .i64 Sa,.slice fc Fa.length Qb] 30 (0,0)) kaK hb);have Ib:=aa.mk (Ma iaK hb);clear ta HB;have dg:=Bb;have ta:=Db;have HB:=Ib;clear Bb Db Ib hb jv;have sn:0 ≤ (a2:Int):=Va;have qn:a2 < (l1.length:Int):=Va;obtain ⟨Zl,Vl,Ul,xB,Li,Dk,Fk⟩:=eW pE.out a2 sn qn;cases xB;replace Li:=Ja HB.out Li;have Bp:=aa.mk Fk;have Mx:=aa.mk Dk;clear Fk Dk;replace sn:=eq_true sn;replace qn:=eq_true qn)|((with_reducible refine Qe (b:=.append) (xs:=#[.tmp 9,.tmp 13]) rfl ?_);at_builtin;refine Kd.Uh Kd.bool (w0:=w) w.heap.size rfl (.tmp 9) (.tmp 13) 60 4 (.bool false) 1 rfl Try.underlying60 zL rfl (by decide) (by omega) En Rc (Rl l1 a2) _ _ _ (fun _=>True) (fun _=>False) rfl rfl ?aO ?aR (fun _ _ h=>h) (fun _ h=>h.elim) ?aF ?aB ?aS ?aL ?_;(case aR=>repeat (first|exact (Kd.Kb Bp.out HB.out)|(with_reducible refine Kd.Vb ?_ _)|(with_reducible refine Kd.Ub ?_ _)|(with_reducible refine Kd.tc ?_)));(case aB=>exact iaK);(case aF=>exact (fun _ _=>trivial));(case aO=>exact LaK);(case aS=>exact (Da iaK));(case aL=>have:=gam.out;omega);intro faf Ao ho hb hg hat;rw [← BR.out] at ho;have Bb:=aa.mk (Mc (g:=ya) (o:=.cells #[.slice yb Ua.length zb,.int .i64 Pa,.int .i64 Ra,.int .i64 Sa,.slice fc Fa.length Qb] 30 (0,0)) kaK hg (Kd.Yh dg.out ta.out (by decide)));have Db:=aa.mk (hb);have Ib:=aa.mk (ho);clear ta HB dg;have ta:=Bb;have HB:=Db;have Jm:=Ib;clear Bb Db Ib ho hb hg hat;have ir:Ao.cell? ⟨ya,0,none⟩=some (.slice yb Ua.length zb):=(ja ta.out 0).trans rfl;have gr:Ao.cell? ⟨ya,1,none⟩=some (.int .i64 Pa):=(ja ta.out 1).trans rfl;have er:Ao.cell? ⟨ya,2,none⟩=some (.int .i64 Ra):=(ja ta.out 2).trans rfl;have dr:Ao.cell? ⟨ya,3,none⟩=some (.int .i64 Sa):=(ja ta.out 3).trans rfl;have iu:Ao.cell? ⟨ya,4,none⟩=some (.slice fc Fa.length Qb):=(ja ta.out 4).trans rfl;have Fq:=qa ta.out 0;have Dq:=qa ta.out 1;have Cq:=qa ta.out 2;have Bq:=qa ta.out 3;have Gt:=qa ta.out 4;have Qs:0 ≤ (a2:Int):=Va;have Ms:a2 < (Fa.length:Int):=Va;obtain ⟨mh,pn,bn,aK,Bk,Ak,zk,xk,vk,Ck,Ek⟩:=Bj Tg.out a2 Qs Ms;cases aK;replace Bk:=Ja HB.out Bk;replace Ak:=Ja HB.out Ak;replace zk:=Ja HB.out zk;replace xk:=Ja HB.out xk;replace vk:=Ja HB.out vk;have oE:=aa.mk Ek;have qE:=aa.mk Ck;clear Ek Ck;replace Qs:=eq_true Qs;replace Ms:=eq_true Ms)|((with_reducible refine Za (N:=8) rfl ?_);refine Ab ?hg (N:=8) ?hd (cs:=#[.slice none 0 0,.int .i64 0,.int .i64 0,.int .i64 0,.int .i64 0]) (t:=59) ?hr ?_;(case hd|hg=>rfl);(case hr=>exact gaK);intro uc hg Ol Fb hb;have Bb:=aa.mk (Kd.Yb (by (with_reducible repeat (first|apply Kd.Xa|apply Kd.Ya|apply Kd.gb));exact Jm.out) hb);have Db:=aa.mk (Na (g:=ya) (o:=.cells #[.slice yb Ua.length zb,.int .i64 Pa,.int .i64 Ra,.int .i64 Sa,.slice (some mh) Fa.length Qb] 30 (0,0)) kaK hb);have Ib:=aa.mk (Ma iaK hb);have Xb:=aa.mk (Fb);have De:=aa.mk ((by rw [hg];exact (Da iaK):w.heap.size ≤ uc));have ef:=aa.mk ((by rw [hg];exact (Da iaK):w.heap.size ≤ uc));have Cf:=aa.mk ((by rw [hg];exact Nat.ne_of_lt (Tb (g:=ya) (o:=.cells #[.slice yb Ua.length zb,.int .i64 Pa,.int .i64 Ra,.int .i64 Sa,.slice (some mh) Fa.length Qb] 30 (0,0)) kaK):ya ≠ uc));have Cu:=aa.mk ((by rw [hg];exact Nat.ne_of_gt (Tb (g:=ya) (o:=.cells #[.slice yb Ua.length zb,.int .i64 Pa,.int .i64 Ra,.int .i64 Sa,.slice (some mh) Fa.length Qb] 30 (0,0)) kaK):uc ≠ ya));clear Jm ta HB;have Jm:=Bb;have ta:=Db;have HB:=Ib;have ic:=Xb;have sC:=De;have Rg:=ef;have Fc:=Cf;have Uf:=Cu;clear Bb Db Ib Xb De ef Cf Cu hb Fb hg;have e8:=Uf.out;have P7:=Fc.out;have Cx:Ol.cell? ⟨uc,0,none⟩=some (.slice none 0 0):=(ja ic.out 0).trans rfl;have Bx:Ol.cell? ⟨uc,1,none⟩=some (.int .i64 0):=(ja ic.out 1).trans rfl;have zx:Ol.cell? ⟨uc,2,none⟩=some (.int .i64 0):=(ja ic.out 2).trans rfl;have yx:Ol.cell? ⟨uc,3,none⟩=some (.int .i64 0):=(ja ic.out 3).trans rfl;have xx:Ol.cell? ⟨uc,4,none⟩=some (.int .i64 0):=(ja ic.out 4).trans rfl;have Mw:=qa ic.out 0;have Lw:=qa ic.out 1;have Kw:=qa ic.out 2;have Jw:=qa ic.out 3;have Iw:=qa ic.out 4));go_ret;exact ⟨_,naK,by (with_reducible repeat (first|apply Kd.Xa|apply Kd.Ya|apply Kd.gb));exact Kd.yc (Kd.zf (p:=⟨uc,4,none⟩) (Kd.zf (p:=⟨uc,3,none⟩) (Kd.zf (p:=⟨uc,2,none⟩) (Kd.zf (p:=⟨uc,1,none⟩) (Kd.zf (p:=⟨uc,0,none⟩) (Kd.nh Jm.out ic.out (by decide)) (fun _ hk=>hk.2) (.slice pn ((Ia Fa a2).f0).length bn)) (fun _ hk=>hk.2) (.int .i64 ((Ia Fa a2).f1))) (fun _ hk=>hk.2) (.int .i64 ((Ia Fa a2).f2))) (fun _ hk=>hk.2) (.int .i64 ((Ia Fa a2).f3))) (fun _ hk=>hk.2) (.int .i64 ((Ia Fa a2).f4))) (fun _ hk=>trivial),by repeat (first|(with_reducible first|exact HB.out|apply ia|apply ga|apply oa|refine ua ?_ Qa.out|refine ua ?_ Rg.out)|exact HB.out)⟩
     ·rw [if_neg c8] at H;have Kp:=beq_eq_false_iff_ne.mpr c8;have AG:=bne_iff_ne.mpr c8
      by_cases iK:0 ≤ ((Ia Fa a2).f2)
      ·rw [if_pos iK] at H;have jC:decide (0 ≤ ((Ia Fa a2).f2))=true:=decide_eq_true iK;clear iK
       by_cases BG:((Ia Fa a2).f2) < (Oe.length:Int)
       ·rw [if_pos BG] at H;have gy:decide (((Ia Fa a2).f2) < (Oe.length:Int))=true:=decide_eq_true BG;clear BG;obtain ⟨Mm,fl⟩:∃ y_:List Bool,y_=(Oe.set (((Ia Fa a2).f2):Int).toNat true):=⟨_,rfl⟩;replace H:(some Mm)=some r:=by first|(rw [fl];with_reducible exact H)|(have Ld:=(Option.bind_some _ _).symm.trans H;rw [fl];with_reducible exact Ld)|(have Ld:=(Option.bind_some _ _).symm.trans H;with_reducible exact Ld)|with_reducible exact H|(rw [fl];exact H)|exact H
        have OA:=aa.mk fl;clear fl;obtain rfl:=Option.some.inj H;go_enter Try.func81,Try.ntmps81;go_wp2_with (first|((with_reducible refine Za (N:=3) rfl ?_);refine Ab ?hg (N:=3) ?hd (cs:=#[.slice yb Ua.length zb,.int .i64 Pa,.int .i64 Ra,.int .i64 Sa,.slice fc Fa.length Qb]) (t:=30) ?hr ?_;(case hd|hg=>rfl);(case hr=>exact gaK);intro ya hg Y6 Fb hb;have Bb:=aa.mk (Ma jaK hb);have Db:=aa.mk (Fb);have Ib:=aa.mk ((by rw [hg];exact (Da jaK):w.heap.size ≤ ya));have Xb:=aa.mk ((by rw [hg];exact (Da jaK):w.heap.size ≤ ya));clear HB;have HB:=Bb;have ta:=Db;have Jd:=Ib;have Qa:=Xb;clear Bb Db Ib Xb hb Fb hg)|((with_reducible refine Za (N:=9) rfl ?_);refine Kd.Ei Kd.bool _ 4 ?hg (N:=9) ?hd (xs:=([]:List Bool)) (inner:=[]) (ok:=fun _=>True) (Sh:=fun _=>True) ?hr ?hp (fun _ hk=>hk) trivial (Below.refl _ _) (Nat.le_refl _) (by simp) ?_;(case hd|hg=>rfl);(case hr=>exact gaK);(case hp=>exact (Wc.none _ _));intro En Wp SU hb bk xe;clear bk xe;(first|rw [← Qh.out] at SU|(simp only [Int.reduceToNat] at SU;rw [← Qh.out] at SU));have Bb:=aa.mk (Kd.td SU (Da iaK));have Db:=aa.mk (Na (g:=ya) (o:=.cells #[.slice yb Ua.length zb,.int .i64 Pa,.int .i64 Ra,.int .i64 Sa,.slice fc Fa.length Qb] 30 (0,0)) kaK hb);have Ib:=aa.mk (Ma iaK hb);clear ta HB;have dg:=Bb;have ta:=Db;have HB:=Ib;clear Bb Db Ib hb SU;have sn:0 ≤ (a2:Int):=Va;have qn:a2 < (l1.length:Int):=Va;obtain ⟨Zl,Vl,Ul,xB,Li,Dk,Fk⟩:=eW pE.out a2 sn qn;cases xB;replace Li:=Ja HB.out Li;have Bp:=aa.mk Fk;have Mx:=aa.mk Dk;clear Fk Dk;replace sn:=eq_true sn;replace qn:=eq_true qn)|((with_reducible refine Qe (b:=.append) (xs:=#[.tmp 9,.tmp 13]) rfl ?_);at_builtin;refine Kd.Uh Kd.bool (w0:=w) w.heap.size rfl (.tmp 9) (.tmp 13) 60 4 (.bool false) 1 rfl Try.underlying60 zL rfl (by decide) (by omega) En Rc (Rl l1 a2) _ _ _ (fun _=>True) (fun _=>False) rfl rfl ?aO ?aR (fun _ _ h=>h) (fun _ h=>h.elim) ?aF ?aB ?aS ?aL ?_;(case aR=>repeat (first|exact (Kd.Kb Bp.out HB.out)|(with_reducible refine Kd.Vb ?_ _)|(with_reducible refine Kd.Ub ?_ _)|(with_reducible refine Kd.tc ?_)));(case aB=>exact iaK);(case aF=>exact (fun _ _=>trivial));(case aO=>exact LaK);(case aS=>exact (Da iaK));(case aL=>have:=gam.out;omega);intro faf Po ho hb hg hat;rw [← BR.out] at ho;have Bb:=aa.mk (Mc (g:=ya) (o:=.cells #[.slice yb Ua.length zb,.int .i64 Pa,.int .i64 Ra,.int .i64 Sa,.slice fc Fa.length Qb] 30 (0,0)) kaK hg (Kd.Yh dg.out ta.out (by decide)));have Db:=aa.mk (hb);have Ib:=aa.mk (ho);clear ta HB dg;have ta:=Bb;have HB:=Db;have Jm:=Ib;clear Bb Db Ib ho hb hg hat;have Wq:Po.cell? ⟨ya,0,none⟩=some (.slice yb Ua.length zb):=(ja ta.out 0).trans rfl;have Vq:Po.cell? ⟨ya,1,none⟩=some (.int .i64 Pa):=(ja ta.out 1).trans rfl;have Uq:Po.cell? ⟨ya,2,none⟩=some (.int .i64 Ra):=(ja ta.out 2).trans rfl;have Rq:Po.cell? ⟨ya,3,none⟩=some (.int .i64 Sa):=(ja ta.out 3).trans rfl;have bu:Po.cell? ⟨ya,4,none⟩=some (.slice fc Fa.length Qb):=(ja ta.out 4).trans rfl;have uq:=qa ta.out 0;have rq:=qa ta.out 1;have qq:=qa ta.out 2;have oq:=qa ta.out 3;have Bt:=qa ta.out 4;have Qs:0 ≤ (a2:Int):=Va;have Ms:a2 < (Fa.length:Int):=Va;obtain ⟨mh,pn,bn,aK,Bk,Ak,zk,xk,vk,Ck,Ek⟩:=Bj Tg.out a2 Qs Ms;cases aK;replace Bk:=Ja HB.out Bk;replace Ak:=Ja HB.out Ak;replace zk:=Ja HB.out zk;replace xk:=Ja HB.out xk;replace vk:=Ja HB.out vk;have oE:=aa.mk Ek;have qE:=aa.mk Ck;clear Ek Ck;replace Qs:=eq_true Qs;replace Ms:=eq_true Ms)|((with_reducible refine Za (N:=8) rfl ?_);refine Ab ?hg (N:=8) ?hd (cs:=#[.slice none 0 0,.int .i64 0,.int .i64 0,.int .i64 0,.int .i64 0]) (t:=59) ?hr ?_;(case hd|hg=>rfl);(case hr=>exact gaK);intro uc hg gG Fb hb;have Bb:=aa.mk (Kd.Yb (by (with_reducible repeat (first|apply Kd.Xa|apply Kd.Ya|apply Kd.gb));exact Jm.out) hb);have Db:=aa.mk (Na (g:=ya) (o:=.cells #[.slice yb Ua.length zb,.int .i64 Pa,.int .i64 Ra,.int .i64 Sa,.slice (some mh) Fa.length Qb] 30 (0,0)) kaK hb);have Ib:=aa.mk (Ma iaK hb);have Xb:=aa.mk (Fb);have De:=aa.mk ((by rw [hg];exact (Da iaK):w.heap.size ≤ uc));have ef:=aa.mk ((by rw [hg];exact (Da iaK):w.heap.size ≤ uc));have Cf:=aa.mk ((by rw [hg];exact Nat.ne_of_lt (Tb (g:=ya) (o:=.cells #[.slice yb Ua.length zb,.int .i64 Pa,.int .i64 Ra,.int .i64 Sa,.slice (some mh) Fa.length Qb] 30 (0,0)) kaK):ya ≠ uc));have Cu:=aa.mk ((by rw [hg];exact Nat.ne_of_gt (Tb (g:=ya) (o:=.cells #[.slice yb Ua.length zb,.int .i64 Pa,.int .i64 Ra,.int .i64 Sa,.slice (some mh) Fa.length Qb] 30 (0,0)) kaK):uc ≠ ya));clear Jm ta HB;have Jm:=Bb;have ta:=Db;have HB:=Ib;have ic:=Xb;have sC:=De;have Rg:=ef;have Fc:=Cf;have Uf:=Cu;clear Bb Db Ib Xb De ef Cf Cu hb Fb hg;have b8:=Uf.out;have O7:=Fc.out;have Wt:gG.cell? ⟨uc,0,none⟩=some (.slice none 0 0):=(ja ic.out 0).trans rfl;have Vt:gG.cell? ⟨uc,1,none⟩=some (.int .i64 0):=(ja ic.out 1).trans rfl;have Ut:gG.cell? ⟨uc,2,none⟩=some (.int .i64 0):=(ja ic.out 2).trans rfl;have Tt:gG.cell? ⟨uc,3,none⟩=some (.int .i64 0):=(ja ic.out 3).trans rfl;have Rt:gG.cell? ⟨uc,4,none⟩=some (.int .i64 0):=(ja ic.out 4).trans rfl;have nt:=qa ic.out 0;have jt:=qa ic.out 1;have ct:=qa ic.out 2;have bt:=qa ic.out 3;have Zs:=qa ic.out 4)|((with_reducible refine Tf (t:=59) (p:=8) rfl ?_);refine uf (t:=59) (p:=8) (v:=?caa) (w1:=(((((gG.setCell ⟨uc,0,none⟩ (.slice pn ((Ia Fa a2).f0).length bn)).setCell ⟨uc,1,none⟩ (.int .i64 ((Ia Fa a2).f1))).setCell ⟨uc,2,none⟩ (.int .i64 ((Ia Fa a2).f2))).setCell ⟨uc,3,none⟩ (.int .i64 ((Ia Fa a2).f3))).setCell ⟨uc,4,none⟩ (.int .i64 ((Ia Fa a2).f4)))) ?hg ?ho ?hn ?hr ?_;(case ho=>rfl);(case hg=>rfl);(case hn=>rfl);(case hr=>exact gaK);intro Fu hw;have Bb:aa (Kd.R Kd.bool 4 Fu w.heap.size (fun _=>True) faf Oe):=⟨(by rw [hw];exact (by (with_reducible repeat (first|apply Kd.Xa|apply Kd.Ya|apply Kd.gb));exact Kd.yc (Kd.zf (p:=⟨uc,4,none⟩) (Kd.zf (p:=⟨uc,3,none⟩) (Kd.zf (p:=⟨uc,2,none⟩) (Kd.zf (p:=⟨uc,1,none⟩) (Kd.zf (p:=⟨uc,0,none⟩) (Kd.nh Jm.out ic.out (by decide)) (fun _ hk=>hk.2) (.slice pn ((Ia Fa a2).f0).length bn)) (fun _ hk=>hk.2) (.int .i64 ((Ia Fa a2).f1))) (fun _ hk=>hk.2) (.int .i64 ((Ia Fa a2).f2))) (fun _ hk=>hk.2) (.int .i64 ((Ia Fa a2).f3))) (fun _ hk=>hk.2) (.int .i64 ((Ia Fa a2).f4))) (fun _ hk=>trivial)))⟩;have Db:aa (Fu.heap[ya]? = some (.cells #[.slice yb Ua.length zb,.int .i64 Pa,.int .i64 Ra,.int .i64 Sa,.slice (some mh) Fa.length Qb] 30 (0,0))):=⟨(by rw [hw];exact (by (with_reducible repeat (first|refine za ?_ _|refine Ba ?_|refine Aa ?_ _));refine Qd ?_ Fc.out _;(with_reducible repeat (first|refine za ?_ _|refine Ba ?_|refine Aa ?_ _));refine Qd ?_ Fc.out _;(with_reducible repeat (first|refine za ?_ _|refine Ba ?_|refine Aa ?_ _));refine Qd ?_ Fc.out _;(with_reducible repeat (first|refine za ?_ _|refine Ba ?_|refine Aa ?_ _));refine Qd ?_ Fc.out _;(with_reducible repeat (first|refine za ?_ _|refine Ba ?_|refine Aa ?_ _));refine Qd ?_ Fc.out _;(with_reducible repeat (first|refine za ?_ _|refine Ba ?_|refine Aa ?_ _));exact ta.out))⟩;have Ib:aa (Fu.heap[uc]? = some (.cells #[.slice pn ((Ia Fa a2).f0).length bn,.int .i64 ((Ia Fa a2).f1),.int .i64 ((Ia Fa a2).f2),.int .i64 ((Ia Fa a2).f3),.int .i64 ((Ia Fa a2).f4)] 59 (0,0))):=⟨(by rw [hw];exact (by (with_reducible repeat (first|refine za ?_ _|refine Ba ?_|refine Aa ?_ _));refine zd (cs:=#[.slice pn ((Ia Fa a2).f0).length bn,.int .i64 ((Ia Fa a2).f1),.int .i64 ((Ia Fa a2).f2),.int .i64 ((Ia Fa a2).f3),.int .i64 0]) ?_ 4 _ rfl;(with_reducible repeat (first|refine za ?_ _|refine Ba ?_|refine Aa ?_ _));refine zd (cs:=#[.slice pn ((Ia Fa a2).f0).length bn,.int .i64 ((Ia Fa a2).f1),.int .i64 ((Ia Fa a2).f2),.int .i64 0,.int .i64 0]) ?_ 3 _ rfl;(with_reducible repeat (first|refine za ?_ _|refine Ba ?_|refine Aa ?_ _));refine zd (cs:=#[.slice pn ((Ia Fa a2).f0).length bn,.int .i64 ((Ia Fa a2).f1),.int .i64 0,.int .i64 0,.int .i64 0]) ?_ 2 _ rfl;(with_reducible repeat (first|refine za ?_ _|refine Ba ?_|refine Aa ?_ _));refine zd (cs:=#[.slice pn ((Ia Fa a2).f0).length bn,.int .i64 0,.int .i64 0,.int .i64 0,.int .i64 0]) ?_ 1 _ rfl;(with_reducible repeat (first|refine za ?_ _|refine Ba ?_|refine Aa ?_ _));refine zd (cs:=#[.slice none 0 0,.int .i64 0,.int .i64 0,.int .i64 0,.int .i64 0]) ?_ 0 _ rfl;(with_reducible repeat (first|refine za ?_ _|refine Ba ?_|refine Aa ?_ _));exact ic.out))⟩;have Xb:aa (Below w.heap.size w Fu):=⟨(by rw [hw];exact (by repeat (first|(with_reducible first|exact HB.out|apply ia|apply ga|apply oa|refine ua ?_ Qa.out|refine ua ?_ Rg.out)|exact HB.out)))⟩;clear hw Jm ta ic HB;have Jm:=Bb;have ta:=Db;have ic:=Ib;have HB:=Xb;clear Bb Db Ib Xb;have AA:Fu.cell? ⟨uc,0,none⟩=some (.slice pn ((Ia Fa a2).f0).length bn):=(ja ic.out 0).trans rfl;have zA:Fu.cell? ⟨uc,1,none⟩=some (.int .i64 ((Ia Fa a2).f1)):=(ja ic.out 1).trans rfl;have yA:Fu.cell? ⟨uc,2,none⟩=some (.int .i64 ((Ia Fa a2).f2)):=(ja ic.out 2).trans rfl;have xA:Fu.cell? ⟨uc,3,none⟩=some (.int .i64 ((Ia Fa a2).f3)):=(ja ic.out 3).trans rfl;have aE:Fu.cell? ⟨uc,4,none⟩=some (.int .i64 ((Ia Fa a2).f4)):=(ja ic.out 4).trans rfl;have nA:=qa ic.out 0;have mA:=qa ic.out 1;have lA:=qa ic.out 2;have kA:=qa ic.out 3;have qD:=qa ic.out 4;have p19:0 ≤ (((Ia Fa a2).f2):Int):=Va;have q19:(((Ia Fa a2).f2):Int) < ((Oe.length:Int):Int):=Va;obtain ⟨fac,Raz,Qak,Dak,qaz,qaH,lan⟩:=Kd.Kn Jm.out (by omega);(first|cases Qak|(injection Qak with vp YJ ZJ;(first|subst vp|(injection vp with vp;subst vp));subst ZJ;clear YJ));have jaB:=aa.mk Dak;have HaI:=aa.mk lan;clear Dak qaz lan;obtain ⟨Tax,Xay⟩:=Kd.Br false Jm.out (((Ia Fa a2).f2):Int) p19 q19;replace p19:=eq_true p19;replace q19:=eq_true q19;obtain ⟨OaB,MaB⟩:=Kd.Br false Jm.out (((Ia Fa a2).f2):Int) (Va) (Va);have Cad:=Kd.Sy Jm.out (((Ia Fa a2).f2):Int) true)|((with_reducible refine Tf (t:=4) (p:=26) rfl ?_);refine uf (t:=4) (p:=26) (v:=?Xaw) (w1:=(Fu.setCell ⟨fac,(((Ia Fa a2).f2):Int).toNat,none⟩ (.bool true))) ?hg ?ho ?hn ?hr ?_;(case ho=>rfl);(case hg=>rfl);(case hn=>rfl);(case hr=>exact gaK);intro sH hw;have hg:Fu.grownBy sH (some fac):=(by rw [hw];exact Cad.2);have zn:Kd.R Kd.bool 4 sH w.heap.size (fun _=>True) (.slice (some ⟨fac,0,none⟩) Oe.length Raz) Mm:=(by rw [hw,OA.out];exact Cad.1);clear Cad;have Bb:=aa.mk (Mc (g:=ya) (o:=.cells #[.slice yb Ua.length zb,.int .i64 Pa,.int .i64 Ra,.int .i64 Sa,.slice (some mh) Fa.length Qb] 30 (0,0)) kaK hg (Kd.Yh Jm.out ta.out (by decide)));have Db:=aa.mk (zn);have Ib:=aa.mk (Mc (g:=uc) (o:=.cells #[.slice pn ((Ia Fa a2).f0).length bn,.int .i64 ((Ia Fa a2).f1),.int .i64 ((Ia Fa a2).f2),.int .i64 ((Ia Fa a2).f3),.int .i64 ((Ia Fa a2).f4)] 59 (0,0)) zaK hg (Kd.Yh Jm.out ic.out (by decide)));have Xb:=aa.mk ((by rw [hw];exact ua (HB.out) jaB.out:Below w.heap.size w sH));clear ta Jm ic HB;have ta:=Bb;have Jm:=Db;have ic:=Ib;have HB:=Xb;clear Bb Db Ib Xb hg hw zn));go_ret;exact ⟨_,naK,by (with_reducible repeat (first|apply Kd.Xa|apply Kd.Ya|apply Kd.gb));exact Jm.out,by repeat (first|(with_reducible first|exact HB.out|apply ia|apply ga|apply oa|refine ua ?_ Qa.out|refine ua ?_ Rg.out)|exact HB.out)⟩
       ·rw [if_neg BG] at H;exact absurd H (by simp)
      ·rw [if_neg iK] at H;exact absurd H (by simp)
    ·rw [if_neg c7] at H;exact absurd H (by simp)
   ·rw [if_neg c6] at H;exact absurd H (by simp)
  ·rw [if_neg c5] at H;exact absurd H (by simp)
 ·rw [if_neg c4] at H;exact absurd H (by simp)
def yg.l0:Nat→List Bool→List (tf)→Int→Option (List Bool)
 | 0,_,_,_=>none
 | k + 1,x7,x8,x9=>if x9 ≥ 0 then (if 0 ≤ x9 then (if x9 < (x8.length:Int) then ((Ye.f k x7 ((Ga x8 x9).f0) ((Ga x8 x9).f1) ((Ga x8 x9).f2) ((Ga x8 x9).f3) ((Ga x8 x9).f4) ((Ga x8 x9).f5) ((Ga x8 x9).f6)).bind fun t107=>(yg.l0 k t107 x8 (wrap64 (x9 - 1)))) else (none)) else (none)) else (some x7)
def yg.f (k:Nat) (Ua:List Int) (Pa:Int) (Ra:Int) (Sa:Int) (Fa:List (Ff)) (l1:List (List Bool)) (a2:Int):Option (List Bool):=(Pj.f Ua Pa Ra Sa Fa l1 a2).bind fun t102=>(if 0 ≤ a2 then (if a2 < (Fa.length:Int) then (yg.l0 k t102 ((Ia Fa a2).f0) (wrap64 ((((Ia Fa a2).f0).length:Int) - 1))) else (none)) else (none))
theorem yg.calls (k:Nat) (yb:Option Addr) (zb:Nat) (Ua:List Int) (Pa:Int) (Ra:Int) (Sa:Int) (fc:Option Addr) (Qb:Nat) (Fa:List (Ff)) (A1:Option Addr) (c1:Nat) (l1:List (List Bool)) (a2:Int) (r:List Bool) (w:World) (jf:Kd.C (Kd.int .i64) w yb Ua.length Ua) (Ze:Ua.length ≤ zb) (Lg:Kd.C Wr w fc Fa.length Fa) (Ig:Fa.length ≤ Qb) (Hu:Kd.C (Kd.slice 4 Kd.bool) w A1 l1.length l1) (Qp:l1.length ≤ c1) (h:yg.f k Ua Pa Ra Sa Fa l1 a2=some r) :
  Calls Try.prog 49 #[.agg #[.slice yb Ua.length zb,.int .i64 Pa,.int .i64 Ra,.int .i64 Sa,.slice fc Fa.length Qb],.slice A1 l1.length c1,.int .i64 a2] w fun e w'=>∃ Zn:Value,e = .returned (Zn)∧Kd.R Kd.bool 4 w' w.heap.size (fun _=>True) Zn r∧Below w.heap.size w w':=by
 have uI:=Try.underlying30;have CC:=Try.underlying65;have lf:=aa.mk jf;have Df:=aa.mk Ze;clear jf Ze;have Tg:=aa.mk Lg;have Ej:=aa.mk Ig;clear Lg Ig;have pE:=aa.mk Hu;have QF:=aa.mk Qp;clear Hu Qp;have HB:=aa.mk (Below.refl w.heap.size w);have H:((Pj.f Ua Pa Ra Sa Fa l1 a2).bind fun t102=>(if 0 ≤ a2 then (if a2 < (Fa.length:Int) then (yg.l0 k t102 ((Ia Fa a2).f0) (wrap64 ((((Ia Fa a2).f0).length:Int) - 1))) else (none)) else (none)))=some r:=h;clear h;replace H:=Option.bind_eq_some_iff.mp H;obtain ⟨t102,bY,H⟩:=H
 try dsimp only at H
 have A4:=aa.mk bY;clear bY
 by_cases c5:0 ≤ a2
 ·rw [if_pos c5] at H;have Tl:decide (0 ≤ a2)=true:=decide_eq_true c5;clear c5
  by_cases c6:a2 < (Fa.length:Int)
  ·rw [if_pos c6] at H;have vn:decide (a2 < (Fa.length:Int))=true:=decide_eq_true c6;clear c6;have H':=aa.mk H;clear H;go_enter Try.func49,Try.ntmps49;go_wp2_with (first|((with_reducible refine Za (N:=3) rfl ?_);refine Ab ?hg (N:=3) ?hd (cs:=#[.slice yb Ua.length zb,.int .i64 Pa,.int .i64 Ra,.int .i64 Sa,.slice fc Fa.length Qb]) (t:=30) ?hr ?_;(case hd|hg=>rfl);(case hr=>exact gaK);intro ya hg w7 Fb hb;have Bb:=aa.mk (Ma jaK hb);have Db:=aa.mk (Fb);have Ib:=aa.mk ((by rw [hg];exact (Da jaK):w.heap.size ≤ ya));have Xb:=aa.mk ((by rw [hg];exact (Da jaK):w.heap.size ≤ ya));clear HB;have HB:=Bb;have ta:=Db;have Jd:=Ib;have Qa:=Xb;clear Bb Db Ib Xb hb Fb hg;have Pr:w7.cell? ⟨ya,0,none⟩=some (.slice yb Ua.length zb):=(ja ta.out 0).trans rfl;have Nr:w7.cell? ⟨ya,1,none⟩=some (.int .i64 Pa):=(ja ta.out 1).trans rfl;have Mr:w7.cell? ⟨ya,2,none⟩=some (.int .i64 Ra):=(ja ta.out 2).trans rfl;have Lr:w7.cell? ⟨ya,3,none⟩=some (.int .i64 Sa):=(ja ta.out 3).trans rfl;have Mt:w7.cell? ⟨ya,4,none⟩=some (.slice fc Fa.length Qb):=(ja ta.out 4).trans rfl;have Kr:=qa ta.out 0;have Jr:=qa ta.out 1;have Ir:=qa ta.out 2;have Hr:=qa ta.out 3;have Us:=qa ta.out 4)|((with_reducible refine Cb (f:=81) rfl ?_);refine Jc (some 13) rfl rfl Try.func81 (by kernel_rfl) rfl #[.agg #[.slice yb Ua.length zb,.int .i64 Pa,.int .i64 Ra,.int .i64 Sa,.slice fc Fa.length Qb],.slice A1 l1.length c1,.int .i64 a2] rfl laK ?_;(with_reducible refine (Pj.calls _ _ Ua Pa Ra Sa _ _ Fa _ _ l1 a2 t102 _ ?Ic ?Gc ?Ae ?ze ?Su ?Ru A4.out).mono ?_);(case Ic=>repeat (first|exact (Kd.Kb lf.out HB.out)|(with_reducible refine Kd.Vb ?_ _)|(with_reducible refine Kd.Ub ?_ _)|(with_reducible refine Kd.tc ?_)));(case Gc=>exact Df.out);(case Ae=>repeat (first|exact (Kd.Kb Tg.out HB.out)|(with_reducible refine Kd.Vb ?_ _)|(with_reducible refine Kd.Ub ?_ _)|(with_reducible refine Kd.tc ?_)));(case ze=>exact Ej.out);(case Su=>repeat (first|exact (Kd.Kb pE.out HB.out)|(with_reducible refine Kd.Vb ?_ _)|(with_reducible refine Kd.Ub ?_ _)|(with_reducible refine Kd.tc ?_)));(case Ru=>exact QF.out);rintro e w9 ⟨En,rfl,fj,hb⟩;refine ⟨_,rfl,?_⟩;have Bb:=aa.mk (Kd.td fj (Da iaK));have Db:=aa.mk (Na (g:=ya) (o:=.cells #[.slice yb Ua.length zb,.int .i64 Pa,.int .i64 Ra,.int .i64 Sa,.slice fc Fa.length Qb] 30 (0,0)) kaK hb);have Ib:=aa.mk (Ma iaK hb);clear ta HB;have dg:=Bb;have ta:=Db;have HB:=Ib;clear Bb Db Ib;(try clear hb);(try clear ek);(try clear hk);(try clear hi);(try clear fj);have Qk:w9.cell? ⟨ya,0,none⟩=some (.slice yb Ua.length zb):=(ja ta.out 0).trans rfl;have Pk:w9.cell? ⟨ya,1,none⟩=some (.int .i64 Pa):=(ja ta.out 1).trans rfl;have Ok:w9.cell? ⟨ya,2,none⟩=some (.int .i64 Ra):=(ja ta.out 2).trans rfl;have Nk:w9.cell? ⟨ya,3,none⟩=some (.int .i64 Sa):=(ja ta.out 3).trans rfl;have rm:w9.cell? ⟨ya,4,none⟩=some (.slice fc Fa.length Qb):=(ja ta.out 4).trans rfl;have Kk:=qa ta.out 0;have Jk:=qa ta.out 1;have Ik:=qa ta.out 2;have Gk:=qa ta.out 3;have qm:=qa ta.out 4;have sn:0 ≤ (a2:Int):=Va;have qn:a2 < (Fa.length:Int):=Va;obtain ⟨Zl,Vl,Ul,xB,Li,Xm,Wm,Vm,Um,Dk,Fk⟩:=Bj Tg.out a2 sn qn;cases xB;replace Li:=Ja HB.out Li;replace Xm:=Ja HB.out Xm;replace Wm:=Ja HB.out Wm;replace Vm:=Ja HB.out Vm;replace Um:=Ja HB.out Um;have Bp:=aa.mk Fk;have Mx:=aa.mk Dk;clear Fk Dk;replace sn:=eq_true sn;replace qn:=eq_true qn))
   go_loopg [9] k (fun kq v9 w'=>∃ (wC:List Bool) (oh:Int),v9 = .int .i64 oh∧aa (yg.l0 kq wC ((Ia Fa a2).f0) oh=some r)∧aa (kq ≤ k)∧aa (Kd.R Kd.bool 4 w' w.heap.size (fun _=>True) En wC)∧aa (w'.heap[ya]? = some (.cells #[(.slice yb Ua.length zb),.int .i64 Pa,.int .i64 Ra,.int .i64 Sa,(.slice (some Zl) Fa.length Qb)] 30 (0,0)))∧aa (Below w.heap.size w w'))
   case atStart=>exact ⟨(t102),(wrap64 ((((Ia Fa a2).f0).length:Int) - 1)),saK,H',⟨Nat.le_refl _⟩,⟨WaK⟩,⟨taK⟩,⟨oaK⟩⟩
   case round =>
    clear H'
    try clear c1
    try clear p1
    try clear q1
    try clear hx1
    try clear p2
    try clear c4
    try clear c5
    try clear Tl
    try clear c6
    try clear vn
    try clear p6
    try clear c8
    try clear WM
    try clear sN
    try clear pN
    try clear Naf
    try clear Qk
    try clear Pk
    try clear Ok
    try clear Nk
    try clear rm
    try clear Pr
    try clear Nr
    try clear Mr
    try clear Lr
    try clear Mt
    try clear Kk
    try clear Jk
    try clear Ik
    try clear Gk
    try clear qm
    try clear Kr
    try clear Jr
    try clear Ir
    try clear Hr
    try clear Us
    try clear Li
    try clear Xm
    try clear Wm
    try clear Vm
    try clear Um
    try clear sn
    try clear qn
    (try clear HA);(try clear Vg);(try clear IK);(try clear ta);(try clear HB);obtain ⟨wC,oh,rfl,HA,Vg,IK,ta,HB⟩:=hrel;cases gk with
    | zero=>exact absurd HA.out (by simp [yg.l0])
    | succ k1 =>
     have H:=HA.out;clear HA;simp only [yg.l0] at H
     by_cases wT:oh ≥ 0
     ·rw [if_pos wT] at H;have Eal:decide (0 ≤ oh)=true:=decide_eq_true wT;clear wT
      by_cases uo:0 ≤ oh
      ·rw [if_pos uo] at H;have JA:decide (0 ≤ oh)=true:=decide_eq_true uo;clear uo
       by_cases ZF:oh < (((Ia Fa a2).f0).length:Int)
       ·rw [if_pos ZF] at H;have taE:decide (oh < (((Ia Fa a2).f0).length:Int))=true:=decide_eq_true ZF;clear ZF;replace H:=Option.bind_eq_some_iff.mp H;obtain ⟨t107,KM,H⟩:=H
        try dsimp only at H
        have A14:=aa.mk KM;clear KM;have H':=aa.mk H;clear H;have uaa:0 ≤ (oh:Int):=Va;have qaa:oh < (((Ia Fa a2).f0).length:Int):=Va;obtain ⟨xaE,Naz,mP,lP,kP,jP,iP,gP,fP⟩:=Mp Bp.out oh uaa qaa;cases Naz;replace mP:=Ja HB.out mP;replace lP:=Ja HB.out lP;replace kP:=Ja HB.out kP;replace jP:=Ja HB.out jP;replace iP:=Ja HB.out iP;replace gP:=Ja HB.out gP;replace fP:=Ja HB.out fP;replace uaa:=eq_true uaa;replace qaa:=eq_true qaa;obtain ⟨QO,eO,bO⟩:=Kd.Lc IK.out;subst bO;go_wp2_with (first|((with_reducible refine Cb (f:=79) rfl ?_);refine Jc (some 32) rfl rfl Try.func79 (by kernel_rfl) rfl #[.slice QO wC.length eO,.agg #[.int .i64 ((Ga ((Ia Fa a2).f0) oh).f0),.int .i64 ((Ga ((Ia Fa a2).f0) oh).f1),.int .i64 ((Ga ((Ia Fa a2).f0) oh).f2),.int .i64 ((Ga ((Ia Fa a2).f0) oh).f3),.int .i64 ((Ga ((Ia Fa a2).f0) oh).f4),.int .i64 ((Ga ((Ia Fa a2).f0) oh).f5),.string ((Ga ((Ia Fa a2).f0) oh).f6)]] rfl laK ?_;(with_reducible refine (Ye.calls k1 (fun k_=>some k_=(.slice QO wC.length eO:Value).ownBlock) (.slice QO wC.length eO) wC ((Ga ((Ia Fa a2).f0) oh).f0) ((Ga ((Ia Fa a2).f0) oh).f1) ((Ga ((Ia Fa a2).f0) oh).f2) ((Ga ((Ia Fa a2).f0) oh).f3) ((Ga ((Ia Fa a2).f0) oh).f4) ((Ga ((Ia Fa a2).f0) oh).f5) ((Ga ((Ia Fa a2).f0) oh).f6) t107 w _ ?Ic ?Gc A14.out).mono ?_);(case Ic=>repeat (first|(with_reducible first|exact HB.out|apply ia|apply ga|apply oa|refine ua ?_ Qa.out)|exact HB.out));(case Gc=>exact Kd.MA rfl IK.out);rintro e um ⟨rfl,hy0,hb,hkp⟩;refine ⟨_,rfl,?_⟩;have Bb:=aa.mk (Kd.tO rfl hy0 (fun k_ e_=>IK.out.1 k_ e_));have Db:=aa.mk (Sd kaK hkp (fun hs_=>(fun e_=>(Kd.Yh IK.out ta.out (by decide)) e_) hs_));have Ib:=aa.mk (hb);clear IK ta HB;have IK:=Bb;have ta:=Db;have HB:=Ib;clear Bb Db Ib;(try clear hb);(try clear hkp);(try clear hy0)))
        go_roundg k1
        case measure=>have:=Vg.out;omega
        case rel=>exact ⟨(t107),(wrap64 (oh - 1)),saK,H',⟨by have:=Vg.out;omega⟩,⟨by (with_reducible repeat (first|apply Kd.Xa|apply Kd.Ya|apply Kd.gb));exact IK.out⟩,⟨taK⟩,⟨oaK⟩⟩
       ·rw [if_neg ZF] at H;exact absurd H (by simp)
      ·rw [if_neg uo] at H;exact absurd H (by simp)
     ·rw [if_neg wT] at H;have Eal:decide (0 ≤ oh)=false:=decide_eq_false wT;clear wT;obtain rfl:=Option.some.inj H;go_wp2;go_ret;exact ⟨_,naK,by (with_reducible repeat (first|apply Kd.Xa|apply Kd.Ya|apply Kd.gb));exact IK.out,oaK⟩
  ·rw [if_neg c6] at H;exact absurd H (by simp)
 ·rw [if_neg c5] at H;exact absurd H (by simp)
def yy.f  : Option (List ByteArray):=some (([(⟨#[43]⟩:ByteArray),(⟨#[45]⟩:ByteArray),(⟨#[42]⟩:ByteArray),(⟨#[38]⟩:ByteArray),(⟨#[61,61]⟩:ByteArray),(⟨#[60]⟩:ByteArray)]:List ByteArray))
theorem yy.calls  (r:List ByteArray) (w:World) (h:yy.f  = some r) :
  Calls Try.prog 110 #[] w fun e w'=>∃ Zn:Value,e = .returned (Zn)∧Kd.R Kd.string 9 w' w.heap.size (fun _=>True) Zn r∧Below w.heap.size w w':=by
 have HB:=aa.mk (Below.refl w.heap.size w);have H:(some (([(⟨#[43]⟩:ByteArray),(⟨#[45]⟩:ByteArray),(⟨#[42]⟩:ByteArray),(⟨#[38]⟩:ByteArray),(⟨#[61,61]⟩:ByteArray),(⟨#[60]⟩:ByteArray)]:List ByteArray)))=some r:=h;clear h;obtain ⟨Ee,gf⟩:∃ y_:List ByteArray,y_=(([(⟨#[43]⟩:ByteArray),(⟨#[45]⟩:ByteArray),(⟨#[42]⟩:ByteArray),(⟨#[38]⟩:ByteArray),(⟨#[61,61]⟩:ByteArray),(⟨#[60]⟩:ByteArray)]:List ByteArray)):=⟨_,rfl⟩;replace H:(some Ee)=some r:=by first|(rw [gf];with_reducible exact H)|(have Ld:=(Option.bind_some _ _).symm.trans H;rw [gf];with_reducible exact Ld)|(have Ld:=(Option.bind_some _ _).symm.trans H;with_reducible exact Ld)|with_reducible exact H|(rw [gf];exact H)|exact H
 have cj:=aa.mk gf;clear gf;obtain rfl:=Option.some.inj H;go_enter Try.func110,Try.ntmps110;go_wp2_with (first|((with_reducible refine Za (N:=1) rfl ?_);refine Kd.Ei Kd.string _ 9 ?hg (N:=1) ?hd (xs:=([(⟨#[43]⟩:ByteArray),(⟨#[45]⟩:ByteArray),(⟨#[42]⟩:ByteArray),(⟨#[38]⟩:ByteArray),(⟨#[61,61]⟩:ByteArray),(⟨#[60]⟩:ByteArray)]:List ByteArray)) (inner:=[.string (⟨#[43]⟩:ByteArray),.string (⟨#[45]⟩:ByteArray),.string (⟨#[42]⟩:ByteArray),.string (⟨#[38]⟩:ByteArray),.string (⟨#[61,61]⟩:ByteArray),.string (⟨#[60]⟩:ByteArray)]) (ok:=fun _=>True) (Sh:=fun _=>True) ?hr ?hp (fun _ hk=>hk) trivial (Below.refl _ _) (Nat.le_refl _) (by simp) ?_;(case hd|hg=>rfl);(case hr=>exact gaK);(case hp=>exact (Wc.one (show Kd.M Kd.string _ _ _ (⟨#[43]⟩:ByteArray) [.string (⟨#[43]⟩:ByteArray)] from rfl) (Wc.one (show Kd.M Kd.string _ _ _ (⟨#[45]⟩:ByteArray) [.string (⟨#[45]⟩:ByteArray)] from rfl) (Wc.one (show Kd.M Kd.string _ _ _ (⟨#[42]⟩:ByteArray) [.string (⟨#[42]⟩:ByteArray)] from rfl) (Wc.one (show Kd.M Kd.string _ _ _ (⟨#[38]⟩:ByteArray) [.string (⟨#[38]⟩:ByteArray)] from rfl) (Wc.one (show Kd.M Kd.string _ _ _ (⟨#[61,61]⟩:ByteArray) [.string (⟨#[61,61]⟩:ByteArray)] from rfl) (Wc.one (show Kd.M Kd.string _ _ _ (⟨#[60]⟩:ByteArray) [.string (⟨#[60]⟩:ByteArray)] from rfl) (Wc.none _ _))))))));intro jG w1 uZ hb bk xe;clear bk xe;(first|rw [← cj.out] at uZ|(simp only [Int.reduceToNat] at uZ;rw [← cj.out] at uZ));have Bb:=aa.mk (Kd.td uZ (Da jaK));have Db:=aa.mk (Ma jaK hb);clear HB;have kn:=Bb;have HB:=Db;clear Bb Db hb uZ));go_ret;exact ⟨_,naK,haL,raK⟩
structure VA (base gc:Nat) (vS vK:Value) (p s:Int) (PC:Nat→Prop) (code:List Zb) (wr:World):Prop where
 hx:∃ vC,wr.heap[gc]? = some (.cells #[vS,.int .i64 p,.int .i64 s,vC,vK] 106 (0,0))∧Kd.R Yg 79 wr base PC vC code
 pb:∀ k,PC k→base ≤ k∧k < wr.heap.size∧k ≠ gc
 bs:base ≤ gc
section
variable {base gc:Nat} {vS vK:Value} {p s:Int} {PC:Nat→Prop} {code:List Zb} {w W:World}
theorem VA.below (h:VA base gc vS vK p s PC code w) (hb:Below w.heap.size w W):VA base gc vS vK p s PC code W:=by
 obtain ⟨vC,h1,h2⟩:=h.hx;exact ⟨⟨vC,Na h1 hb,Kd.Yb h2 hb⟩,fun k hk=>⟨(h.pb k hk).1,Nat.lt_of_lt_of_le (h.pb k hk).2.1 hb.size,(h.pb k hk).2.2⟩,h.bs⟩
theorem VA.lt (h:VA base gc vS vK p s PC code w):gc < w.heap.size:=by
 obtain ⟨vC,h1,-⟩:=h.hx;exact Tb h1
theorem VA.kept {S:Nat→Prop} (h:VA base gc vS vK p s PC code w) (hk:Kept w W S) (hS:∀ k,S k→k ≠ gc∧¬ PC k):VA base gc vS vK p s PC code W:=by
 obtain ⟨vC,h1,h2⟩:=h.hx;exact ⟨⟨vC,Sd h1 hk (fun e=>(hS _ e).1 rfl),Kd.Kh h2 hk (fun k hk e=>(hS k e).2 hk)⟩,fun k hk2=>⟨(h.pb k hk2).1,Nat.lt_of_lt_of_le (h.pb k hk2).2.1 hk.1,(h.pb k hk2).2.2⟩,h.bs⟩
end
structure Px (base gc:Nat) (vS vK:Value) (p s:Int) (PC:Nat→Prop) (code ys:List Zb) (w w':World):Prop where
 c:∃ BF:Nat→Prop,VA base gc vS vK p s BF (code ++ ys) w'∧∀ k,BF k→PC k ∨ w.heap.size ≤ k
 k:Kept w w' (fun k=>k=gc ∨ PC k)
 b:Below 0 w w'
theorem XY (base gc:Nat) (vS vK:Value) (p s:Int) (PC:Nat→Prop) (code ys:List Zb) (A:Option Addr) (c:Nat) (w:World) (h:VA base gc vS vK p s PC code w) (hl:Kd.C Yg w A ys.length ys) (hc:ys.length ≤ c) (hn:code.length + ys.length ≤ 1000000000) :
  Calls Try.prog 91 #[.pointer (some ⟨gc,0,none⟩),.slice A ys.length c] w fun e w'=>e = .returned (.tuple #[])∧Px base gc vS vK p s PC code ys w w':=by
 obtain ⟨vC,h1,h2⟩:=h.hx;have HX:=aa.mk h1;have HR:=aa.mk h2;have HPB:=aa.mk h.pb;have HL:=aa.mk hl;have FaA:=aa.mk (show (code.length + ys.length) * 40 ≤ 140737488355328 by omega);have HBS:=aa.mk (show base ≤ w.heap.size from Nat.le_trans h.bs (Nat.le_of_lt h.lt));have HGB:=aa.mk h.bs;obtain ⟨A0,c0,rfl⟩:=Kd.Lc h2;have WA:w.cell? ⟨gc,3,none⟩=some (.slice A0 code.length c0):=(ja HX.out 3).trans rfl;clear h h1 h2 hl;go_enter Try.func91,Try.ntmps91;go_wp2_with (first|((with_reducible refine Za (N:=11) rfl ?_);refine Kd.Uh Yg (w0:=w) base rfl (.tmp 9) (.tmp 10) 47 79 (.agg #[(.int .i64 0),(.int .i64 0),(.int .i64 0),(.int .i64 0),(.int .i64 0)]) 40 rfl Try.underlying47 Gr rfl (by decide) (by omega) (.slice A0 code.length c0) code ys _ _ _ (fun k=>PC k ∨ w.heap.size ≤ k) (fun _=>False) rfl rfl (Kd.yc HR.out (fun _ hk=>Or.inl hk)) HL.out (fun _ _ h=>h) (fun _ h=>h.elim) (fun _ hk=>Or.inr hk) (Below.refl _ _) HBS.out FaA.out ?_;intro v1 w1 ho hb hg hat;obtain ⟨A1,c1,rfl⟩:=Kd.Lc ho;have HO1:=aa.mk (Kd.Xf ho);have YM:=aa.mk hg;have Y5:=aa.mk (Mc HX.out hg (fun e=>(HPB.out gc (HR.out.1 gc e.symm)).2.2 rfl));have hfz:=qa Y5.out 3;have hcz:w1.cell? ⟨gc,3,none⟩=some (.slice A0 code.length c0):=(ja Y5.out 3).trans rfl;have HZ1:=aa.mk (⟨hb.os,hb.tape,hb.output,hg.size,fun k hk=>absurd hk (Nat.not_lt_zero _)⟩:Below 0 w w1);clear ho hb hg hat WA));refine bodyPost_end (v:=.tuple #[]) ?_ rfl ?_
 ·exact results_none rfl _ _ _
 have m8:Kept w w1 (fun k=>k=gc ∨ PC k):=⟨YM.out.size,fun k hk hn=>YM.out.block k hk (fun e=>hn (Or.inr (HR.out.1 k e.symm)))⟩;have hk2:Kept w1 (w1.setCell ⟨gc,3,none⟩ (.slice A1 (code.length + ys.length) c1)) (fun k=>k=gc):=(Kept.refl w1 (fun k=>k=gc)).setCell (p:=⟨gc,3,none⟩) (Or.inl rfl) _;have ho1:=HO1.out;rw [List.length_append] at ho1;refine ⟨rfl,⟨⟨fun k=>(PC k ∨ w.heap.size ≤ k)∧base ≤ k∧k < w1.heap.size,⟨⟨_,(yp Y5.out 3 _).trans rfl,?_⟩,fun k hk=>⟨hk.2.1,Nat.lt_of_lt_of_le hk.2.2 hk2.1,fun e=>?_⟩,HGB.out⟩,fun k hk=>hk.1⟩,m8.Gj hk2 (fun k e=>Or.inl (Or.inl e)),HZ1.out.trans ((Below.refl 0 w1).setCell (Nat.zero_le _) _)⟩⟩
 ·refine Kd.Kh (Kd.yc ho1 (fun k hk=>⟨hk.1,hk.2.1,hk.2.2.1⟩)) hk2 (fun k hk e=>?_);subst e;have:=Tb HX.out;exact hk.1.elim (fun e=>(HPB.out _ e).2.2 rfl) (fun e=>by omega)
 ·subst e;have:=Tb HX.out;exact hk.1.elim (fun e=>(HPB.out _ e).2.2 rfl) (fun e=>by omega)
end Go.Proofs.Ytkigbdceceeenaa.P
end
section
namespace Go.Proofs.Ytkigbdceceeenaa.P
open Go.RowKit Go.Proofs.Oa.Rb Go.Proofs.Oa.Pd Go.Proofs.Oa.Re
set_option linter.unusedVariables false
set_option linter.unusedSimpArgs false
attribute [local go_sem] Mh ki rj Kj th qh ni ji
def Ii.f (l0:List Int) (a1:Int):Option (Int):=if (wrap64 (a1 - (l0.length:Int))) < 0 then (some (-1)) else (some (wrap64 (a1 - (l0.length:Int))))
theorem Ii.calls (A0:Option Addr) (c0:Nat) (l0:List Int) (a1:Int) (r:Int) (w:World) (Tk:Kd.C (Kd.int .i64) w A0 l0.length l0) (hc0:l0.length ≤ c0) (h:Ii.f l0 a1=some r) :
  Calls Try.prog 38 #[.slice A0 l0.length c0,.int .i64 a1] w fun e w'=>e = .returned (.int .i64 r)∧nc w w':=by
 have ij:=aa.mk Tk;have nH:=aa.mk hc0;clear Tk hc0;have H:(if (wrap64 (a1 - (l0.length:Int))) < 0 then (some (-1)) else (some (wrap64 (a1 - (l0.length:Int)))))=some r:=h;clear h
 by_cases c3:(wrap64 (a1 - (l0.length:Int))) < 0
 ·rw [if_pos c3] at H;have jh:decide ((wrap64 (a1 - (l0.length:Int))) < 0)=true:=decide_eq_true c3;clear c3;obtain rfl:=Option.some.inj H;go_enter Try.func38,Try.ntmps38;go_wp2;go_ret;exact ⟨DaK,vaK⟩
 ·rw [if_neg c3] at H;have jh:decide ((wrap64 (a1 - (l0.length:Int))) < 0)=false:=decide_eq_false c3;clear c3;obtain rfl:=Option.some.inj H;go_enter Try.func38,Try.ntmps38;go_wp2;go_ret;exact ⟨DaK,vaK⟩
def Lj.f (Nb:Int) (Pa:Int) (Ra:Int) (Sa:Int) (Eb:Int) (qc:Int) (Cc:ByteArray) (a1:Int):Option (Int):=if (wrap64 (a1 - (Cc.size:Int))) < 0 then (some (-1)) else (some (wrap64 (a1 - (Cc.size:Int))))
theorem Lj.calls (Nb:Int) (Pa:Int) (Ra:Int) (Sa:Int) (Eb:Int) (qc:Int) (Cc:ByteArray) (a1:Int) (r:Int) (w:World) (h:Lj.f Nb Pa Ra Sa Eb qc Cc a1=some r) :
  Calls Try.prog 112 #[.agg #[.int .i64 Nb,.int .i64 Pa,.int .i64 Ra,.int .i64 Sa,.int .i64 Eb,.int .i64 qc,.string Cc],.int .i64 a1] w fun e w'=>e = .returned (.int .i64 r)∧Below w.heap.size w w':=by
 have IU:=Try.underlying124;have HB:=aa.mk (Below.refl w.heap.size w);have H:(if (wrap64 (a1 - (Cc.size:Int))) < 0 then (some (-1)) else (some (wrap64 (a1 - (Cc.size:Int)))))=some r:=h;clear h
 by_cases c3:(wrap64 (a1 - (Cc.size:Int))) < 0
 ·rw [if_pos c3] at H;have jh:decide ((wrap64 (a1 - (Cc.size:Int))) < 0)=true:=decide_eq_true c3;clear c3;obtain rfl:=Option.some.inj H;go_enter Try.func112,Try.ntmps112;go_wp2_with (first|((with_reducible refine Za (N:=2) rfl ?_);refine Ab ?hg (N:=2) ?hd (cs:=#[.int .i64 Nb,.int .i64 Pa,.int .i64 Ra,.int .i64 Sa,.int .i64 Eb,.int .i64 qc,.string Cc]) (t:=124) ?hr ?_;(case hd|hg=>rfl);(case hr=>exact gaK);intro ya hg w4 Fb hb;have Bb:=aa.mk (Ma jaK hb);have Db:=aa.mk (Fb);have Ib:=aa.mk ((by rw [hg];exact (Da jaK):w.heap.size ≤ ya));have Xb:=aa.mk ((by rw [hg];exact (Da jaK):w.heap.size ≤ ya));clear HB;have HB:=Bb;have ta:=Db;have Jd:=Ib;have Qa:=Xb;clear Bb Db Ib Xb hb Fb hg;have Tab:w4.cell? ⟨ya,0,none⟩=some (.int .i64 Nb):=(ja ta.out 0).trans rfl;have Sab:w4.cell? ⟨ya,1,none⟩=some (.int .i64 Pa):=(ja ta.out 1).trans rfl;have Rab:w4.cell? ⟨ya,2,none⟩=some (.int .i64 Ra):=(ja ta.out 2).trans rfl;have Qab:w4.cell? ⟨ya,3,none⟩=some (.int .i64 Sa):=(ja ta.out 3).trans rfl;have Pab:w4.cell? ⟨ya,4,none⟩=some (.int .i64 Eb):=(ja ta.out 4).trans rfl;have Oab:w4.cell? ⟨ya,5,none⟩=some (.int .i64 qc):=(ja ta.out 5).trans rfl;have Nab:w4.cell? ⟨ya,6,none⟩=some (.string Cc):=(ja ta.out 6).trans rfl;have qab:=qa ta.out 0;have pab:=qa ta.out 1;have oab:=qa ta.out 2;have mab:=qa ta.out 3;have lab:=qa ta.out 4;have kab:=qa ta.out 5;have jab:=qa ta.out 6));go_ret;exact ⟨naK,oaK⟩
 ·rw [if_neg c3] at H;have jh:decide ((wrap64 (a1 - (Cc.size:Int))) < 0)=false:=decide_eq_false c3;clear c3;obtain rfl:=Option.some.inj H;go_enter Try.func112,Try.ntmps112;go_wp2_with (first|((with_reducible refine Za (N:=2) rfl ?_);refine Ab ?hg (N:=2) ?hd (cs:=#[.int .i64 Nb,.int .i64 Pa,.int .i64 Ra,.int .i64 Sa,.int .i64 Eb,.int .i64 qc,.string Cc]) (t:=124) ?hr ?_;(case hd|hg=>rfl);(case hr=>exact gaK);intro ya hg w6 Fb hb;have Bb:=aa.mk (Ma jaK hb);have Db:=aa.mk (Fb);have Ib:=aa.mk ((by rw [hg];exact (Da jaK):w.heap.size ≤ ya));have Xb:=aa.mk ((by rw [hg];exact (Da jaK):w.heap.size ≤ ya));clear HB;have HB:=Bb;have ta:=Db;have Jd:=Ib;have Qa:=Xb;clear Bb Db Ib Xb hb Fb hg;have Nv:w6.cell? ⟨ya,0,none⟩=some (.int .i64 Nb):=(ja ta.out 0).trans rfl;have Mv:w6.cell? ⟨ya,1,none⟩=some (.int .i64 Pa):=(ja ta.out 1).trans rfl;have Lv:w6.cell? ⟨ya,2,none⟩=some (.int .i64 Ra):=(ja ta.out 2).trans rfl;have Kv:w6.cell? ⟨ya,3,none⟩=some (.int .i64 Sa):=(ja ta.out 3).trans rfl;have Jv:w6.cell? ⟨ya,4,none⟩=some (.int .i64 Eb):=(ja ta.out 4).trans rfl;have sV:w6.cell? ⟨ya,5,none⟩=some (.int .i64 qc):=(ja ta.out 5).trans rfl;have rV:w6.cell? ⟨ya,6,none⟩=some (.string Cc):=(ja ta.out 6).trans rfl;have Bv:=qa ta.out 0;have Av:=qa ta.out 1;have zv:=qa ta.out 2;have wv:=qa ta.out 3;have vv:=qa ta.out 4;have eV:=qa ta.out 5;have dV:=qa ta.out 6));go_ret;exact ⟨naK,oaK⟩
def Je.l0:Nat→List (vo)→Int→Int→Option (Int)
 | 0,_,_,_=>none
 | k + 1,x0,x1,x5=>if x5 < (x0.length:Int) then (if 0 ≤ x5 then ((Lj.f ((Uc x0 x5).f0) ((Uc x0 x5).f1) ((Uc x0 x5).f2) ((Uc x0 x5).f3) ((Uc x0 x5).f4) ((Uc x0 x5).f5) ((Uc x0 x5).f6) x1).bind fun t102=>(if t102 < 0 then (some (-1)) else (Je.l0 k x0 t102 (wrap64 (x5 + 1))))) else (none)) else (some x1)
def Je.f (k:Nat) (l0:List (vo)) (a1:Int):Option (Int):=if (wrap64 (a1 - (l0.length:Int))) < 0 then (some (-1)) else (Je.l0 k l0 (wrap64 (a1 - (l0.length:Int))) 0)
theorem Je.calls (k:Nat) (A0:Option Addr) (c0:Nat) (l0:List (vo)) (a1:Int) (r:Int) (w:World) (Tk:Kd.C RE w A0 l0.length l0) (hc0:l0.length ≤ c0) (h:Je.f k l0 a1=some r) :
  Calls Try.prog 96 #[.slice A0 l0.length c0,.int .i64 a1] w fun e w'=>e = .returned (.int .i64 r)∧Below w.heap.size w w':=by
 have IU:=Try.underlying124;have ij:=aa.mk Tk;have nH:=aa.mk hc0;clear Tk hc0;have HB:=aa.mk (Below.refl w.heap.size w);have H:(if (wrap64 (a1 - (l0.length:Int))) < 0 then (some (-1)) else (Je.l0 k l0 (wrap64 (a1 - (l0.length:Int))) 0))=some r:=h;clear h
 by_cases c3:(wrap64 (a1 - (l0.length:Int))) < 0
 ·rw [if_pos c3] at H;have jh:decide ((wrap64 (a1 - (l0.length:Int))) < 0)=true:=decide_eq_true c3;clear c3;obtain rfl:=Option.some.inj H;go_enter Try.func96,Try.ntmps96;go_wp2;go_ret;exact ⟨naK,raK⟩
 ·rw [if_neg c3] at H;have jh:decide ((wrap64 (a1 - (l0.length:Int))) < 0)=false:=decide_eq_false c3;clear c3;have H':=aa.mk H;clear H;go_enter Try.func96,Try.ntmps96;go_wp2
  go_loopg [1,5] k (fun kq v1 v5 w'=>∃ (xd:Int) (Ca:Int),v1 = .int .i64 xd∧v5 = .int .i64 Ca∧aa (Je.l0 kq l0 xd Ca=some r)∧aa (kq ≤ k)∧aa (Below w.heap.size w w'))
  case atStart=>exact ⟨(wrap64 (a1 - (l0.length:Int))),(0),saK,saK,H',⟨Nat.le_refl _⟩,⟨raK⟩⟩
  case round =>
   clear H'
   try clear p2
   try clear c3
   try clear jh
   (try clear HA);(try clear Vg);(try clear HB);obtain ⟨xd,Ca,rfl,rfl,HA,Vg,HB⟩:=hrel;cases gk with
   | zero=>exact absurd HA.out (by simp [Je.l0])
   | succ k1 =>
    have H:=HA.out;clear HA;simp only [Je.l0] at H
    by_cases c4:Ca < (l0.length:Int)
    ·rw [if_pos c4] at H;have mj:decide (Ca < (l0.length:Int))=true:=decide_eq_true c4;clear c4
     by_cases c5:0 ≤ Ca
     ·rw [if_pos c5] at H;have Tl:decide (0 ≤ Ca)=true:=decide_eq_true c5;clear c5;replace H:=Option.bind_eq_some_iff.mp H;obtain ⟨t102,X_,H⟩:=H
      try dsimp only at H
      have A6:=aa.mk X_;clear X_
      by_cases c7:t102 < 0
      ·rw [if_pos c7] at H;have Yl:decide (t102 < 0)=true:=decide_eq_true c7;clear c7;obtain rfl:=Option.some.inj H;have Ge:0 ≤ (Ca:Int):=Va;have Fe:Ca < (l0.length:Int):=Va;obtain ⟨od,xh,yd,je,ie,fe,ee,Sj,Rj⟩:=jK ij.out Ca Ge Fe;cases xh;replace yd:=Ja HB.out yd;replace je:=Ja HB.out je;replace ie:=Ja HB.out ie;replace fe:=Ja HB.out fe;replace ee:=Ja HB.out ee;replace Sj:=Ja HB.out Sj;replace Rj:=Ja HB.out Rj;replace Ge:=eq_true Ge;replace Fe:=eq_true Fe;go_wp2_with (first|((with_reducible refine Cb (f:=112) rfl ?_);refine Jc (some 23) rfl rfl Try.func112 (by kernel_rfl) rfl #[.agg #[.int .i64 ((Uc l0 Ca).f0),.int .i64 ((Uc l0 Ca).f1),.int .i64 ((Uc l0 Ca).f2),.int .i64 ((Uc l0 Ca).f3),.int .i64 ((Uc l0 Ca).f4),.int .i64 ((Uc l0 Ca).f5),.string ((Uc l0 Ca).f6)],.int .i64 xd] rfl laK ?_;(with_reducible refine (Lj.calls ((Uc l0 Ca).f0) ((Uc l0 Ca).f1) ((Uc l0 Ca).f2) ((Uc l0 Ca).f3) ((Uc l0 Ca).f4) ((Uc l0 Ca).f5) ((Uc l0 Ca).f6) xd t102 _ A6.out).mono ?_);rintro e w8 ⟨rfl,hb⟩;refine ⟨_,rfl,?_⟩;have Bb:=aa.mk (Ma jaK hb);clear HB;have HB:=Bb;clear Bb;(try clear hb);(try clear ek);(try clear hk);(try clear hi)));go_ret;exact ⟨naK,raK⟩
      ·rw [if_neg c7] at H;have Yl:decide (t102 < 0)=false:=decide_eq_false c7;clear c7;have H':=aa.mk H;clear H;have Ge:0 ≤ (Ca:Int):=Va;have Fe:Ca < (l0.length:Int):=Va;obtain ⟨od,xh,yd,je,ie,fe,ee,Sj,Rj⟩:=jK ij.out Ca Ge Fe;cases xh;replace yd:=Ja HB.out yd;replace je:=Ja HB.out je;replace ie:=Ja HB.out ie;replace fe:=Ja HB.out fe;replace ee:=Ja HB.out ee;replace Sj:=Ja HB.out Sj;replace Rj:=Ja HB.out Rj;replace Ge:=eq_true Ge;replace Fe:=eq_true Fe;go_wp2_with (first|((with_reducible refine Cb (f:=112) rfl ?_);refine Jc (some 23) rfl rfl Try.func112 (by kernel_rfl) rfl #[.agg #[.int .i64 ((Uc l0 Ca).f0),.int .i64 ((Uc l0 Ca).f1),.int .i64 ((Uc l0 Ca).f2),.int .i64 ((Uc l0 Ca).f3),.int .i64 ((Uc l0 Ca).f4),.int .i64 ((Uc l0 Ca).f5),.string ((Uc l0 Ca).f6)],.int .i64 xd] rfl laK ?_;(with_reducible refine (Lj.calls ((Uc l0 Ca).f0) ((Uc l0 Ca).f1) ((Uc l0 Ca).f2) ((Uc l0 Ca).f3) ((Uc l0 Ca).f4) ((Uc l0 Ca).f5) ((Uc l0 Ca).f6) xd t102 _ A6.out).mono ?_);rintro e w9 ⟨rfl,hb⟩;refine ⟨_,rfl,?_⟩;have Bb:=aa.mk (Ma jaK hb);clear HB;have HB:=Bb;clear Bb;(try clear hb);(try clear ek);(try clear hk);(try clear hi)))
       go_roundg k1
       case measure=>have:=Vg.out;omega
       case rel=>exact ⟨(t102),(wrap64 (Ca + 1)),saK,saK,H',⟨by have:=Vg.out;omega⟩,⟨raK⟩⟩
     ·rw [if_neg c5] at H;exact absurd H (by simp)
    ·rw [if_neg c4] at H;have mj:decide (Ca < (l0.length:Int))=false:=decide_eq_false c4;clear c4;obtain rfl:=Option.some.inj H;go_wp2;go_ret;exact ⟨naK,raK⟩
end Go.Proofs.Ytkigbdceceeenaa.P
end
