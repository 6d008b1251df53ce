import Derived.Test.YtmifdccaajngcaaQKnown1
section
namespace Go.Proofs.Ytmifdccaajngcaa.P
open Go.RowKit Go.Proofs.Na.mc Go.Proofs.Na.jf Go.Proofs.Na.xg
set_option linter.unusedVariables false
set_option linter.unusedSimpArgs false
attribute [local go_sem] Hj Fj Rk Qk Li Ki Gj Ej
def Jc.l0:Nat→Int→List (Lj)→Int→Option ((List (Lj)))
 | 0,_,_,_=>none
 | k + 1,x0,x3,x4=>if x4 < x0 then (if x3.length < 8796093022208 then (Jc.l0 k x0 (x3 ++ [(⟨x4,0⟩:Lj)]) (wrap64 (x4 + 1))) else (none)) else (some x3)
def Jc.f (k:Nat) (a0:Int):Option ((List (Lj))):=Jc.l0 k a0 (([]:List (Lj))) 0
theorem Jc.Sd:∀ k,(∀ y0 y1 y2,Lb (Jc.l0 k y0 y1 y2) (Jc.l0 (k + 1) y0 y1 y2))
 | 0=>fun _ _ _ r h=>by simp [Jc.l0] at h
 | k + 1=>by
  have Ff:=Jc.Sd k
  ·intro y0 y1 y2
   unfold Jc.l0
   repeat' first
   | (with_reducible exact Ff _ _ _)
   | (with_reducible exact Lb.refl _)
   | (with_reducible exact Lb.none _)
   | (with_reducible refine Lb.ite ?_ ?_)
   | (with_reducible refine Lb.bind ?_ (fun _=>?_))
   | exact Ff _ _ _
   | exact Lb.none _
   | refine Lb.ite ?_ ?_
   | refine Lb.bind ?_ (fun _=>?_)
theorem Jc.mono:∀ a0 k,Lb (Jc.f k a0) (Jc.f (k + 1) a0):=by
 intro a0 k
 have Ff:=Jc.Sd k
 unfold Jc.f
 repeat' first
   | (with_reducible exact Ff _ _ _)
   | (with_reducible exact Lb.refl _)
   | (with_reducible exact Lb.none _)
   | (with_reducible refine Lb.ite ?_ ?_)
   | (with_reducible refine Lb.bind ?_ (fun _=>?_))
   | exact Ff _ _ _
   | exact Lb.none _
   | refine Lb.ite ?_ ?_
   | refine Lb.bind ?_ (fun _=>?_)
set_option maxHeartbeats 8000000 in
set_option maxRecDepth 100000 in
theorem Jc.calls (k:Nat) (a0:Int) (r:List (Lj)) (w:World) (h:Jc.f k a0=some r) :
  Calls Try.prog 76 #[.int .i64 a0] w fun e w'=>∃ v0_:Value,e = .returned (v0_)∧Kd.R Jl 77 w' w.heap.size (fun _=>True) v0_ r∧Below w.heap.size w w':=by
 have sW:=Try.underlying77
 have HB:=ja.mk (Below.refl w.heap.size w)
 have H:(Jc.l0 k a0 (([]:List (Lj))) 0)=some r:=h
 clear h
 obtain ⟨bg,hy101⟩:∃ y_:List (Lj),y_=(([]:List (Lj))):=⟨_,rfl⟩
 replace H:(Jc.l0 k a0 bg 0)=some r:=by first|(rw [hy101];with_reducible exact H)|(have Eh:=(Option.bind_some _ _).symm.trans H;rw [hy101];with_reducible exact Eh)|(have Eh:=(Option.bind_some _ _).symm.trans H;with_reducible exact Eh)|with_reducible exact H|(rw [hy101];exact H)|exact H
 have ek:=ja.mk hy101
 clear hy101
 have H':=ja.mk H
 clear H
 go_enter Try.func76,Try.ntmps76
 go_wp2_with (first|((with_reducible refine Kb (N:=5) rfl ?_);refine Kd.Jz Jl _ 77 ?hg (N:=5) ?hd (xs:=([]:List (Lj))) (inner:=[]) (ok:=fun _=>True) (vp:=fun _=>True) ?hr ?hp (fun _ hk=>hk) trivial (Below.refl _ _) (Nat.le_refl _) (by simp) ?_;(case hd=>rfl);(case hg=>rfl);(case hr=>first|(go_simp;done)|(go_simp;rfl));(case hp=>exact (Tf.none _ _));intro IB w2 vW hb CD Jn;clear CD Jn;(first|rw [← ek.out] at vW|(simp only [Int.reduceToNat] at vW;rw [← ek.out] at vW));have Gb:=ja.mk (Kd.zi vW (Ra (by repeat (first|(with_reducible first|exact HB.out|apply qa|apply ia|apply ua)|exact HB.out))));have Vb:=ja.mk (Qa (by repeat (first|(with_reducible first|exact HB.out|apply qa|apply ia|apply ua)|exact HB.out)) hb);clear HB;have gp:=Gb;have HB:=Vb;clear Gb Vb;clear hb vW))
 go_loopg [3,4] k (fun kq v3 v4 w'=>∃ (lf:List (Lj)) (Jd:Int),v4 = .int .i64 Jd∧ja (Jc.l0 kq a0 lf Jd=some r)∧ja (kq ≤ k)∧ja (Kd.R Jl 77 w' w.heap.size (fun _=>True) v3 lf)∧ja (Below w.heap.size w w'))
 case atStart=>exact ⟨(bg),(0),(by first|rfl|(simp;done)|(simp [*];done)),H',⟨Nat.le_refl _⟩,⟨by (with_reducible repeat (first|apply Kd.Dc|apply Kd.Ic|apply Kd.Zc));exact gp.out⟩,⟨by repeat (first|(with_reducible first|exact HB.out|apply qa|apply ia|apply ua)|exact HB.out)⟩⟩
 case round =>
  clear H'
  try clear p2
  (try clear HA)
  (try clear Yg)
  (try clear di)
  (try clear HB)
  obtain ⟨lf,Jd,rfl,HA,Yg,di,HB⟩:=hrel
  cases gk with
  | zero=>exact absurd HA.out (by simp [Jc.l0])
  | succ k1 =>
   have H:=HA.out
   clear HA
   simp only [Jc.l0] at H
   by_cases c4:Jd < a0
   ·rw [if_pos c4] at H
    have Gi:decide (Jd < a0)=true:=decide_eq_true c4
    clear c4
    by_cases c5:lf.length < 8796093022208
    ·rw [if_pos c5] at H
     have Yag:=ja.mk c5
     clear c5
     obtain ⟨lg,hy104⟩:∃ y_:List (Lj),y_=(lf ++ [(⟨Jd,0⟩:Lj)]):=⟨_,rfl⟩
     replace H:(Jc.l0 k1 a0 lg (wrap64 (Jd + 1)))=some r:=by first|(rw [hy104];with_reducible exact H)|(have Eh:=(Option.bind_some _ _).symm.trans H;rw [hy104];with_reducible exact Eh)|(have Eh:=(Option.bind_some _ _).symm.trans H;with_reducible exact Eh)|with_reducible exact H|(rw [hy104];exact H)|exact H
     have zL:=ja.mk hy104
     clear hy104
     have H':=ja.mk H
     clear H
     go_wp2_with (first|((with_reducible refine Cu (b:=.append) (xs:=#[.tmp 11,.tmp 14]) rfl ?_);at_builtin;refine Kd.Gu Jl (w0:=w) w.heap.size rfl (.tmp 11) (.tmp 14) 60 77 (.agg #[(.int .i64 0),(.int .i64 0)]) 16 rfl Try.underlying60 WS rfl (by decide) (by omega) u3 lf (⟨Jd,0⟩:Lj) [.int .i64 Jd,.int .i64 0] (fun _=>True) (fun _=>False) rfl rfl ?aP (fun _ hk=>hk.elim) ?aF ?aO ?aB ?aS ?aL ?_;(case aP=>exact Mq _ _ _ (⟨Jd,0⟩:Lj));(case aB=>exact (by repeat (first|(with_reducible first|exact HB.out|apply qa|apply ia|apply ua)|exact HB.out)));(case aF=>exact (fun _ _=>trivial));(case aO=>exact (by (with_reducible repeat (first|apply Kd.Dc|apply Kd.Ic|apply Kd.Zc));exact di.out));(case aS=>exact (Ra (by repeat (first|(with_reducible first|exact HB.out|apply qa|apply ia|apply ua)|exact HB.out))));(case aL=>have:=Yag.out;omega);intro VV w6 ho hb hg hat;rw [← zL.out] at ho;have Gb:=ja.mk (hb);have Vb:=ja.mk (ho);clear HB;clear di;have HB:=Gb;have Ds:=Vb;clear Gb Vb;clear ho hb hg hat))
     go_roundg k1
     case measure=>have:=Yg.out;omega
     case rel=>exact ⟨(lg),(wrap64 (Jd + 1)),(by first|rfl|(simp;done)|(simp [*];done)),H',⟨by have:=Yg.out;omega⟩,⟨by (with_reducible repeat (first|apply Kd.Dc|apply Kd.Ic|apply Kd.Zc));exact Ds.out⟩,⟨by repeat (first|(with_reducible first|exact HB.out|apply qa|apply ia|apply ua)|exact HB.out)⟩⟩
    ·rw [if_neg c5] at H
     exact absurd H (by simp)
   ·rw [if_neg c4] at H
    have Gi:decide (Jd < a0)=false:=decide_eq_false c4
    clear c4
    obtain rfl:=Option.some.inj H
    go_wp2
    go_ret
    exact ⟨_,by first|rfl|(simp [La,Ka] <;> rfl)|(simp [*,La,Ka] <;> rfl),by (with_reducible repeat (first|apply Kd.Dc|apply Kd.Ic|apply Kd.Zc));exact di.out,by repeat (first|(with_reducible first|exact HB.out|apply qa|apply ia|apply ua)|exact HB.out)⟩
def Uo.f (a0:ByteArray) (a1:Int) (a2:Int):Option (Int):=if a0.toList=([43]:List UInt8) then (some (wrap64 (a1 + a2))) else (if a0.toList=([45]:List UInt8) then (some (wrap64 (a1 - a2))) else (if a0.toList=([42]:List UInt8) then (some (wrap64 (a1 * a2))) else (if a0.toList=([38]:List UInt8) then (some (Go.bits .and .i64 a1 a2)) else (if a0.toList=([61,61]:List UInt8) then (if a1=a2 then (some 1) else (some 0)) else (if a0.toList=([60]:List UInt8) then (if a1 < a2 then (some 1) else (some 0)) else (some 0))))))
set_option maxHeartbeats 8000000 in
set_option maxRecDepth 100000 in
theorem Uo.calls (a0:ByteArray) (a1:Int) (a2:Int) (r:Int) (w:World) (h:Uo.f a0 a1 a2=some r) :
  Calls Try.prog 104 #[.string a0,.int .i64 a1,.int .i64 a2] w fun e w'=>e = .returned (.int .i64 r)∧uc w w':=by
 have H:(if a0.toList=([43]:List UInt8) then (some (wrap64 (a1 + a2))) else (if a0.toList=([45]:List UInt8) then (some (wrap64 (a1 - a2))) else (if a0.toList=([42]:List UInt8) then (some (wrap64 (a1 * a2))) else (if a0.toList=([38]:List UInt8) then (some (Go.bits .and .i64 a1 a2)) else (if a0.toList=([61,61]:List UInt8) then (if a1=a2 then (some 1) else (some 0)) else (if a0.toList=([60]:List UInt8) then (if a1 < a2 then (some 1) else (some 0)) else (some 0)))))))=some r:=h
 clear h
 by_cases c4:a0.toList=([43]:List UInt8)
 ·rw [if_pos c4] at H
  have Gi:(a0.toList == ([43]:List UInt8))=true:=beq_iff_eq.mpr c4
  have CC:(a0.toList != ([43]:List UInt8))=false:=bne_eq_false_iff_eq.mpr c4
  clear c4
  obtain rfl:=Option.some.inj H
  go_enter Try.func104,Try.ntmps104
  go_wp2
  go_ret
  exact ⟨by first|rfl|(simp;done)|(simp [*];done),by repeat (first|exact uc.refl _|apply uc.step)⟩
 ·rw [if_neg c4] at H
  have Gi:(a0.toList == ([43]:List UInt8))=false:=beq_eq_false_iff_ne.mpr c4
  have CC:(a0.toList != ([43]:List UInt8))=true:=bne_iff_ne.mpr c4
  by_cases c5:a0.toList=([45]:List UInt8)
  ·rw [if_pos c5] at H
   have Il:(a0.toList == ([45]:List UInt8))=true:=beq_iff_eq.mpr c5
   have Bq:(a0.toList != ([45]:List UInt8))=false:=bne_eq_false_iff_eq.mpr c5
   clear c5
   obtain rfl:=Option.some.inj H
   go_enter Try.func104,Try.ntmps104
   go_wp2
   go_ret
   exact ⟨by first|rfl|(simp;done)|(simp [*];done),by repeat (first|exact uc.refl _|apply uc.step)⟩
  ·rw [if_neg c5] at H
   have Il:(a0.toList == ([45]:List UInt8))=false:=beq_eq_false_iff_ne.mpr c5
   have Bq:(a0.toList != ([45]:List UInt8))=true:=bne_iff_ne.mpr c5
   by_cases c6:a0.toList=([42]:List UInt8)
   ·rw [if_pos c6] at H
    have cm:(a0.toList == ([42]:List UInt8))=true:=beq_iff_eq.mpr c6
    have av:(a0.toList != ([42]:List UInt8))=false:=bne_eq_false_iff_eq.mpr c6
    clear c6
    obtain rfl:=Option.some.inj H
    go_enter Try.func104,Try.ntmps104
    go_wp2
    go_ret
    exact ⟨by first|rfl|(simp;done)|(simp [*];done),by repeat (first|exact uc.refl _|apply uc.step)⟩
   ·rw [if_neg c6] at H
    have cm:(a0.toList == ([42]:List UInt8))=false:=beq_eq_false_iff_ne.mpr c6
    have av:(a0.toList != ([42]:List UInt8))=true:=bne_iff_ne.mpr c6
    by_cases c7:a0.toList=([38]:List UInt8)
    ·rw [if_pos c7] at H
     have bp:(a0.toList == ([38]:List UInt8))=true:=beq_iff_eq.mpr c7
     have Zu:(a0.toList != ([38]:List UInt8))=false:=bne_eq_false_iff_eq.mpr c7
     clear c7
     obtain rfl:=Option.some.inj H
     go_enter Try.func104,Try.ntmps104
     go_wp2
     go_ret
     exact ⟨by first|rfl|(simp;done)|(simp [*];done),by repeat (first|exact uc.refl _|apply uc.step)⟩
    ·rw [if_neg c7] at H
     have bp:(a0.toList == ([38]:List UInt8))=false:=beq_eq_false_iff_ne.mpr c7
     have Zu:(a0.toList != ([38]:List UInt8))=true:=bne_iff_ne.mpr c7
     by_cases c8:a0.toList=([61,61]:List UInt8)
     ·rw [if_pos c8] at H
      have Ll:(a0.toList == ([61,61]:List UInt8))=true:=beq_iff_eq.mpr c8
      have mq:(a0.toList != ([61,61]:List UInt8))=false:=bne_eq_false_iff_eq.mpr c8
      clear c8
      by_cases c9:a1=a2
      ·rw [if_pos c9] at H
       have xy:(a1 == a2)=true:=beq_iff_eq.mpr c9
       have mB:(a1 != a2)=false:=bne_eq_false_iff_eq.mpr c9
       clear c9
       obtain rfl:=Option.some.inj H
       go_enter Try.func104,Try.ntmps104
       go_wp2
       go_ret
       exact ⟨by first|rfl|(simp;done)|(simp [*];done),by repeat (first|exact uc.refl _|apply uc.step)⟩
      ·rw [if_neg c9] at H
       have xy:(a1 == a2)=false:=beq_eq_false_iff_ne.mpr c9
       have mB:(a1 != a2)=true:=bne_iff_ne.mpr c9
       obtain rfl:=Option.some.inj H
       go_enter Try.func104,Try.ntmps104
       go_wp2
       go_ret
       exact ⟨by first|rfl|(simp;done)|(simp [*];done),by repeat (first|exact uc.refl _|apply uc.step)⟩
     ·rw [if_neg c8] at H
      have Ll:(a0.toList == ([61,61]:List UInt8))=false:=beq_eq_false_iff_ne.mpr c8
      have mq:(a0.toList != ([61,61]:List UInt8))=true:=bne_iff_ne.mpr c8
      by_cases wo:a0.toList=([60]:List UInt8)
      ·rw [if_pos wo] at H
       have Eu:(a0.toList == ([60]:List UInt8))=true:=beq_iff_eq.mpr wo
       have Ey:(a0.toList != ([60]:List UInt8))=false:=bne_eq_false_iff_eq.mpr wo
       clear wo
       by_cases c11:a1 < a2
       ·rw [if_pos c11] at H
        have Gz:decide (a1 < a2)=true:=decide_eq_true c11
        clear c11
        obtain rfl:=Option.some.inj H
        go_enter Try.func104,Try.ntmps104
        go_wp2
        go_ret
        exact ⟨by first|rfl|(simp;done)|(simp [*];done),by repeat (first|exact uc.refl _|apply uc.step)⟩
       ·rw [if_neg c11] at H
        have Gz:decide (a1 < a2)=false:=decide_eq_false c11
        clear c11
        obtain rfl:=Option.some.inj H
        go_enter Try.func104,Try.ntmps104
        go_wp2
        go_ret
        exact ⟨by first|rfl|(simp;done)|(simp [*];done),by repeat (first|exact uc.refl _|apply uc.step)⟩
      ·rw [if_neg wo] at H
       have Eu:(a0.toList == ([60]:List UInt8))=false:=beq_eq_false_iff_ne.mpr wo
       have Ey:(a0.toList != ([60]:List UInt8))=true:=bne_iff_ne.mpr wo
       obtain rfl:=Option.some.inj H
       go_enter Try.func104,Try.ntmps104
       go_wp2
       go_ret
       exact ⟨by first|rfl|(simp;done)|(simp [*];done),by repeat (first|exact uc.refl _|apply uc.step)⟩
mutual
def qb.j0:Nat→ByteArray→Bool→Int→Int→Int→Int→Option (Int × Int × Bool)
 | 0,_,_,_,_,_,_=>none
 | k + 1,x0,x8,x102000,ke,x103000,x103001=>if x8=true then ((Uo.f x0 ke x103001).bind fun t104=>(some ((-1),t104,true))) else (if x0.toList=([43]:List UInt8) then (qb.j1 k x0 (x102000 == (-1)) x102000 ke x103000 x103001) else (qb.j1 k x0 false x102000 ke x103000 x103001))
def qb.j1:Nat→ByteArray→Bool→Int→Int→Int→Int→Option (Int × Int × Bool)
 | 0,_,_,_,_,_,_=>none
 | k + 1,x0,x24,x102000,ke,x103000,x103001=>if x24=true then (some (x103000,wrap64 (ke + x103001),true)) else (if x0.toList=([43]:List UInt8) then (qb.j2 k x0 (x103000 == (-1)) x102000 ke x103000 x103001) else (qb.j2 k x0 false x102000 ke x103000 x103001))
def qb.j2:Nat→ByteArray→Bool→Int→Int→Int→Int→Option (Int × Int × Bool)
 | 0,_,_,_,_,_,_=>none
 | k + 1,x0,x40,x102000,ke,x103000,x103001=>if x40=true then (some (x102000,wrap64 (ke + x103001),true)) else (if x0.toList=([45]:List UInt8) then (qb.j3 k x0 (x103000 == (-1)) x102000 ke x103000 x103001) else (qb.j3 k x0 false x102000 ke x103000 x103001))
def qb.j3:Nat→ByteArray→Bool→Int→Int→Int→Int→Option (Int × Int × Bool)
 | 0,_,_,_,_,_,_=>none
 | k + 1,x0,x56,x102000,ke,x103000,x103001=>if x56=true then (some (x102000,wrap64 (ke - x103001),true)) else (if x0.toList=([45]:List UInt8) then (if x102000=x103000 then (some ((-1),wrap64 (ke - x103001),true)) else (some (0,0,false))) else (some (0,0,false)))
end
def qb.f (k:Nat) (a0:ByteArray) (qc:Int) (Fb:Int) (Dh:Int) (ai:Int):Option (Int × Int × Bool):=if qc=(-1) then (qb.j0 k a0 (Dh == (-1)) qc Fb Dh ai) else (qb.j0 k a0 false qc Fb Dh ai)
theorem qb.Sd:∀ k,(∀ y0 y1 y2 y3 y4 y5,Lb (qb.j0 k y0 y1 y2 y3 y4 y5) (qb.j0 (k + 1) y0 y1 y2 y3 y4 y5))∧(∀ y0 y1 y2 y3 y4 y5,Lb (qb.j1 k y0 y1 y2 y3 y4 y5) (qb.j1 (k + 1) y0 y1 y2 y3 y4 y5))∧(∀ y0 y1 y2 y3 y4 y5,Lb (qb.j2 k y0 y1 y2 y3 y4 y5) (qb.j2 (k + 1) y0 y1 y2 y3 y4 y5))∧(∀ y0 y1 y2 y3 y4 y5,Lb (qb.j3 k y0 y1 y2 y3 y4 y5) (qb.j3 (k + 1) y0 y1 y2 y3 y4 y5))
 | 0=>⟨fun _ _ _ _ _ _ r h=>by simp [qb.j0] at h,fun _ _ _ _ _ _ r h=>by simp [qb.j1] at h,fun _ _ _ _ _ _ r h=>by simp [qb.j2] at h,fun _ _ _ _ _ _ r h=>by simp [qb.j3] at h⟩
 | k + 1=>by
  obtain ⟨Ff,ih1,ih2,ih3⟩:=qb.Sd k
  refine ⟨?_,?_,?_,?_⟩
  ·intro y0 y1 y2 y3 y4 y5
   unfold qb.j0
   repeat' first
   | (with_reducible exact Ff _ _ _ _ _ _)
   | (with_reducible exact ih1 _ _ _ _ _ _)
   | (with_reducible exact ih2 _ _ _ _ _ _)
   | (with_reducible exact ih3 _ _ _ _ _ _)
   | (with_reducible exact Lb.refl _)
   | (with_reducible exact Lb.none _)
   | (with_reducible refine Lb.ite ?_ ?_)
   | (with_reducible refine Lb.bind ?_ (fun _=>?_))
   | exact Ff _ _ _ _ _ _
   | exact ih1 _ _ _ _ _ _
   | exact ih2 _ _ _ _ _ _
   | exact ih3 _ _ _ _ _ _
   | exact Lb.none _
   | refine Lb.ite ?_ ?_
   | refine Lb.bind ?_ (fun _=>?_)
  ·intro y0 y1 y2 y3 y4 y5
   unfold qb.j1
   repeat' first
   | (with_reducible exact Ff _ _ _ _ _ _)
   | (with_reducible exact ih1 _ _ _ _ _ _)
   | (with_reducible exact ih2 _ _ _ _ _ _)
   | (with_reducible exact ih3 _ _ _ _ _ _)
   | (with_reducible exact Lb.refl _)
   | (with_reducible exact Lb.none _)
   | (with_reducible refine Lb.ite ?_ ?_)
   | (with_reducible refine Lb.bind ?_ (fun _=>?_))
   | exact Ff _ _ _ _ _ _
   | exact ih1 _ _ _ _ _ _
   | exact ih2 _ _ _ _ _ _
   | exact ih3 _ _ _ _ _ _
   | exact Lb.none _
   | refine Lb.ite ?_ ?_
   | refine Lb.bind ?_ (fun _=>?_)
  ·intro y0 y1 y2 y3 y4 y5
   unfold qb.j2
   repeat' first
   | (with_reducible exact Ff _ _ _ _ _ _)
   | (with_reducible exact ih1 _ _ _ _ _ _)
   | (with_reducible exact ih2 _ _ _ _ _ _)
   | (with_reducible exact ih3 _ _ _ _ _ _)
   | (with_reducible exact Lb.refl _)
   | (with_reducible exact Lb.none _)
   | (with_reducible refine Lb.ite ?_ ?_)
   | (with_reducible refine Lb.bind ?_ (fun _=>?_))
   | exact Ff _ _ _ _ _ _
   | exact ih1 _ _ _ _ _ _
   | exact ih2 _ _ _ _ _ _
   | exact ih3 _ _ _ _ _ _
   | exact Lb.none _
   | refine Lb.ite ?_ ?_
   | refine Lb.bind ?_ (fun _=>?_)
  ·intro y0 y1 y2 y3 y4 y5
   unfold qb.j3
   repeat' first
   | (with_reducible exact Ff _ _ _ _ _ _)
   | (with_reducible exact ih1 _ _ _ _ _ _)
   | (with_reducible exact ih2 _ _ _ _ _ _)
   | (with_reducible exact ih3 _ _ _ _ _ _)
   | (with_reducible exact Lb.refl _)
   | (with_reducible exact Lb.none _)
   | (with_reducible refine Lb.ite ?_ ?_)
   | (with_reducible refine Lb.bind ?_ (fun _=>?_))
   | exact Ff _ _ _ _ _ _
   | exact ih1 _ _ _ _ _ _
   | exact ih2 _ _ _ _ _ _
   | exact ih3 _ _ _ _ _ _
   | exact Lb.none _
   | refine Lb.ite ?_ ?_
   | refine Lb.bind ?_ (fun _=>?_)
theorem qb.mono:∀ a0 a1 a2 a3 a4 k,Lb (qb.f k a0 a1 a2 a3 a4) (qb.f (k + 1) a0 a1 a2 a3 a4):=by
 intro a0 a1 a2 a3 a4 k
 obtain ⟨Ff,ih1,ih2,ih3⟩:=qb.Sd k
 unfold qb.f
 repeat' first
   | (with_reducible exact Ff _ _ _ _ _ _)
   | (with_reducible exact ih1 _ _ _ _ _ _)
   | (with_reducible exact ih2 _ _ _ _ _ _)
   | (with_reducible exact ih3 _ _ _ _ _ _)
   | (with_reducible exact Lb.refl _)
   | (with_reducible exact Lb.none _)
   | (with_reducible refine Lb.ite ?_ ?_)
   | (with_reducible refine Lb.bind ?_ (fun _=>?_))
   | exact Ff _ _ _ _ _ _
   | exact ih1 _ _ _ _ _ _
   | exact ih2 _ _ _ _ _ _
   | exact ih3 _ _ _ _ _ _
   | exact Lb.none _
   | refine Lb.ite ?_ ?_
   | refine Lb.bind ?_ (fun _=>?_)
set_option maxHeartbeats 8000000 in
set_option maxRecDepth 100000 in
theorem qb.calls (k:Nat) (a0:ByteArray) (qc:Int) (Fb:Int) (Dh:Int) (ai:Int) (r1:Int) (r2:Int) (r3:Bool) (w:World) (h:qb.f k a0 qc Fb Dh ai=some (r1,r2,r3)) :
  Calls Try.prog 106 #[.string a0,.agg #[.int .i64 qc,.int .i64 Fb],.agg #[.int .i64 Dh,.int .i64 ai]] w fun e w'=>e = .returned (.tuple #[.agg #[.int .i64 r1,.int .i64 r2],.bool r3])∧Below w.heap.size w w':=by
 have sW:=Try.underlying77
 have HB:=ja.mk (Below.refl w.heap.size w)
 have H:(if qc=(-1) then (qb.j0 k a0 (Dh == (-1)) qc Fb Dh ai) else (qb.j0 k a0 false qc Fb Dh ai))=some (r1,r2,r3):=h
 clear h
 have WC:=ja.mk H
 clear H
 go_enter Try.func106,Try.ntmps106
 go_upto_region 1 with (first|((with_reducible refine Kb (N:=4) rfl ?_);refine Eb ?hg (N:=4) ?hd (cs:=#[.int .i64 qc,.int .i64 Fb]) (t:=77) ?hr ?_;(case hd=>rfl);(case hg=>rfl);(case hr=>first|(go_simp;done)|(go_simp;rfl));intro Ea hg w5 Tb hb;have Gb:=ja.mk (Qa (by repeat (first|(with_reducible first|exact HB.out|apply qa|apply ia|apply ua)|exact HB.out)) hb);have Vb:=ja.mk (Tb);have Ac:=ja.mk ((by rw [hg];exact (Ra (by repeat (first|(with_reducible first|exact HB.out|apply qa|apply ia|apply ua)|exact HB.out))):w.heap.size ≤ Ea));have ud:=ja.mk ((by rw [hg];exact (Ra (by repeat (first|(with_reducible first|exact HB.out|apply qa|apply ia|apply ua)|exact HB.out))):w.heap.size ≤ Ea));clear HB;have HB:=Gb;have za:=Vb;have Be:=Ac;have Wa:=ud;clear Gb Vb Ac ud;clear hb Tb hg)|((with_reducible refine Kb (N:=5) rfl ?_);refine Eb ?hg (N:=5) ?hd (cs:=#[.int .i64 Dh,.int .i64 ai]) (t:=77) ?hr ?_;(case hd=>rfl);(case hg=>rfl);(case hr=>first|(go_simp;done)|(go_simp;rfl));intro Fa hg w6 Tb hb;have Gb:=ja.mk (gb (g:=Ea) (o:=.cells #[.int .i64 qc,.int .i64 Fb] 77 (0,0)) (by (with_reducible repeat (first|refine Da ?_ _|refine Ga ?_|refine Ca ?_ _));exact za.out) hb);have Vb:=ja.mk (Qa (by repeat (first|(with_reducible first|exact HB.out|apply qa|apply ia|apply ua|refine Aa ?_ Wa.out)|exact HB.out)) hb);have Ac:=ja.mk (Tb);have ud:=ja.mk ((by rw [hg];exact (Ra (by repeat (first|(with_reducible first|exact HB.out|apply qa|apply ia|apply ua|refine Aa ?_ Wa.out)|exact HB.out))):w.heap.size ≤ Fa));have ef:=ja.mk ((by rw [hg];exact (Ra (by repeat (first|(with_reducible first|exact HB.out|apply qa|apply ia|apply ua|refine Aa ?_ Wa.out)|exact HB.out))):w.heap.size ≤ Fa));have Ag:=ja.mk ((by rw [hg];exact Nat.ne_of_lt (Lc (g:=Ea) (o:=.cells #[.int .i64 qc,.int .i64 Fb] 77 (0,0)) (by (with_reducible repeat (first|refine Da ?_ _|refine Ga ?_|refine Ca ?_ _));exact za.out)):Ea ≠ Fa));have dh:=ja.mk ((by rw [hg];exact Nat.ne_of_gt (Lc (g:=Ea) (o:=.cells #[.int .i64 qc,.int .i64 Fb] 77 (0,0)) (by (with_reducible repeat (first|refine Da ?_ _|refine Ga ?_|refine Ca ?_ _));exact za.out)):Fa ≠ Ea));clear za;clear HB;have za:=Gb;have HB:=Vb;have Ba:=Ac;have Df:=ud;have Sb:=ef;have Ua:=Ag;have jb:=dh;clear Gb Vb Ac ud ef Ag dh;clear hb Tb hg)|((with_reducible refine Kb (N:=6) rfl ?_);refine Eb ?hg (N:=6) ?hd (cs:=#[.int .i64 0,.int .i64 0]) (t:=77) ?hr ?_;(case hd=>rfl);(case hg=>rfl);(case hr=>first|(go_simp;done)|(go_simp;rfl));intro fe hg w7 Tb hb;have Gb:=ja.mk (gb (g:=Ea) (o:=.cells #[.int .i64 qc,.int .i64 Fb] 77 (0,0)) (by (with_reducible repeat (first|refine Da ?_ _|refine Ga ?_|refine Ca ?_ _));exact za.out) hb);have Vb:=ja.mk (gb (g:=Fa) (o:=.cells #[.int .i64 Dh,.int .i64 ai] 77 (0,0)) (by (with_reducible repeat (first|refine Da ?_ _|refine Ga ?_|refine Ca ?_ _));exact Ba.out) hb);have Ac:=ja.mk (Qa (by repeat (first|(with_reducible first|exact HB.out|apply qa|apply ia|apply ua|refine Aa ?_ Wa.out|refine Aa ?_ Sb.out)|exact HB.out)) hb);have ud:=ja.mk (Tb);have ef:=ja.mk ((by rw [hg];exact (Ra (by repeat (first|(with_reducible first|exact HB.out|apply qa|apply ia|apply ua|refine Aa ?_ Wa.out|refine Aa ?_ Sb.out)|exact HB.out))):w.heap.size ≤ fe));have Ag:=ja.mk ((by rw [hg];exact (Ra (by repeat (first|(with_reducible first|exact HB.out|apply qa|apply ia|apply ua|refine Aa ?_ Wa.out|refine Aa ?_ Sb.out)|exact HB.out))):w.heap.size ≤ fe));have dh:=ja.mk ((by rw [hg];exact Nat.ne_of_lt (Lc (g:=Ea) (o:=.cells #[.int .i64 qc,.int .i64 Fb] 77 (0,0)) (by (with_reducible repeat (first|refine Da ?_ _|refine Ga ?_|refine Ca ?_ _));exact za.out)):Ea ≠ fe));have Fv:=ja.mk ((by rw [hg];exact Nat.ne_of_gt (Lc (g:=Ea) (o:=.cells #[.int .i64 qc,.int .i64 Fb] 77 (0,0)) (by (with_reducible repeat (first|refine Da ?_ _|refine Ga ?_|refine Ca ?_ _));exact za.out)):fe ≠ Ea));have Dv:=ja.mk ((by rw [hg];exact Nat.ne_of_lt (Lc (g:=Fa) (o:=.cells #[.int .i64 Dh,.int .i64 ai] 77 (0,0)) (by (with_reducible repeat (first|refine Da ?_ _|refine Ga ?_|refine Ca ?_ _));exact Ba.out)):Fa ≠ fe));have xJ:=ja.mk ((by rw [hg];exact Nat.ne_of_gt (Lc (g:=Fa) (o:=.cells #[.int .i64 Dh,.int .i64 ai] 77 (0,0)) (by (with_reducible repeat (first|refine Da ?_ _|refine Ga ?_|refine Ca ?_ _));exact Ba.out)):fe ≠ Fa));clear za;clear Ba;clear HB;have za:=Gb;have Ba:=Vb;have HB:=Ac;have Bd:=ud;have LL:=ef;have Ai:=Ag;have dg:=dh;have Wg:=Fv;have Ke:=Dv;have Vg:=xJ;clear Gb Vb Ac ud ef Ag dh Fv Dv xJ;clear hb Tb hg))
 (try simp only [Act.put,List.setIfInBounds_toArray,List.set_cons_zero,List.set_cons_succ])
 go_cut [8] (fun v8 wc=>∃ (kq:Nat) (aM:Bool),v8 = .bool aM∧ja (qb.j0 kq a0 aM qc Fb Dh ai=some (r1,r2,r3))∧ja (kq ≤ k)∧ja (wc.heap[Ea]? = some (.cells #[.int .i64 qc,.int .i64 Fb] 77 (0,0)))∧ja (wc.heap[Fa]? = some (.cells #[.int .i64 Dh,.int .i64 ai] 77 (0,0)))∧ja (wc.heap[fe]? = some (.cells #[.int .i64 0,.int .i64 0] 77 (0,0)))∧ja (Below w.heap.size w wc))
 case first =>
  have H:=WC.out
  clear WC
  by_cases c8:qc=(-1)
  ·rw [if_pos c8] at H
   have Ll:(qc == (-1))=true:=beq_iff_eq.mpr c8
   have mq:(qc != (-1))=false:=bne_eq_false_iff_eq.mpr c8
   clear c8
   (first|rw [Ll]|(simp only [Ib,Jb];rw [Ll])|skip)
   have H':=ja.mk H
   clear H
   have RW:=Ua.out
   have wW:=jb.out
   have jX:=dg.out
   have QW:=Wg.out
   have El:w7.cell? ⟨Ea,0,none⟩=some (.int .i64 qc):=(ga za.out 0).trans rfl
   have Dl:w7.cell? ⟨Ea,1,none⟩=some (.int .i64 Fb):=(ga za.out 1).trans rfl
   have Cl:=aa za.out 0
   have Bl:=aa za.out 1
   have aK:=Ke.out
   have YJ:=Vg.out
   have aj:w7.cell? ⟨Fa,0,none⟩=some (.int .i64 Dh):=(ga Ba.out 0).trans rfl
   have Zi:w7.cell? ⟨Fa,1,none⟩=some (.int .i64 ai):=(ga Ba.out 1).trans rfl
   have Yi:=aa Ba.out 0
   have Xi:=aa Ba.out 1
   go_wp2
   go_meet
   case rel=>exact ⟨_,((Dh == (-1))),(by first|rfl|(simp;done)|(simp [*];done)),H',⟨by first|omega|exact Nat.le_refl _⟩,⟨by (with_reducible repeat (first|refine Da ?_ _|refine Ga ?_|refine Ca ?_ _));exact za.out⟩,⟨by (with_reducible repeat (first|refine Da ?_ _|refine Ga ?_|refine Ca ?_ _));exact Ba.out⟩,⟨by (with_reducible repeat (first|refine Da ?_ _|refine Ga ?_|refine Ca ?_ _));exact Bd.out⟩,⟨by repeat (first|(with_reducible first|exact HB.out|apply qa|apply ia|apply ua|refine Aa ?_ Wa.out|refine Aa ?_ Sb.out|refine Aa ?_ Ai.out)|exact HB.out)⟩⟩
  ·rw [if_neg c8] at H
   have Ll:(qc == (-1))=false:=beq_eq_false_iff_ne.mpr c8
   have mq:(qc != (-1))=true:=bne_iff_ne.mpr c8
   (first|rw [Ll]|(simp only [Ib,Jb];rw [Ll])|skip)
   have H':=ja.mk H
   clear H
   have Kaj:=Ua.out
   have Xai:=jb.out
   have gX:=dg.out
   have OW:=Wg.out
   have sn:w7.cell? ⟨Ea,0,none⟩=some (.int .i64 qc):=(ga za.out 0).trans rfl
   have qn:w7.cell? ⟨Ea,1,none⟩=some (.int .i64 Fb):=(ga za.out 1).trans rfl
   have gn:=aa za.out 0
   have dn:=aa za.out 1
   go_wp2
   go_meet
   case rel=>exact ⟨_,(false),(by first|rfl|(simp;done)|(simp [*];done)),H',⟨by first|omega|exact Nat.le_refl _⟩,⟨by (with_reducible repeat (first|refine Da ?_ _|refine Ga ?_|refine Ca ?_ _));exact za.out⟩,⟨by (with_reducible repeat (first|refine Da ?_ _|refine Ga ?_|refine Ca ?_ _));exact Ba.out⟩,⟨by (with_reducible repeat (first|refine Da ?_ _|refine Ga ?_|refine Ca ?_ _));exact Bd.out⟩,⟨by repeat (first|(with_reducible first|exact HB.out|apply qa|apply ia|apply ua|refine Aa ?_ Wa.out|refine Aa ?_ Sb.out|refine Aa ?_ Ai.out)|exact HB.out)⟩⟩
 case rest =>
  clear WC
  try clear c1
  try clear p2
  try clear c8
  try clear Ll
  try clear mq
  try clear c9
  try clear wo
  try clear c12
  try clear c14
  try clear c15
  try clear El
  try clear Dl
  try clear aj
  try clear Zi
  try clear sn
  try clear qn
  try clear Cl
  try clear Bl
  try clear Yi
  try clear Xi
  try clear gn
  try clear dn
  obtain ⟨kq,aM,rfl,HA,JV,za,Ba,Bd,HB⟩:=hcut
  cases kq with
  | zero=>exact absurd HA.out (by simp [qb.j0])
  | succ kj3 =>
   have H:=HA.out
   clear HA
   simp only [qb.j0] at H
   by_cases c17:aM=true
   ·subst c17
    have H1:((Uo.f a0 Fb ai).bind fun t104=>(some ((-1),t104,true)))=some (r1,r2,r3):=by rw [if_pos rfl] at H;exact H
    clear H
    have H:=H1
    clear H1
    replace H:=Option.bind_eq_some_iff.mp H
    obtain ⟨t104,PL,H⟩:=H
    replace H:(some ((-1),t104,true))=some (r1,r2,r3):=H
    have cJ:=ja.mk PL
    clear PL
    simp only [Option.some.injEq,Prod.mk.injEq] at H
    obtain ⟨rfl,rfl,rfl⟩:=H
    have fX:=Ua.out
    have NW:=jb.out
    have Haj:=dg.out
    have Uai:=Wg.out
    have xx:wc.cell? ⟨Ea,0,none⟩=some (.int .i64 qc):=(ga za.out 0).trans rfl
    have ux:wc.cell? ⟨Ea,1,none⟩=some (.int .i64 Fb):=(ga za.out 1).trans rfl
    have Gw:=aa za.out 0
    have Fw:=aa za.out 1
    have kR:=Ke.out
    have eR:=Vg.out
    have Ak:wc.cell? ⟨Fa,0,none⟩=some (.int .i64 Dh):=(ga Ba.out 0).trans rfl
    have zk:wc.cell? ⟨Fa,1,none⟩=some (.int .i64 ai):=(ga Ba.out 1).trans rfl
    have nk:=aa Ba.out 0
    have jk:=aa Ba.out 1
    go_wp2_with (first|((with_reducible refine mb (f:=104) rfl ?_);refine yd (some 22) rfl rfl Try.func104 (by kernel_rfl) rfl #[.string a0,.int .i64 Fb,.int .i64 ai] rfl (by (try simp only [List.map_toArray,List.map_cons,List.map_nil]);first|done|rfl|(simp only [List.length_drop,List.length_take];rfl)) ?_;(with_reducible refine (Uo.calls a0 Fb ai t104 _ cJ.out).mono ?_);rintro e w' ⟨rfl,⟨nd,rfl⟩⟩;refine ⟨_,rfl,?_⟩;(try (rw [gE wc];generalize hq_:World.drewN wc _=wc;have Gb:ja (wc.heap[Ea]? = some (.cells #[.int .i64 qc,.int .i64 Fb] 77 (0,0))):=⟨by rw [← hq_];exact (by (with_reducible repeat (first|refine Da ?_ _|refine Ga ?_|refine Ca ?_ _));exact za.out)⟩;have Vb:ja (wc.heap[Fa]? = some (.cells #[.int .i64 Dh,.int .i64 ai] 77 (0,0))):=⟨by rw [← hq_];exact (by (with_reducible repeat (first|refine Da ?_ _|refine Ga ?_|refine Ca ?_ _));exact Ba.out)⟩;have Ac:ja (wc.heap[fe]? = some (.cells #[.int .i64 0,.int .i64 0] 77 (0,0))):=⟨by rw [← hq_];exact (by (with_reducible repeat (first|refine Da ?_ _|refine Ga ?_|refine Ca ?_ _));exact Bd.out)⟩;have ud:ja (Below w.heap.size w wc):=⟨by rw [← hq_];exact (by repeat (first|(with_reducible first|exact HB.out|apply qa|apply ia|apply ua|refine Aa ?_ Wa.out|refine Aa ?_ Sb.out|refine Aa ?_ Ai.out)|exact HB.out))⟩;clear za Ba Bd HB hq_;have za:=Gb;have Ba:=Vb;have Bd:=Ac;have HB:=ud;clear Gb Vb Ac ud));have kn:wc.cell? ⟨fe,0,none⟩=some (.int .i64 0):=(ga Bd.out 0).trans rfl;have jn:wc.cell? ⟨fe,1,none⟩=some (.int .i64 0):=(ga Bd.out 1).trans rfl;have cn:=aa Bd.out 0;have bn:=aa Bd.out 1))
    refine bodyPost_ret (Ik rfl _ _ fe 77 #[.int .i64 (-1),.int .i64 t104] (0,0) _ rfl (by (with_reducible repeat (first|refine Da ?_ _|refine Ga ?_|refine Ca ?_ _));refine Wb (cs:=#[.int .i64 (-1),.int .i64 0]) ?_ 1 _ rfl;(with_reducible repeat (first|refine Da ?_ _|refine Ga ?_|refine Ca ?_ _));refine Wb (cs:=#[.int .i64 0,.int .i64 0]) ?_ 0 _ rfl;(with_reducible repeat (first|refine Da ?_ _|refine Ga ?_|refine Ca ?_ _));exact Bd.out) Try.underlying77 rfl (by kernel_rfl)) rfl ?_
    exact ⟨by first|rfl|(simp [La,Ka] <;> rfl)|(simp [*,La,Ka] <;> rfl),by repeat (first|(with_reducible first|exact HB.out|apply qa|apply ia|apply ua|refine Aa ?_ Wa.out|refine Aa ?_ Sb.out|refine Aa ?_ Ai.out)|exact HB.out)⟩
   ·replace c17:=Bool.eq_false_iff.mpr c17
    subst c17
    have H1:(if a0.toList=([43]:List UInt8) then (qb.j1 kj3 a0 (qc == (-1)) qc Fb Dh ai) else (qb.j1 kj3 a0 false qc Fb Dh ai))=some (r1,r2,r3):=by rw [if_neg (show ¬ (false=true) by decide)] at H;exact H
    clear H
    have H:=H1
    clear H1
    have tV:=ja.mk H
    clear H
    go_upto_region 3 with (fail)
    go_cut [24] (fun v24 wc=>∃ (kq:Nat) (Pz:Bool),v24 = .bool Pz∧ja (qb.j1 kq a0 Pz qc Fb Dh ai=some (r1,r2,r3))∧ja (kq ≤ kj3)∧ja (wc.heap[Ea]? = some (.cells #[.int .i64 qc,.int .i64 Fb] 77 (0,0)))∧ja (wc.heap[Fa]? = some (.cells #[.int .i64 Dh,.int .i64 ai] 77 (0,0)))∧ja (wc.heap[fe]? = some (.cells #[.int .i64 0,.int .i64 0] 77 (0,0)))∧ja (Below w.heap.size w wc))
    case first =>
     have H:=tV.out
     clear tV
     by_cases c26:a0.toList=([43]:List UInt8)
     ·rw [if_pos c26] at H
      have Ov:(a0.toList == ([43]:List UInt8))=true:=beq_iff_eq.mpr c26
      have OH:(a0.toList != ([43]:List UInt8))=false:=bne_eq_false_iff_eq.mpr c26
      clear c26
      (first|rw [Ov]|(simp only [Ib,Jb];rw [Ov])|skip)
      have H':=ja.mk H
      clear H
      have jR:=Ua.out
      have dR:=jb.out
      have iR:=dg.out
      have cR:=Wg.out
      have Wp:wc.cell? ⟨Ea,0,none⟩=some (.int .i64 qc):=(ga za.out 0).trans rfl
      have Vp:wc.cell? ⟨Ea,1,none⟩=some (.int .i64 Fb):=(ga za.out 1).trans rfl
      have Fp:=aa za.out 0
      have Ep:=aa za.out 1
      go_wp2
      go_meet
      case rel=>exact ⟨_,((qc == (-1))),(by first|rfl|(simp;done)|(simp [*];done)),H',⟨by have:=JV.out;first|omega|exact Nat.le_refl _⟩,⟨by (with_reducible repeat (first|refine Da ?_ _|refine Ga ?_|refine Ca ?_ _));exact za.out⟩,⟨by (with_reducible repeat (first|refine Da ?_ _|refine Ga ?_|refine Ca ?_ _));exact Ba.out⟩,⟨by (with_reducible repeat (first|refine Da ?_ _|refine Ga ?_|refine Ca ?_ _));exact Bd.out⟩,⟨by repeat (first|(with_reducible first|exact HB.out|apply qa|apply ia|apply ua|refine Aa ?_ Wa.out|refine Aa ?_ Sb.out|refine Aa ?_ Ai.out)|exact HB.out)⟩⟩
     ·rw [if_neg c26] at H
      have Ov:(a0.toList == ([43]:List UInt8))=false:=beq_eq_false_iff_ne.mpr c26
      have OH:(a0.toList != ([43]:List UInt8))=true:=bne_iff_ne.mpr c26
      (first|rw [Ov]|(simp only [Ib,Jb];rw [Ov])|skip)
      have H':=ja.mk H
      clear H
      go_wp2
      go_meet
      case rel=>exact ⟨_,(false),(by first|rfl|(simp;done)|(simp [*];done)),H',⟨by have:=JV.out;first|omega|exact Nat.le_refl _⟩,⟨by (with_reducible repeat (first|refine Da ?_ _|refine Ga ?_|refine Ca ?_ _));exact za.out⟩,⟨by (with_reducible repeat (first|refine Da ?_ _|refine Ga ?_|refine Ca ?_ _));exact Ba.out⟩,⟨by (with_reducible repeat (first|refine Da ?_ _|refine Ga ?_|refine Ca ?_ _));exact Bd.out⟩,⟨by repeat (first|(with_reducible first|exact HB.out|apply qa|apply ia|apply ua|refine Aa ?_ Wa.out|refine Aa ?_ Sb.out|refine Aa ?_ Ai.out)|exact HB.out)⟩⟩
    case rest =>
     clear tV
     try clear c1
     try clear c2
     try clear p2
     try clear c8
     try clear Ll
     try clear mq
     try clear c9
     try clear wo
     try clear c12
     try clear c14
     try clear c15
     try clear c17
     try clear c19
     try clear c20
     try clear c22
     try clear c26
     try clear Ov
     try clear OH
     try clear c27
     try clear c28
     try clear El
     try clear Dl
     try clear aj
     try clear Zi
     try clear sn
     try clear qn
     try clear xx
     try clear ux
     try clear Ak
     try clear zk
     try clear kn
     try clear jn
     try clear Wp
     try clear Vp
     try clear Cl
     try clear Bl
     try clear Yi
     try clear Xi
     try clear gn
     try clear dn
     try clear Gw
     try clear Fw
     try clear nk
     try clear jk
     try clear cn
     try clear bn
     try clear Fp
     try clear Ep
     try clear p2
     obtain ⟨kq,Pz,rfl,HA,JQ,za,Ba,Bd,HB⟩:=hcut
     cases kq with
     | zero=>exact absurd HA.out (by simp [qb.j1])
     | succ kj24 =>
      have H:=HA.out
      clear HA
      simp only [qb.j1] at H
      by_cases c30:Pz=true
      ·subst c30
       have H1:(some (Dh,wrap64 (Fb + ai),true))=some (r1,r2,r3):=by rw [if_pos rfl] at H;exact H
       clear H
       have H:=H1
       clear H1
       simp only [Option.some.injEq,Prod.mk.injEq] at H
       obtain ⟨rfl,rfl,rfl⟩:=H
       have cX:=jb.out
       have KW:=Ua.out
       have bX:=Ke.out
       have JW:=Vg.out
       have Xw:wc.cell? ⟨Fa,0,none⟩=some (.int .i64 Dh):=(ga Ba.out 0).trans rfl
       have Ww:wc.cell? ⟨Fa,1,none⟩=some (.int .i64 ai):=(ga Ba.out 1).trans rfl
       have tw:=aa Ba.out 0
       have sw:=aa Ba.out 1
       have aX:=dg.out
       have IW:=Wg.out
       have fu:wc.cell? ⟨Ea,0,none⟩=some (.int .i64 qc):=(ga za.out 0).trans rfl
       have eu:wc.cell? ⟨Ea,1,none⟩=some (.int .i64 Fb):=(ga za.out 1).trans rfl
       have Ft:=aa za.out 0
       have Et:=aa za.out 1
       have jr:wc.cell? ⟨fe,0,none⟩=some (.int .i64 0):=(ga Bd.out 0).trans rfl
       have gr:wc.cell? ⟨fe,1,none⟩=some (.int .i64 0):=(ga Bd.out 1).trans rfl
       have Qq:=aa Bd.out 0
       have Pq:=aa Bd.out 1
       go_wp2
       refine bodyPost_ret (Ik rfl _ _ fe 77 #[.int .i64 Dh,.int .i64 (wrap64 (Fb + ai))] (0,0) _ rfl (by (with_reducible repeat (first|refine Da ?_ _|refine Ga ?_|refine Ca ?_ _));refine Wb (cs:=#[.int .i64 Dh,.int .i64 0]) ?_ 1 _ rfl;(with_reducible repeat (first|refine Da ?_ _|refine Ga ?_|refine Ca ?_ _));refine Wb (cs:=#[.int .i64 0,.int .i64 0]) ?_ 0 _ rfl;(with_reducible repeat (first|refine Da ?_ _|refine Ga ?_|refine Ca ?_ _));exact Bd.out) Try.underlying77 rfl (by kernel_rfl)) rfl ?_
       exact ⟨by first|rfl|(simp [La,Ka] <;> rfl)|(simp [*,La,Ka] <;> rfl),by repeat (first|(with_reducible first|exact HB.out|apply qa|apply ia|apply ua|refine Aa ?_ Wa.out|refine Aa ?_ Sb.out|refine Aa ?_ Ai.out)|exact HB.out)⟩
      ·replace c30:=Bool.eq_false_iff.mpr c30
       subst c30
       have H1:(if a0.toList=([43]:List UInt8) then (qb.j2 kj24 a0 (Dh == (-1)) qc Fb Dh ai) else (qb.j2 kj24 a0 false qc Fb Dh ai))=some (r1,r2,r3):=by rw [if_neg (show ¬ (false=true) by decide)] at H;exact H
       clear H
       have H:=H1
       clear H1
       have rV:=ja.mk H
       clear H
       go_upto_region 5 with (fail)
       go_cut [40] (fun v40 wc=>∃ (kq:Nat) (Oz:Bool),v40 = .bool Oz∧ja (qb.j2 kq a0 Oz qc Fb Dh ai=some (r1,r2,r3))∧ja (kq ≤ kj24)∧ja (wc.heap[Ea]? = some (.cells #[.int .i64 qc,.int .i64 Fb] 77 (0,0)))∧ja (wc.heap[Fa]? = some (.cells #[.int .i64 Dh,.int .i64 ai] 77 (0,0)))∧ja (wc.heap[fe]? = some (.cells #[.int .i64 0,.int .i64 0] 77 (0,0)))∧ja (Below w.heap.size w wc))
       case first =>
        have H:=rV.out
        clear rV
        by_cases c38:a0.toList=([43]:List UInt8)
        ·rw [if_pos c38] at H
         have yy:(a0.toList == ([43]:List UInt8))=true:=beq_iff_eq.mpr c38
         have nL:(a0.toList != ([43]:List UInt8))=false:=bne_eq_false_iff_eq.mpr c38
         clear c38
         (first|rw [yy]|(simp only [Ib,Jb];rw [yy])|skip)
         have H':=ja.mk H
         clear H
         have gR:=jb.out
         have bR:=Ua.out
         have Aaj:=Ke.out
         have Nai:=Vg.out
         have Qw:wc.cell? ⟨Fa,0,none⟩=some (.int .i64 Dh):=(ga Ba.out 0).trans rfl
         have Pw:wc.cell? ⟨Fa,1,none⟩=some (.int .i64 ai):=(ga Ba.out 1).trans rfl
         have iw:=aa Ba.out 0
         have ew:=aa Ba.out 1
         go_wp2
         go_meet
         case rel=>exact ⟨_,((Dh == (-1))),(by first|rfl|(simp;done)|(simp [*];done)),H',⟨by have:=JV.out;have:=JQ.out;first|omega|exact Nat.le_refl _⟩,⟨by (with_reducible repeat (first|refine Da ?_ _|refine Ga ?_|refine Ca ?_ _));exact za.out⟩,⟨by (with_reducible repeat (first|refine Da ?_ _|refine Ga ?_|refine Ca ?_ _));exact Ba.out⟩,⟨by (with_reducible repeat (first|refine Da ?_ _|refine Ga ?_|refine Ca ?_ _));exact Bd.out⟩,⟨by repeat (first|(with_reducible first|exact HB.out|apply qa|apply ia|apply ua|refine Aa ?_ Wa.out|refine Aa ?_ Sb.out|refine Aa ?_ Ai.out)|exact HB.out)⟩⟩
        ·rw [if_neg c38] at H
         have yy:(a0.toList == ([43]:List UInt8))=false:=beq_eq_false_iff_ne.mpr c38
         have nL:(a0.toList != ([43]:List UInt8))=true:=bne_iff_ne.mpr c38
         (first|rw [yy]|(simp only [Ib,Jb];rw [yy])|skip)
         have H':=ja.mk H
         clear H
         go_wp2
         go_meet
         case rel=>exact ⟨_,(false),(by first|rfl|(simp;done)|(simp [*];done)),H',⟨by have:=JV.out;have:=JQ.out;first|omega|exact Nat.le_refl _⟩,⟨by (with_reducible repeat (first|refine Da ?_ _|refine Ga ?_|refine Ca ?_ _));exact za.out⟩,⟨by (with_reducible repeat (first|refine Da ?_ _|refine Ga ?_|refine Ca ?_ _));exact Ba.out⟩,⟨by (with_reducible repeat (first|refine Da ?_ _|refine Ga ?_|refine Ca ?_ _));exact Bd.out⟩,⟨by repeat (first|(with_reducible first|exact HB.out|apply qa|apply ia|apply ua|refine Aa ?_ Wa.out|refine Aa ?_ Sb.out|refine Aa ?_ Ai.out)|exact HB.out)⟩⟩
       case rest =>
        clear rV
        try clear c1
        try clear c2
        try clear p2
        try clear c3
        try clear c4
        try clear p6
        try clear c8
        try clear Ll
        try clear mq
        try clear c9
        try clear wo
        try clear c12
        try clear c14
        try clear c15
        try clear c17
        try clear c19
        try clear c20
        try clear c22
        try clear c26
        try clear Ov
        try clear OH
        try clear c27
        try clear c28
        try clear c30
        try clear c31
        try clear c32
        try clear c34
        try clear c38
        try clear yy
        try clear nL
        try clear c39
        try clear c40
        try clear El
        try clear Dl
        try clear aj
        try clear Zi
        try clear sn
        try clear qn
        try clear xx
        try clear ux
        try clear Ak
        try clear zk
        try clear kn
        try clear jn
        try clear Wp
        try clear Vp
        try clear Xw
        try clear Ww
        try clear fu
        try clear eu
        try clear jr
        try clear gr
        try clear Qw
        try clear Pw
        try clear Cl
        try clear Bl
        try clear Yi
        try clear Xi
        try clear gn
        try clear dn
        try clear Gw
        try clear Fw
        try clear nk
        try clear jk
        try clear cn
        try clear bn
        try clear Fp
        try clear Ep
        try clear tw
        try clear sw
        try clear Ft
        try clear Et
        try clear Qq
        try clear Pq
        try clear iw
        try clear ew
        try clear p2
        obtain ⟨kq,Oz,rfl,HA,R5,za,Ba,Bd,HB⟩:=hcut
        cases kq with
        | zero=>exact absurd HA.out (by simp [qb.j2])
        | succ kj36 =>
         have H:=HA.out
         clear HA
         simp only [qb.j2] at H
         by_cases c42:Oz=true
         ·subst c42
          have H1:(some (qc,wrap64 (Fb + ai),true))=some (r1,r2,r3):=by rw [if_pos rfl] at H;exact H
          clear H
          have H:=H1
          clear H1
          simp only [Option.some.injEq,Prod.mk.injEq] at H
          obtain ⟨rfl,rfl,rfl⟩:=H
          have WW:=Ua.out
          have DW:=jb.out
          have yaj:=dg.out
          have Lai:=Wg.out
          have RG:wc.cell? ⟨Ea,0,none⟩=some (.int .i64 qc):=(ga za.out 0).trans rfl
          have QG:wc.cell? ⟨Ea,1,none⟩=some (.int .i64 Fb):=(ga za.out 1).trans rfl
          have xF:=aa za.out 0
          have wF:=aa za.out 1
          have xaj:=Ke.out
          have Kai:=Vg.out
          have PG:wc.cell? ⟨Fa,0,none⟩=some (.int .i64 Dh):=(ga Ba.out 0).trans rfl
          have OG:wc.cell? ⟨Fa,1,none⟩=some (.int .i64 ai):=(ga Ba.out 1).trans rfl
          have vF:=aa Ba.out 0
          have uF:=aa Ba.out 1
          have cu:wc.cell? ⟨fe,0,none⟩=some (.int .i64 0):=(ga Bd.out 0).trans rfl
          have bu:wc.cell? ⟨fe,1,none⟩=some (.int .i64 0):=(ga Bd.out 1).trans rfl
          have Dt:=aa Bd.out 0
          have Ct:=aa Bd.out 1
          go_wp2
          refine bodyPost_ret (Ik rfl _ _ fe 77 #[.int .i64 qc,.int .i64 (wrap64 (Fb + ai))] (0,0) _ rfl (by (with_reducible repeat (first|refine Da ?_ _|refine Ga ?_|refine Ca ?_ _));refine Wb (cs:=#[.int .i64 qc,.int .i64 0]) ?_ 1 _ rfl;(with_reducible repeat (first|refine Da ?_ _|refine Ga ?_|refine Ca ?_ _));refine Wb (cs:=#[.int .i64 0,.int .i64 0]) ?_ 0 _ rfl;(with_reducible repeat (first|refine Da ?_ _|refine Ga ?_|refine Ca ?_ _));exact Bd.out) Try.underlying77 rfl (by kernel_rfl)) rfl ?_
          exact ⟨by first|rfl|(simp [La,Ka] <;> rfl)|(simp [*,La,Ka] <;> rfl),by repeat (first|(with_reducible first|exact HB.out|apply qa|apply ia|apply ua|refine Aa ?_ Wa.out|refine Aa ?_ Sb.out|refine Aa ?_ Ai.out)|exact HB.out)⟩
         ·replace c42:=Bool.eq_false_iff.mpr c42
          subst c42
          have H1:(if a0.toList=([45]:List UInt8) then (qb.j3 kj36 a0 (Dh == (-1)) qc Fb Dh ai) else (qb.j3 kj36 a0 false qc Fb Dh ai))=some (r1,r2,r3):=by rw [if_neg (show ¬ (false=true) by decide)] at H;exact H
          clear H
          have H:=H1
          clear H1
          have qV:=ja.mk H
          clear H
          go_upto_region 7 with (fail)
          go_cut [56] (fun v56 wc=>∃ (kq:Nat) (Lz:Bool),v56 = .bool Lz∧ja (qb.j3 kq a0 Lz qc Fb Dh ai=some (r1,r2,r3))∧ja (kq ≤ kj36)∧ja (wc.heap[Ea]? = some (.cells #[.int .i64 qc,.int .i64 Fb] 77 (0,0)))∧ja (wc.heap[Fa]? = some (.cells #[.int .i64 Dh,.int .i64 ai] 77 (0,0)))∧ja (wc.heap[fe]? = some (.cells #[.int .i64 0,.int .i64 0] 77 (0,0)))∧ja (Below w.heap.size w wc))
          case first =>
           have H:=qV.out
           clear qV
           by_cases c50:a0.toList=([45]:List UInt8)
           ·rw [if_pos c50] at H
            have Fz:(a0.toList == ([45]:List UInt8))=true:=beq_iff_eq.mpr c50
            have ER:(a0.toList != ([45]:List UInt8))=false:=bne_eq_false_iff_eq.mpr c50
            clear c50
            (first|rw [Fz]|(simp only [Ib,Jb];rw [Fz])|skip)
            have H':=ja.mk H
            clear H
            have ZJ:=jb.out
            have XJ:=Ua.out
            have uaj:=Ke.out
            have Hai:=Vg.out
            have KA:wc.cell? ⟨Fa,0,none⟩=some (.int .i64 Dh):=(ga Ba.out 0).trans rfl
            have JA:wc.cell? ⟨Fa,1,none⟩=some (.int .i64 ai):=(ga Ba.out 1).trans rfl
            have iA:=aa Ba.out 0
            have gA:=aa Ba.out 1
            go_wp2
            go_meet
            case rel=>exact ⟨_,((Dh == (-1))),(by first|rfl|(simp;done)|(simp [*];done)),H',⟨by have:=JV.out;have:=JQ.out;have:=R5.out;first|omega|exact Nat.le_refl _⟩,⟨by (with_reducible repeat (first|refine Da ?_ _|refine Ga ?_|refine Ca ?_ _));exact za.out⟩,⟨by (with_reducible repeat (first|refine Da ?_ _|refine Ga ?_|refine Ca ?_ _));exact Ba.out⟩,⟨by (with_reducible repeat (first|refine Da ?_ _|refine Ga ?_|refine Ca ?_ _));exact Bd.out⟩,⟨by repeat (first|(with_reducible first|exact HB.out|apply qa|apply ia|apply ua|refine Aa ?_ Wa.out|refine Aa ?_ Sb.out|refine Aa ?_ Ai.out)|exact HB.out)⟩⟩
           ·rw [if_neg c50] at H
            have Fz:(a0.toList == ([45]:List UInt8))=false:=beq_eq_false_iff_ne.mpr c50
            have ER:(a0.toList != ([45]:List UInt8))=true:=bne_iff_ne.mpr c50
            (first|rw [Fz]|(simp only [Ib,Jb];rw [Fz])|skip)
            have H':=ja.mk H
            clear H
            go_wp2
            go_meet
            case rel=>exact ⟨_,(false),(by first|rfl|(simp;done)|(simp [*];done)),H',⟨by have:=JV.out;have:=JQ.out;have:=R5.out;first|omega|exact Nat.le_refl _⟩,⟨by (with_reducible repeat (first|refine Da ?_ _|refine Ga ?_|refine Ca ?_ _));exact za.out⟩,⟨by (with_reducible repeat (first|refine Da ?_ _|refine Ga ?_|refine Ca ?_ _));exact Ba.out⟩,⟨by (with_reducible repeat (first|refine Da ?_ _|refine Ga ?_|refine Ca ?_ _));exact Bd.out⟩,⟨by repeat (first|(with_reducible first|exact HB.out|apply qa|apply ia|apply ua|refine Aa ?_ Wa.out|refine Aa ?_ Sb.out|refine Aa ?_ Ai.out)|exact HB.out)⟩⟩
          case rest =>
           clear qV
           try clear c1
           try clear c2
           try clear p2
           try clear c3
           try clear c4
           try clear c5
           try clear p6
           try clear c8
           try clear Ll
           try clear mq
           try clear c9
           try clear wo
           try clear c12
           try clear c14
           try clear c15
           try clear c17
           try clear c19
           try clear c20
           try clear c22
           try clear c26
           try clear Ov
           try clear OH
           try clear c27
           try clear c28
           try clear c30
           try clear c31
           try clear c32
           try clear c34
           try clear c38
           try clear yy
           try clear nL
           try clear c39
           try clear c40
           try clear c42
           try clear c43
           try clear c44
           try clear c46
           try clear c50
           try clear Fz
           try clear ER
           try clear c51
           try clear c52
           try clear El
           try clear Dl
           try clear aj
           try clear Zi
           try clear sn
           try clear qn
           try clear xx
           try clear ux
           try clear Ak
           try clear zk
           try clear kn
           try clear jn
           try clear Wp
           try clear Vp
           try clear Xw
           try clear Ww
           try clear fu
           try clear eu
           try clear jr
           try clear gr
           try clear Qw
           try clear Pw
           try clear RG
           try clear QG
           try clear PG
           try clear OG
           try clear cu
           try clear bu
           try clear KA
           try clear JA
           try clear Cl
           try clear Bl
           try clear Yi
           try clear Xi
           try clear gn
           try clear dn
           try clear Gw
           try clear Fw
           try clear nk
           try clear jk
           try clear cn
           try clear bn
           try clear Fp
           try clear Ep
           try clear tw
           try clear sw
           try clear Ft
           try clear Et
           try clear Qq
           try clear Pq
           try clear iw
           try clear ew
           try clear xF
           try clear wF
           try clear vF
           try clear uF
           try clear Dt
           try clear Ct
           try clear iA
           try clear gA
           try clear p2
           try clear p6
           obtain ⟨kq,Lz,rfl,HA,Fan,za,Ba,Bd,HB⟩:=hcut
           cases kq with
           | zero=>exact absurd HA.out (by simp [qb.j3])
           | succ kj48 =>
            have H:=HA.out
            clear HA
            simp only [qb.j3] at H
            by_cases c54:Lz=true
            ·subst c54
             have H1:(some (qc,wrap64 (Fb - ai),true))=some (r1,r2,r3):=by rw [if_pos rfl] at H;exact H
             clear H
             have H:=H1
             clear H1
             simp only [Option.some.injEq,Prod.mk.injEq] at H
             obtain ⟨rfl,rfl,rfl⟩:=H
             have saj:=Ua.out
             have Fai:=jb.out
             have VW:=dg.out
             have CW:=Wg.out
             have XO:wc.cell? ⟨Ea,0,none⟩=some (.int .i64 qc):=(ga za.out 0).trans rfl
             have WO:wc.cell? ⟨Ea,1,none⟩=some (.int .i64 Fb):=(ga za.out 1).trans rfl
             have eN:=aa za.out 0
             have dN:=aa za.out 1
             have qaj:=Ke.out
             have Dai:=Vg.out
             have Kac:wc.cell? ⟨Fa,0,none⟩=some (.int .i64 Dh):=(ga Ba.out 0).trans rfl
             have Jac:wc.cell? ⟨Fa,1,none⟩=some (.int .i64 ai):=(ga Ba.out 1).trans rfl
             have z_:=aa Ba.out 0
             have x_:=aa Ba.out 1
             have OO:wc.cell? ⟨fe,0,none⟩=some (.int .i64 0):=(ga Bd.out 0).trans rfl
             have MO:wc.cell? ⟨fe,1,none⟩=some (.int .i64 0):=(ga Bd.out 1).trans rfl
             have XM:=aa Bd.out 0
             have WM:=aa Bd.out 1
             go_wp2
             refine bodyPost_ret (Ik rfl _ _ fe 77 #[.int .i64 qc,.int .i64 (wrap64 (Fb - ai))] (0,0) _ rfl (by (with_reducible repeat (first|refine Da ?_ _|refine Ga ?_|refine Ca ?_ _));refine Wb (cs:=#[.int .i64 qc,.int .i64 0]) ?_ 1 _ rfl;(with_reducible repeat (first|refine Da ?_ _|refine Ga ?_|refine Ca ?_ _));refine Wb (cs:=#[.int .i64 0,.int .i64 0]) ?_ 0 _ rfl;(with_reducible repeat (first|refine Da ?_ _|refine Ga ?_|refine Ca ?_ _));exact Bd.out) Try.underlying77 rfl (by kernel_rfl)) rfl ?_
             exact ⟨by first|rfl|(simp [La,Ka] <;> rfl)|(simp [*,La,Ka] <;> rfl),by repeat (first|(with_reducible first|exact HB.out|apply qa|apply ia|apply ua|refine Aa ?_ Wa.out|refine Aa ?_ Sb.out|refine Aa ?_ Ai.out)|exact HB.out)⟩
            ·replace c54:=Bool.eq_false_iff.mpr c54
             subst c54
             have H1:(if a0.toList=([45]:List UInt8) then (if qc=Dh then (some ((-1),wrap64 (Fb - ai),true)) else (some (0,0,false))) else (some (0,0,false)))=some (r1,r2,r3):=by rw [if_neg (show ¬ (false=true) by decide)] at H;exact H
             clear H
             have H:=H1
             clear H1
             by_cases c61:a0.toList=([45]:List UInt8)
             ·rw [if_pos c61] at H
              have V3:(a0.toList == ([45]:List UInt8))=true:=beq_iff_eq.mpr c61
              have U3:(a0.toList != ([45]:List UInt8))=false:=bne_eq_false_iff_eq.mpr c61
              clear c61
              by_cases c62:qc=Dh
              ·rw [if_pos c62] at H
               have T3:(qc == Dh)=true:=beq_iff_eq.mpr c62
               have S3:(qc != Dh)=false:=bne_eq_false_iff_eq.mpr c62
               clear c62
               simp only [Option.some.injEq,Prod.mk.injEq] at H
               obtain ⟨rfl,rfl,rfl⟩:=H
               have UW:=Ua.out
               have AW:=jb.out
               have naj:=dg.out
               have Aai:=Wg.out
               have qac:wc.cell? ⟨Ea,0,none⟩=some (.int .i64 qc):=(ga za.out 0).trans rfl
               have pac:wc.cell? ⟨Ea,1,none⟩=some (.int .i64 Fb):=(ga za.out 1).trans rfl
               have X9:=aa za.out 0
               have W9:=aa za.out 1
               have maj:=Ke.out
               have zai:=Vg.out
               have oac:wc.cell? ⟨Fa,0,none⟩=some (.int .i64 Dh):=(ga Ba.out 0).trans rfl
               have nac:wc.cell? ⟨Fa,1,none⟩=some (.int .i64 ai):=(ga Ba.out 1).trans rfl
               have V9:=aa Ba.out 0
               have U9:=aa Ba.out 1
               have mac:wc.cell? ⟨fe,0,none⟩=some (.int .i64 0):=(ga Bd.out 0).trans rfl
               have lac:wc.cell? ⟨fe,1,none⟩=some (.int .i64 0):=(ga Bd.out 1).trans rfl
               have S9:=aa Bd.out 0
               have R9:=aa Bd.out 1
               go_wp2
               refine bodyPost_ret (Ik rfl _ _ fe 77 #[.int .i64 (-1),.int .i64 (wrap64 (Fb - ai))] (0,0) _ rfl (by (with_reducible repeat (first|refine Da ?_ _|refine Ga ?_|refine Ca ?_ _));refine Wb (cs:=#[.int .i64 (-1),.int .i64 0]) ?_ 1 _ rfl;(with_reducible repeat (first|refine Da ?_ _|refine Ga ?_|refine Ca ?_ _));refine Wb (cs:=#[.int .i64 0,.int .i64 0]) ?_ 0 _ rfl;(with_reducible repeat (first|refine Da ?_ _|refine Ga ?_|refine Ca ?_ _));exact Bd.out) Try.underlying77 rfl (by kernel_rfl)) rfl ?_
               exact ⟨by first|rfl|(simp [La,Ka] <;> rfl)|(simp [*,La,Ka] <;> rfl),by repeat (first|(with_reducible first|exact HB.out|apply qa|apply ia|apply ua|refine Aa ?_ Wa.out|refine Aa ?_ Sb.out|refine Aa ?_ Ai.out)|exact HB.out)⟩
              ·rw [if_neg c62] at H
               have T3:(qc == Dh)=false:=beq_eq_false_iff_ne.mpr c62
               have S3:(qc != Dh)=true:=bne_iff_ne.mpr c62
               simp only [Option.some.injEq,Prod.mk.injEq] at H
               obtain ⟨rfl,rfl,rfl⟩:=H
               have laj:=Ua.out
               have yai:=jb.out
               have TW:=dg.out
               have zW:=Wg.out
               have IG:wc.cell? ⟨Ea,0,none⟩=some (.int .i64 qc):=(ga za.out 0).trans rfl
               have GG:wc.cell? ⟨Ea,1,none⟩=some (.int .i64 Fb):=(ga za.out 1).trans rfl
               have nF:=aa za.out 0
               have mF:=aa za.out 1
               have jaj:=Ke.out
               have wai:=Vg.out
               have kac:wc.cell? ⟨Fa,0,none⟩=some (.int .i64 Dh):=(ga Ba.out 0).trans rfl
               have jac:wc.cell? ⟨Fa,1,none⟩=some (.int .i64 ai):=(ga Ba.out 1).trans rfl
               have Q9:=aa Ba.out 0
               have P9:=aa Ba.out 1
               have iac:wc.cell? ⟨fe,0,none⟩=some (.int .i64 0):=(ga Bd.out 0).trans rfl
               have gac:wc.cell? ⟨fe,1,none⟩=some (.int .i64 0):=(ga Bd.out 1).trans rfl
               have O9:=aa Bd.out 0
               have N9:=aa Bd.out 1
               go_wp2
               refine bodyPost_ret (Ik rfl _ _ fe 77 #[.int .i64 0,.int .i64 0] (0,0) _ rfl (by (with_reducible repeat (first|refine Da ?_ _|refine Ga ?_|refine Ca ?_ _));refine Wb (cs:=#[.int .i64 0,.int .i64 0]) ?_ 1 _ rfl;(with_reducible repeat (first|refine Da ?_ _|refine Ga ?_|refine Ca ?_ _));refine Wb (cs:=#[.int .i64 0,.int .i64 0]) ?_ 0 _ rfl;(with_reducible repeat (first|refine Da ?_ _|refine Ga ?_|refine Ca ?_ _));exact Bd.out) Try.underlying77 rfl (by kernel_rfl)) rfl ?_
               exact ⟨by first|rfl|(simp [La,Ka] <;> rfl)|(simp [*,La,Ka] <;> rfl),by repeat (first|(with_reducible first|exact HB.out|apply qa|apply ia|apply ua|refine Aa ?_ Wa.out|refine Aa ?_ Sb.out|refine Aa ?_ Ai.out)|exact HB.out)⟩
             ·rw [if_neg c61] at H
              have V3:(a0.toList == ([45]:List UInt8))=false:=beq_eq_false_iff_ne.mpr c61
              have U3:(a0.toList != ([45]:List UInt8))=true:=bne_iff_ne.mpr c61
              simp only [Option.some.injEq,Prod.mk.injEq] at H
              obtain ⟨rfl,rfl,rfl⟩:=H
              have iaj:=Wg.out
              have vai:=dg.out
              have haj:=Vg.out
              have uai:=Ke.out
              have Yab:wc.cell? ⟨fe,0,none⟩=some (.int .i64 0):=(ga Bd.out 0).trans rfl
              have Xab:wc.cell? ⟨fe,1,none⟩=some (.int .i64 0):=(ga Bd.out 1).trans rfl
              have F9:=aa Bd.out 0
              have E9:=aa Bd.out 1
              go_wp2
              refine bodyPost_ret (Ik rfl _ _ fe 77 #[.int .i64 0,.int .i64 0] (0,0) _ rfl (by (with_reducible repeat (first|refine Da ?_ _|refine Ga ?_|refine Ca ?_ _));refine Wb (cs:=#[.int .i64 0,.int .i64 0]) ?_ 1 _ rfl;(with_reducible repeat (first|refine Da ?_ _|refine Ga ?_|refine Ca ?_ _));refine Wb (cs:=#[.int .i64 0,.int .i64 0]) ?_ 0 _ rfl;(with_reducible repeat (first|refine Da ?_ _|refine Ga ?_|refine Ca ?_ _));exact Bd.out) Try.underlying77 rfl (by kernel_rfl)) rfl ?_
              exact ⟨by first|rfl|(simp [La,Ka] <;> rfl)|(simp [*,La,Ka] <;> rfl),by repeat (first|(with_reducible first|exact HB.out|apply qa|apply ia|apply ua|refine Aa ?_ Wa.out|refine Aa ?_ Sb.out|refine Aa ?_ Ai.out)|exact HB.out)⟩
end Go.Proofs.Ytmifdccaajngcaa.P
end
