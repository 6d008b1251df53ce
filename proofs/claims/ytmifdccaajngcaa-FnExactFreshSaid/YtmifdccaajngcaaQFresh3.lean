import Derived.Test.YtmifdccaajngcaaQFresh1
section
namespace Go.Proofs.Ytmifdccaajngcaa.P
open Go.RowKit Go.Proofs.Ca.xb Go.Proofs.Ca.Xb Go.Proofs.Ca.ic
attribute [local go_sem] Vd Td we ue Dd Cd Ud Sd
set_option linter.unusedVariables false
set_option linter.unusedSimpArgs false
def Bc.l0:Nat→Int→List (Ph)→Int→Option ((List (Ph)))
 | 0,_,_,_=>none
 | k + 1,x0,x3,x4=>if x4 < x0 then (if x3.length < 8796093022208 then (Bc.l0 k x0 (x3 ++ [(⟨x4,0⟩:Ph)]) (wrap64 (x4 + 1))) else (none)) else (some x3)
def Bc.f (k:Nat) (a0:Int):Option ((List (Ph))):=Bc.l0 k a0 (([]:List (Ph))) 0
theorem Bc.je:∀ k,(∀ y0 y1 y2,mc (Bc.l0 k y0 y1 y2) (Bc.l0 (k + 1) y0 y1 y2))
 | 0=>fun _ _ _ r h=>by simp [Bc.l0] at h
 | k + 1=>by
  have Lf:=Bc.je k
  ·intro y0 y1 y2
   unfold Bc.l0
   repeat' first
   | (with_reducible exact Lf _ _ _)
   | (with_reducible exact mc.refl _)
   | (with_reducible exact mc.none _)
   | (with_reducible refine mc.ite ?_ ?_)
   | (with_reducible refine mc.bind ?_ (fun _=>?_))
   | exact Lf _ _ _
   | exact mc.none _
   | refine mc.ite ?_ ?_
   | refine mc.bind ?_ (fun _=>?_)
theorem Bc.mono:∀ a0 k,mc (Bc.f k a0) (Bc.f (k + 1) a0):=by
 intro a0 k
 have Lf:=Bc.je k
 unfold Bc.f
 repeat' first
   | (with_reducible exact Lf _ _ _)
   | (with_reducible exact mc.refl _)
   | (with_reducible exact mc.none _)
   | (with_reducible refine mc.ite ?_ ?_)
   | (with_reducible refine mc.bind ?_ (fun _=>?_))
   | exact Lf _ _ _
   | exact mc.none _
   | refine mc.ite ?_ ?_
   | refine mc.bind ?_ (fun _=>?_)
set_option maxHeartbeats 8000000 in
set_option maxRecDepth 100000 in
theorem Bc.calls (k:Nat) (a0:Int) (r:List (Ph)) (w:World) (h:Bc.f k a0=some r) :
  Calls Try.prog 76 #[.int .i64 a0] w fun e w'=>∃ v0_:Value,e = .returned (v0_)∧Kd.R ak 77 w' w.heap.size (fun _=>True) v0_ r∧Below w.heap.size w w':=by
 have VR:=Try.underlying77
 have HB:=qa.mk (Below.refl w.heap.size w)
 have H:(Bc.l0 k a0 (([]:List (Ph))) 0)=some r:=h
 clear h
 obtain ⟨y101,hy101⟩:∃ y_:List (Ph),y_=(([]:List (Ph))):=⟨_,rfl⟩
 replace H:(Bc.l0 k a0 y101 0)=some r:=by first|(rw [hy101];with_reducible exact H)|(have Tj:=(Option.bind_some _ _).symm.trans H;rw [hy101];with_reducible exact Tj)|(have Tj:=(Option.bind_some _ _).symm.trans H;with_reducible exact Tj)|with_reducible exact H|(rw [hy101];exact H)|exact H
 have gn:=qa.mk hy101
 clear hy101
 have H':=qa.mk H
 clear H
 go_enter Try.func76,Try.ntmps76
 go_wp2_with (first|((with_reducible refine Mb (N:=5) rfl ?_);refine Kd.mG ak _ 77 ?hg (N:=5) ?hd (xs:=([]:List (Ph))) (inner:=[]) (ok:=fun _=>True) (Uo:=fun _=>True) ?hr ?hp (fun _ hk=>hk) trivial (Below.refl _ _) (Nat.le_refl _) (by simp) ?_;(case hd=>rfl);(case hg=>rfl);(case hr=>first|(go_simp;done)|(go_simp;rfl));(case hp=>exact (kf.none _ _));intro qB w2 ZR hb iI xp;clear iI xp;(first|rw [← gn.out] at ZR|(simp only [Int.reduceToNat] at ZR;rw [← gn.out] at ZR));have Pb:=qa.mk (Kd.Xg ZR (Na (by repeat (first|(with_reducible first|exact HB.out|apply ia|apply ja|apply za)|exact HB.out))));have Wb:=qa.mk (Pa (by repeat (first|(with_reducible first|exact HB.out|apply ia|apply ja|apply za)|exact HB.out)) hb);clear HB;have Qp:=Pb;have HB:=Wb;clear Pb Wb;clear hb ZR))
 go_loopg [3,4] k (fun kq v3 v4 w'=>∃ (Te:List (Ph)) (Zc:Int),v4 = .int .i64 Zc∧qa (Bc.l0 kq a0 Te Zc=some r)∧qa (kq ≤ k)∧qa (Kd.R ak 77 w' w.heap.size (fun _=>True) v3 Te)∧qa (Below w.heap.size w w'))
 case atStart=>exact ⟨(y101),(0),(by first|rfl|(simp;done)|(simp [*];done)),H',⟨Nat.le_refl _⟩,⟨by (with_reducible repeat (first|apply Kd.Qc|apply Kd.Pc|apply Kd.xd));exact Qp.out⟩,⟨by repeat (first|(with_reducible first|exact HB.out|apply ia|apply ja|apply za)|exact HB.out)⟩⟩
 case round =>
  clear H'
  try clear p2
  (try clear HA)
  (try clear We)
  (try clear Ng)
  (try clear HB)
  obtain ⟨Te,Zc,rfl,HA,We,Ng,HB⟩:=hrel
  cases gk with
  | zero=>exact absurd HA.out (by simp [Bc.l0])
  | succ k1 =>
   have H:=HA.out
   clear HA
   simp only [Bc.l0] at H
   by_cases c4:Zc < a0
   ·rw [if_pos c4] at H
    have Mh:decide (Zc < a0)=true:=decide_eq_true c4
    clear c4
    by_cases c5:Te.length < 8796093022208
    ·rw [if_pos c5] at H
     have Taa:=qa.mk c5
     clear c5
     obtain ⟨y104,hy104⟩:∃ y_:List (Ph),y_=(Te ++ [(⟨Zc,0⟩:Ph)]):=⟨_,rfl⟩
     replace H:(Bc.l0 k1 a0 y104 (wrap64 (Zc + 1)))=some r:=by first|(rw [hy104];with_reducible exact H)|(have Tj:=(Option.bind_some _ _).symm.trans H;rw [hy104];with_reducible exact Tj)|(have Tj:=(Option.bind_some _ _).symm.trans H;with_reducible exact Tj)|with_reducible exact H|(rw [hy104];exact H)|exact H
     have rX:=qa.mk hy104
     clear hy104
     have H':=qa.mk H
     clear H
     go_wp2_with (first|((with_reducible refine Qz (b:=.append) (xs:=#[.tmp 11,.tmp 14]) rfl ?_);at_builtin;refine Kd.bB ak (w0:=w) w.heap.size rfl (.tmp 11) (.tmp 14) 60 77 (.agg #[(.int .i64 0),(.int .i64 0)]) 16 rfl Try.underlying60 pP rfl (by decide) (by omega) u3 Te (⟨Zc,0⟩:Ph) [.int .i64 Zc,.int .i64 0] (fun _=>True) (fun _=>False) rfl rfl ?aP (fun _ hk=>hk.elim) ?aF ?aO ?aB ?aS ?aL ?_;(case aP=>exact Xp _ _ _ (⟨Zc,0⟩:Ph));(case aB=>exact (by repeat (first|(with_reducible first|exact HB.out|apply ia|apply ja|apply za)|exact HB.out)));(case aF=>exact (fun _ _=>trivial));(case aO=>exact (by (with_reducible repeat (first|apply Kd.Qc|apply Kd.Pc|apply Kd.xd));exact Ng.out));(case aS=>exact (Na (by repeat (first|(with_reducible first|exact HB.out|apply ia|apply ja|apply za)|exact HB.out))));(case aL=>have:=Taa.out;omega);intro dP w6 ho hb hg hat;rw [← rX.out] at ho;have Pb:=qa.mk (hb);have Wb:=qa.mk (ho);clear HB;clear Ng;have HB:=Pb;have Pp:=Wb;clear Pb Wb;clear ho hb hg hat))
     go_roundg k1
     case measure=>have:=We.out;omega
     case rel=>exact ⟨(y104),(wrap64 (Zc + 1)),(by first|rfl|(simp;done)|(simp [*];done)),H',⟨by have:=We.out;omega⟩,⟨by (with_reducible repeat (first|apply Kd.Qc|apply Kd.Pc|apply Kd.xd));exact Pp.out⟩,⟨by repeat (first|(with_reducible first|exact HB.out|apply ia|apply ja|apply za)|exact HB.out)⟩⟩
    ·rw [if_neg c5] at H
     exact absurd H (by simp)
   ·rw [if_neg c4] at H
    have Mh:decide (Zc < a0)=false:=decide_eq_false c4
    clear c4
    obtain rfl:=Option.some.inj H
    go_wp2
    go_ret
    exact ⟨_,by first|rfl|(simp [La,Ka] <;> rfl)|(simp [*,La,Ka] <;> rfl),by (with_reducible repeat (first|apply Kd.Qc|apply Kd.Pc|apply Kd.xd));exact Ng.out,by repeat (first|(with_reducible first|exact HB.out|apply ia|apply ja|apply za)|exact HB.out)⟩
end Go.Proofs.Ytmifdccaajngcaa.P
end
section
namespace Go.Proofs.Ytmifdccaajngcaa.P
open Go.RowKit Go.Proofs.Ca.xb Go.Proofs.Ca.Xb Go.Proofs.Ca.ic
attribute [local go_sem] Vd Td we ue Dd Cd Ud Sd
set_option linter.unusedVariables false
set_option linter.unusedSimpArgs false
def vn.f (a0:ByteArray) (a1:Int) (a2:Int):Option (Int):=if a0.toList=([43]:List UInt8) then (some (wrap64 (a1 + a2))) else (if a0.toList=([45]:List UInt8) then (some (wrap64 (a1 - a2))) else (if a0.toList=([42]:List UInt8) then (some (wrap64 (a1 * a2))) else (if a0.toList=([38]:List UInt8) then (some (Go.bits .and .i64 a1 a2)) else (if a0.toList=([61,61]:List UInt8) then (if a1=a2 then (some 1) else (some 0)) else (if a0.toList=([60]:List UInt8) then (if a1 < a2 then (some 1) else (some 0)) else (some 0))))))
set_option maxHeartbeats 8000000 in
set_option maxRecDepth 100000 in
theorem vn.calls (a0:ByteArray) (a1:Int) (a2:Int) (r:Int) (w:World) (h:vn.f a0 a1 a2=some r) :
  Calls Try.prog 104 #[.string a0,.int .i64 a1,.int .i64 a2] w fun e w'=>e = .returned (.int .i64 r)∧Cc w w':=by
 have H:(if a0.toList=([43]:List UInt8) then (some (wrap64 (a1 + a2))) else (if a0.toList=([45]:List UInt8) then (some (wrap64 (a1 - a2))) else (if a0.toList=([42]:List UInt8) then (some (wrap64 (a1 * a2))) else (if a0.toList=([38]:List UInt8) then (some (Go.bits .and .i64 a1 a2)) else (if a0.toList=([61,61]:List UInt8) then (if a1=a2 then (some 1) else (some 0)) else (if a0.toList=([60]:List UInt8) then (if a1 < a2 then (some 1) else (some 0)) else (some 0)))))))=some r:=h
 clear h
 by_cases c4:a0.toList=([43]:List UInt8)
 ·rw [if_pos c4] at H
  have Mh:(a0.toList == ([43]:List UInt8))=true:=beq_iff_eq.mpr c4
  have yC:(a0.toList != ([43]:List UInt8))=false:=bne_eq_false_iff_eq.mpr c4
  clear c4
  obtain rfl:=Option.some.inj H
  go_enter Try.func104,Try.ntmps104
  go_wp2
  go_ret
  exact ⟨by first|rfl|(simp;done)|(simp [*];done),by repeat (first|exact Cc.refl _|apply Cc.step)⟩
 ·rw [if_neg c4] at H
  have Mh:(a0.toList == ([43]:List UInt8))=false:=beq_eq_false_iff_ne.mpr c4
  have yC:(a0.toList != ([43]:List UInt8))=true:=bne_iff_ne.mpr c4
  by_cases c5:a0.toList=([45]:List UInt8)
  ·rw [if_pos c5] at H
   have Hl:(a0.toList == ([45]:List UInt8))=true:=beq_iff_eq.mpr c5
   have Yt:(a0.toList != ([45]:List UInt8))=false:=bne_eq_false_iff_eq.mpr c5
   clear c5
   obtain rfl:=Option.some.inj H
   go_enter Try.func104,Try.ntmps104
   go_wp2
   go_ret
   exact ⟨by first|rfl|(simp;done)|(simp [*];done),by repeat (first|exact Cc.refl _|apply Cc.step)⟩
  ·rw [if_neg c5] at H
   have Hl:(a0.toList == ([45]:List UInt8))=false:=beq_eq_false_iff_ne.mpr c5
   have Yt:(a0.toList != ([45]:List UInt8))=true:=bne_iff_ne.mpr c5
   by_cases c6:a0.toList=([42]:List UInt8)
   ·rw [if_pos c6] at H
    have rm:(a0.toList == ([42]:List UInt8))=true:=beq_iff_eq.mpr c6
    have jx:(a0.toList != ([42]:List UInt8))=false:=bne_eq_false_iff_eq.mpr c6
    clear c6
    obtain rfl:=Option.some.inj H
    go_enter Try.func104,Try.ntmps104
    go_wp2
    go_ret
    exact ⟨by first|rfl|(simp;done)|(simp [*];done),by repeat (first|exact Cc.refl _|apply Cc.step)⟩
   ·rw [if_neg c6] at H
    have rm:(a0.toList == ([42]:List UInt8))=false:=beq_eq_false_iff_ne.mpr c6
    have jx:(a0.toList != ([42]:List UInt8))=true:=bne_iff_ne.mpr c6
    by_cases c7:a0.toList=([38]:List UInt8)
    ·rw [if_pos c7] at H
     have Wo:(a0.toList == ([38]:List UInt8))=true:=beq_iff_eq.mpr c7
     have gx:(a0.toList != ([38]:List UInt8))=false:=bne_eq_false_iff_eq.mpr c7
     clear c7
     obtain rfl:=Option.some.inj H
     go_enter Try.func104,Try.ntmps104
     go_wp2
     go_ret
     exact ⟨by first|rfl|(simp;done)|(simp [*];done),by repeat (first|exact Cc.refl _|apply Cc.step)⟩
    ·rw [if_neg c7] at H
     have Wo:(a0.toList == ([38]:List UInt8))=false:=beq_eq_false_iff_ne.mpr c7
     have gx:(a0.toList != ([38]:List UInt8))=true:=bne_iff_ne.mpr c7
     by_cases c8:a0.toList=([61,61]:List UInt8)
     ·rw [if_pos c8] at H
      have Mn:(a0.toList == ([61,61]:List UInt8))=true:=beq_iff_eq.mpr c8
      have Xt:(a0.toList != ([61,61]:List UInt8))=false:=bne_eq_false_iff_eq.mpr c8
      clear c8
      by_cases c9:a1=a2
      ·rw [if_pos c9] at H
       have xC:(a1 == a2)=true:=beq_iff_eq.mpr c9
       have dJ:(a1 != a2)=false:=bne_eq_false_iff_eq.mpr c9
       clear c9
       obtain rfl:=Option.some.inj H
       go_enter Try.func104,Try.ntmps104
       go_wp2
       go_ret
       exact ⟨by first|rfl|(simp;done)|(simp [*];done),by repeat (first|exact Cc.refl _|apply Cc.step)⟩
      ·rw [if_neg c9] at H
       have xC:(a1 == a2)=false:=beq_eq_false_iff_ne.mpr c9
       have dJ:(a1 != a2)=true:=bne_iff_ne.mpr c9
       obtain rfl:=Option.some.inj H
       go_enter Try.func104,Try.ntmps104
       go_wp2
       go_ret
       exact ⟨by first|rfl|(simp;done)|(simp [*];done),by repeat (first|exact Cc.refl _|apply Cc.step)⟩
     ·rw [if_neg c8] at H
      have Mn:(a0.toList == ([61,61]:List UInt8))=false:=beq_eq_false_iff_ne.mpr c8
      have Xt:(a0.toList != ([61,61]:List UInt8))=true:=bne_iff_ne.mpr c8
      by_cases Jt:a0.toList=([60]:List UInt8)
      ·rw [if_pos Jt] at H
       have VA:(a0.toList == ([60]:List UInt8))=true:=beq_iff_eq.mpr Jt
       have nJ:(a0.toList != ([60]:List UInt8))=false:=bne_eq_false_iff_eq.mpr Jt
       clear Jt
       by_cases c11:a1 < a2
       ·rw [if_pos c11] at H
        have iG:decide (a1 < a2)=true:=decide_eq_true c11
        clear c11
        obtain rfl:=Option.some.inj H
        go_enter Try.func104,Try.ntmps104
        go_wp2
        go_ret
        exact ⟨by first|rfl|(simp;done)|(simp [*];done),by repeat (first|exact Cc.refl _|apply Cc.step)⟩
       ·rw [if_neg c11] at H
        have iG:decide (a1 < a2)=false:=decide_eq_false c11
        clear c11
        obtain rfl:=Option.some.inj H
        go_enter Try.func104,Try.ntmps104
        go_wp2
        go_ret
        exact ⟨by first|rfl|(simp;done)|(simp [*];done),by repeat (first|exact Cc.refl _|apply Cc.step)⟩
      ·rw [if_neg Jt] at H
       have VA:(a0.toList == ([60]:List UInt8))=false:=beq_eq_false_iff_ne.mpr Jt
       have nJ:(a0.toList != ([60]:List UInt8))=true:=bne_iff_ne.mpr Jt
       obtain rfl:=Option.some.inj H
       go_enter Try.func104,Try.ntmps104
       go_wp2
       go_ret
       exact ⟨by first|rfl|(simp;done)|(simp [*];done),by repeat (first|exact Cc.refl _|apply Cc.step)⟩
end Go.Proofs.Ytmifdccaajngcaa.P
end
section
namespace Go.Proofs.Ytmifdccaajngcaa.P
open Go.RowKit Go.Proofs.Ca.xb Go.Proofs.Ca.Xb Go.Proofs.Ca.ic
attribute [local go_sem] Vd Td we ue Dd Cd Ud Sd
set_option linter.unusedVariables false
set_option linter.unusedSimpArgs false
mutual
def Cb.j0:Nat→ByteArray→Bool→Int→Int→Int→Int→Option (Int × Int × Bool)
 | 0,_,_,_,_,_,_=>none
 | k + 1,x0,x8,x102000,Od,x103000,x103001=>if x8=true then ((vn.f x0 Od x103001).bind fun t104=>(some ((-1),t104,true))) else (if x0.toList=([43]:List UInt8) then (Cb.j1 k x0 (x102000 == (-1)) x102000 Od x103000 x103001) else (Cb.j1 k x0 false x102000 Od x103000 x103001))
def Cb.j1:Nat→ByteArray→Bool→Int→Int→Int→Int→Option (Int × Int × Bool)
 | 0,_,_,_,_,_,_=>none
 | k + 1,x0,x24,x102000,Od,x103000,x103001=>if x24=true then (some (x103000,wrap64 (Od + x103001),true)) else (if x0.toList=([43]:List UInt8) then (Cb.j2 k x0 (x103000 == (-1)) x102000 Od x103000 x103001) else (Cb.j2 k x0 false x102000 Od x103000 x103001))
def Cb.j2:Nat→ByteArray→Bool→Int→Int→Int→Int→Option (Int × Int × Bool)
 | 0,_,_,_,_,_,_=>none
 | k + 1,x0,x40,x102000,Od,x103000,x103001=>if x40=true then (some (x102000,wrap64 (Od + x103001),true)) else (if x0.toList=([45]:List UInt8) then (Cb.j3 k x0 (x103000 == (-1)) x102000 Od x103000 x103001) else (Cb.j3 k x0 false x102000 Od x103000 x103001))
def Cb.j3:Nat→ByteArray→Bool→Int→Int→Int→Int→Option (Int × Int × Bool)
 | 0,_,_,_,_,_,_=>none
 | k + 1,x0,x56,x102000,Od,x103000,x103001=>if x56=true then (some (x102000,wrap64 (Od - x103001),true)) else (if x0.toList=([45]:List UInt8) then (if x102000=x103000 then (some ((-1),wrap64 (Od - x103001),true)) else (some (0,0,false))) else (some (0,0,false)))
end
def Cb.f (k:Nat) (a0:ByteArray) (jc:Int) (Lb:Int) (qg:Int) (Mg:Int):Option (Int × Int × Bool):=if jc=(-1) then (Cb.j0 k a0 (qg == (-1)) jc Lb qg Mg) else (Cb.j0 k a0 false jc Lb qg Mg)
theorem Cb.je:∀ k,(∀ y0 y1 y2 y3 y4 y5,mc (Cb.j0 k y0 y1 y2 y3 y4 y5) (Cb.j0 (k + 1) y0 y1 y2 y3 y4 y5))∧(∀ y0 y1 y2 y3 y4 y5,mc (Cb.j1 k y0 y1 y2 y3 y4 y5) (Cb.j1 (k + 1) y0 y1 y2 y3 y4 y5))∧(∀ y0 y1 y2 y3 y4 y5,mc (Cb.j2 k y0 y1 y2 y3 y4 y5) (Cb.j2 (k + 1) y0 y1 y2 y3 y4 y5))∧(∀ y0 y1 y2 y3 y4 y5,mc (Cb.j3 k y0 y1 y2 y3 y4 y5) (Cb.j3 (k + 1) y0 y1 y2 y3 y4 y5))
 | 0=>⟨fun _ _ _ _ _ _ r h=>by simp [Cb.j0] at h,fun _ _ _ _ _ _ r h=>by simp [Cb.j1] at h,fun _ _ _ _ _ _ r h=>by simp [Cb.j2] at h,fun _ _ _ _ _ _ r h=>by simp [Cb.j3] at h⟩
 | k + 1=>by
  obtain ⟨Lf,ih1,ih2,ih3⟩:=Cb.je k
  refine ⟨?_,?_,?_,?_⟩
  ·intro y0 y1 y2 y3 y4 y5
   unfold Cb.j0
   repeat' first
   | (with_reducible exact Lf _ _ _ _ _ _)
   | (with_reducible exact ih1 _ _ _ _ _ _)
   | (with_reducible exact ih2 _ _ _ _ _ _)
   | (with_reducible exact ih3 _ _ _ _ _ _)
   | (with_reducible exact mc.refl _)
   | (with_reducible exact mc.none _)
   | (with_reducible refine mc.ite ?_ ?_)
   | (with_reducible refine mc.bind ?_ (fun _=>?_))
   | exact Lf _ _ _ _ _ _
   | exact ih1 _ _ _ _ _ _
   | exact ih2 _ _ _ _ _ _
   | exact ih3 _ _ _ _ _ _
   | exact mc.none _
   | refine mc.ite ?_ ?_
   | refine mc.bind ?_ (fun _=>?_)
  ·intro y0 y1 y2 y3 y4 y5
   unfold Cb.j1
   repeat' first
   | (with_reducible exact Lf _ _ _ _ _ _)
   | (with_reducible exact ih1 _ _ _ _ _ _)
   | (with_reducible exact ih2 _ _ _ _ _ _)
   | (with_reducible exact ih3 _ _ _ _ _ _)
   | (with_reducible exact mc.refl _)
   | (with_reducible exact mc.none _)
   | (with_reducible refine mc.ite ?_ ?_)
   | (with_reducible refine mc.bind ?_ (fun _=>?_))
   | exact Lf _ _ _ _ _ _
   | exact ih1 _ _ _ _ _ _
   | exact ih2 _ _ _ _ _ _
   | exact ih3 _ _ _ _ _ _
   | exact mc.none _
   | refine mc.ite ?_ ?_
   | refine mc.bind ?_ (fun _=>?_)
  ·intro y0 y1 y2 y3 y4 y5
   unfold Cb.j2
   repeat' first
   | (with_reducible exact Lf _ _ _ _ _ _)
   | (with_reducible exact ih1 _ _ _ _ _ _)
   | (with_reducible exact ih2 _ _ _ _ _ _)
   | (with_reducible exact ih3 _ _ _ _ _ _)
   | (with_reducible exact mc.refl _)
   | (with_reducible exact mc.none _)
   | (with_reducible refine mc.ite ?_ ?_)
   | (with_reducible refine mc.bind ?_ (fun _=>?_))
   | exact Lf _ _ _ _ _ _
   | exact ih1 _ _ _ _ _ _
   | exact ih2 _ _ _ _ _ _
   | exact ih3 _ _ _ _ _ _
   | exact mc.none _
   | refine mc.ite ?_ ?_
   | refine mc.bind ?_ (fun _=>?_)
  ·intro y0 y1 y2 y3 y4 y5
   unfold Cb.j3
   repeat' first
   | (with_reducible exact Lf _ _ _ _ _ _)
   | (with_reducible exact ih1 _ _ _ _ _ _)
   | (with_reducible exact ih2 _ _ _ _ _ _)
   | (with_reducible exact ih3 _ _ _ _ _ _)
   | (with_reducible exact mc.refl _)
   | (with_reducible exact mc.none _)
   | (with_reducible refine mc.ite ?_ ?_)
   | (with_reducible refine mc.bind ?_ (fun _=>?_))
   | exact Lf _ _ _ _ _ _
   | exact ih1 _ _ _ _ _ _
   | exact ih2 _ _ _ _ _ _
   | exact ih3 _ _ _ _ _ _
   | exact mc.none _
   | refine mc.ite ?_ ?_
   | refine mc.bind ?_ (fun _=>?_)
theorem Cb.mono:∀ a0 a1 a2 a3 a4 k,mc (Cb.f k a0 a1 a2 a3 a4) (Cb.f (k + 1) a0 a1 a2 a3 a4):=by
 intro a0 a1 a2 a3 a4 k
 obtain ⟨Lf,ih1,ih2,ih3⟩:=Cb.je k
 unfold Cb.f
 repeat' first
   | (with_reducible exact Lf _ _ _ _ _ _)
   | (with_reducible exact ih1 _ _ _ _ _ _)
   | (with_reducible exact ih2 _ _ _ _ _ _)
   | (with_reducible exact ih3 _ _ _ _ _ _)
   | (with_reducible exact mc.refl _)
   | (with_reducible exact mc.none _)
   | (with_reducible refine mc.ite ?_ ?_)
   | (with_reducible refine mc.bind ?_ (fun _=>?_))
   | exact Lf _ _ _ _ _ _
   | exact ih1 _ _ _ _ _ _
   | exact ih2 _ _ _ _ _ _
   | exact ih3 _ _ _ _ _ _
   | exact mc.none _
   | refine mc.ite ?_ ?_
   | refine mc.bind ?_ (fun _=>?_)
set_option maxHeartbeats 8000000 in
set_option maxRecDepth 100000 in
theorem Cb.calls (k:Nat) (a0:ByteArray) (jc:Int) (Lb:Int) (qg:Int) (Mg:Int) (r1:Int) (r2:Int) (r3:Bool) (w:World) (h:Cb.f k a0 jc Lb qg Mg=some (r1,r2,r3)) :
  Calls Try.prog 106 #[.string a0,.agg #[.int .i64 jc,.int .i64 Lb],.agg #[.int .i64 qg,.int .i64 Mg]] w fun e w'=>e = .returned (.tuple #[.agg #[.int .i64 r1,.int .i64 r2],.bool r3])∧Below w.heap.size w w':=by
 have VR:=Try.underlying77
 have HB:=qa.mk (Below.refl w.heap.size w)
 have H:(if jc=(-1) then (Cb.j0 k a0 (qg == (-1)) jc Lb qg Mg) else (Cb.j0 k a0 false jc Lb qg Mg))=some (r1,r2,r3):=h
 clear h
 have MO:=qa.mk H
 clear H
 go_enter Try.func106,Try.ntmps106
 go_upto_region 1 with (first|((with_reducible refine Mb (N:=4) rfl ?_);refine Jb ?hg (N:=4) ?hd (cs:=#[.int .i64 jc,.int .i64 Lb]) (t:=77) ?hr ?_;(case hd=>rfl);(case hg=>rfl);(case hr=>first|(go_simp;done)|(go_simp;rfl));intro Fa hg w5 Qb hb;have Pb:=qa.mk (Pa (by repeat (first|(with_reducible first|exact HB.out|apply ia|apply ja|apply za)|exact HB.out)) hb);have Wb:=qa.mk (Qb);have nc:=qa.mk ((by rw [hg];exact (Na (by repeat (first|(with_reducible first|exact HB.out|apply ia|apply ja|apply za)|exact HB.out))):w.heap.size ≤ Fa));have Nc:=qa.mk ((by rw [hg];exact (Na (by repeat (first|(with_reducible first|exact HB.out|apply ia|apply ja|apply za)|exact HB.out))):w.heap.size ≤ Fa));clear HB;have HB:=Pb;have ua:=Wb;have Nd:=nc;have Va:=Nc;clear Pb Wb nc Nc;clear hb Qb hg)|((with_reducible refine Mb (N:=5) rfl ?_);refine Jb ?hg (N:=5) ?hd (cs:=#[.int .i64 qg,.int .i64 Mg]) (t:=77) ?hr ?_;(case hd=>rfl);(case hg=>rfl);(case hr=>first|(go_simp;done)|(go_simp;rfl));intro Ia hg w6 Qb hb;have Pb:=qa.mk (Wa (g:=Fa) (o:=.cells #[.int .i64 jc,.int .i64 Lb] 77 (0,0)) (by (with_reducible repeat (first|refine Ea ?_ _|refine Ga ?_|refine Da ?_ _));exact ua.out) hb);have Wb:=qa.mk (Pa (by repeat (first|(with_reducible first|exact HB.out|apply ia|apply ja|apply za|refine Aa ?_ Va.out)|exact HB.out)) hb);have nc:=qa.mk (Qb);have Nc:=qa.mk ((by rw [hg];exact (Na (by repeat (first|(with_reducible first|exact HB.out|apply ia|apply ja|apply za|refine Aa ?_ Va.out)|exact HB.out))):w.heap.size ≤ Ia));have qe:=qa.mk ((by rw [hg];exact (Na (by repeat (first|(with_reducible first|exact HB.out|apply ia|apply ja|apply za|refine Aa ?_ Va.out)|exact HB.out))):w.heap.size ≤ Ia));have lf:=qa.mk ((by rw [hg];exact Nat.ne_of_lt (Ac (g:=Fa) (o:=.cells #[.int .i64 jc,.int .i64 Lb] 77 (0,0)) (by (with_reducible repeat (first|refine Ea ?_ _|refine Ga ?_|refine Da ?_ _));exact ua.out)):Fa ≠ Ia));have Hf:=qa.mk ((by rw [hg];exact Nat.ne_of_gt (Ac (g:=Fa) (o:=.cells #[.int .i64 jc,.int .i64 Lb] 77 (0,0)) (by (with_reducible repeat (first|refine Ea ?_ _|refine Ga ?_|refine Da ?_ _));exact ua.out)):Ia ≠ Fa));clear ua;clear HB;have ua:=Pb;have HB:=Wb;have Ba:=nc;have Je:=Nc;have Vb:=qe;have Sa:=lf;have qb:=Hf;clear Pb Wb nc Nc qe lf Hf;clear hb Qb hg)|((with_reducible refine Mb (N:=6) rfl ?_);refine Jb ?hg (N:=6) ?hd (cs:=#[.int .i64 0,.int .i64 0]) (t:=77) ?hr ?_;(case hd=>rfl);(case hg=>rfl);(case hr=>first|(go_simp;done)|(go_simp;rfl));intro Ld hg w7 Qb hb;have Pb:=qa.mk (Wa (g:=Fa) (o:=.cells #[.int .i64 jc,.int .i64 Lb] 77 (0,0)) (by (with_reducible repeat (first|refine Ea ?_ _|refine Ga ?_|refine Da ?_ _));exact ua.out) hb);have Wb:=qa.mk (Wa (g:=Ia) (o:=.cells #[.int .i64 qg,.int .i64 Mg] 77 (0,0)) (by (with_reducible repeat (first|refine Ea ?_ _|refine Ga ?_|refine Da ?_ _));exact Ba.out) hb);have nc:=qa.mk (Pa (by repeat (first|(with_reducible first|exact HB.out|apply ia|apply ja|apply za|refine Aa ?_ Va.out|refine Aa ?_ Vb.out)|exact HB.out)) hb);have Nc:=qa.mk (Qb);have qe:=qa.mk ((by rw [hg];exact (Na (by repeat (first|(with_reducible first|exact HB.out|apply ia|apply ja|apply za|refine Aa ?_ Va.out|refine Aa ?_ Vb.out)|exact HB.out))):w.heap.size ≤ Ld));have lf:=qa.mk ((by rw [hg];exact (Na (by repeat (first|(with_reducible first|exact HB.out|apply ia|apply ja|apply za|refine Aa ?_ Va.out|refine Aa ?_ Vb.out)|exact HB.out))):w.heap.size ≤ Ld));have Hf:=qa.mk ((by rw [hg];exact Nat.ne_of_lt (Ac (g:=Fa) (o:=.cells #[.int .i64 jc,.int .i64 Lb] 77 (0,0)) (by (with_reducible repeat (first|refine Ea ?_ _|refine Ga ?_|refine Da ?_ _));exact ua.out)):Fa ≠ Ld));have lp:=qa.mk ((by rw [hg];exact Nat.ne_of_gt (Ac (g:=Fa) (o:=.cells #[.int .i64 jc,.int .i64 Lb] 77 (0,0)) (by (with_reducible repeat (first|refine Ea ?_ _|refine Ga ?_|refine Da ?_ _));exact ua.out)):Ld ≠ Fa));have gp:=qa.mk ((by rw [hg];exact Nat.ne_of_lt (Ac (g:=Ia) (o:=.cells #[.int .i64 qg,.int .i64 Mg] 77 (0,0)) (by (with_reducible repeat (first|refine Ea ?_ _|refine Ga ?_|refine Da ?_ _));exact Ba.out)):Ia ≠ Ld));have XC:=qa.mk ((by rw [hg];exact Nat.ne_of_gt (Ac (g:=Ia) (o:=.cells #[.int .i64 qg,.int .i64 Mg] 77 (0,0)) (by (with_reducible repeat (first|refine Ea ?_ _|refine Ga ?_|refine Da ?_ _));exact Ba.out)):Ld ≠ Ia));clear ua;clear Ba;clear HB;have ua:=Pb;have Ba:=Wb;have HB:=nc;have Vc:=Nc;have DJ:=qe;have Zg:=lf;have qf:=Hf;have Vf:=lp;have Wd:=gp;have Uf:=XC;clear Pb Wb nc Nc qe lf Hf lp gp XC;clear hb Qb hg))
 (try simp only [Act.put,List.setIfInBounds_toArray,List.set_cons_zero,List.set_cons_succ])
 go_cut [8] (fun v8 wc=>∃ (kq:Nat) (SJ:Bool),v8 = .bool SJ∧qa (Cb.j0 kq a0 SJ jc Lb qg Mg=some (r1,r2,r3))∧qa (kq ≤ k)∧qa (wc.heap[Fa]? = some (.cells #[.int .i64 jc,.int .i64 Lb] 77 (0,0)))∧qa (wc.heap[Ia]? = some (.cells #[.int .i64 qg,.int .i64 Mg] 77 (0,0)))∧qa (wc.heap[Ld]? = some (.cells #[.int .i64 0,.int .i64 0] 77 (0,0)))∧qa (Below w.heap.size w wc))
 case first =>
  have H:=MO.out
  clear MO
  by_cases c8:jc=(-1)
  ·rw [if_pos c8] at H
   have Mn:(jc == (-1))=true:=beq_iff_eq.mpr c8
   have Xt:(jc != (-1))=false:=bne_eq_false_iff_eq.mpr c8
   clear c8
   (first|rw [Mn]|(simp only [Za,gb];rw [Mn])|skip)
   have H':=qa.mk H
   clear H
   have vS:=Sa.out
   have bS:=qb.out
   have SS:=qf.out
   have uS:=Vf.out
   have Qi:w7.cell? ⟨Fa,0,none⟩=some (.int .i64 jc):=(ga ua.out 0).trans rfl
   have Oi:w7.cell? ⟨Fa,1,none⟩=some (.int .i64 Lb):=(ga ua.out 1).trans rfl
   have Ki:=aa ua.out 0
   have Ji:=aa ua.out 1
   have gI:=Wd.out
   have dI:=Uf.out
   have Lj:w7.cell? ⟨Ia,0,none⟩=some (.int .i64 qg):=(ga Ba.out 0).trans rfl
   have Kj:w7.cell? ⟨Ia,1,none⟩=some (.int .i64 Mg):=(ga Ba.out 1).trans rfl
   have Jj:=aa Ba.out 0
   have Ij:=aa Ba.out 1
   go_wp2
   go_meet
   case rel=>exact ⟨_,((qg == (-1))),(by first|rfl|(simp;done)|(simp [*];done)),H',⟨by first|omega|exact Nat.le_refl _⟩,⟨by (with_reducible repeat (first|refine Ea ?_ _|refine Ga ?_|refine Da ?_ _));exact ua.out⟩,⟨by (with_reducible repeat (first|refine Ea ?_ _|refine Ga ?_|refine Da ?_ _));exact Ba.out⟩,⟨by (with_reducible repeat (first|refine Ea ?_ _|refine Ga ?_|refine Da ?_ _));exact Vc.out⟩,⟨by repeat (first|(with_reducible first|exact HB.out|apply ia|apply ja|apply za|refine Aa ?_ Va.out|refine Aa ?_ Vb.out|refine Aa ?_ Zg.out)|exact HB.out)⟩⟩
  ·rw [if_neg c8] at H
   have Mn:(jc == (-1))=false:=beq_eq_false_iff_ne.mpr c8
   have Xt:(jc != (-1))=true:=bne_iff_ne.mpr c8
   (first|rw [Mn]|(simp only [Za,gb];rw [Mn])|skip)
   have H':=qa.mk H
   clear H
   have cad:=Sa.out
   have nac:=qb.out
   have QS:=qf.out
   have sS:=Vf.out
   have uk:w7.cell? ⟨Fa,0,none⟩=some (.int .i64 jc):=(ga ua.out 0).trans rfl
   have qk:w7.cell? ⟨Fa,1,none⟩=some (.int .i64 Lb):=(ga ua.out 1).trans rfl
   have fk:=aa ua.out 0
   have ek:=aa ua.out 1
   go_wp2
   go_meet
   case rel=>exact ⟨_,(false),(by first|rfl|(simp;done)|(simp [*];done)),H',⟨by first|omega|exact Nat.le_refl _⟩,⟨by (with_reducible repeat (first|refine Ea ?_ _|refine Ga ?_|refine Da ?_ _));exact ua.out⟩,⟨by (with_reducible repeat (first|refine Ea ?_ _|refine Ga ?_|refine Da ?_ _));exact Ba.out⟩,⟨by (with_reducible repeat (first|refine Ea ?_ _|refine Ga ?_|refine Da ?_ _));exact Vc.out⟩,⟨by repeat (first|(with_reducible first|exact HB.out|apply ia|apply ja|apply za|refine Aa ?_ Va.out|refine Aa ?_ Vb.out|refine Aa ?_ Zg.out)|exact HB.out)⟩⟩
 case rest =>
  clear MO
  try clear c1
  try clear p2
  try clear c8
  try clear Mn
  try clear Xt
  try clear c9
  try clear Jt
  try clear c12
  try clear c14
  try clear c15
  try clear Qi
  try clear Oi
  try clear Lj
  try clear Kj
  try clear uk
  try clear qk
  try clear Ki
  try clear Ji
  try clear Jj
  try clear Ij
  try clear fk
  try clear ek
  obtain ⟨kq,SJ,rfl,HA,CR,ua,Ba,Vc,HB⟩:=hcut
  cases kq with
  | zero=>exact absurd HA.out (by simp [Cb.j0])
  | succ kj3 =>
   have H:=HA.out
   clear HA
   simp only [Cb.j0] at H
   by_cases c17:SJ=true
   ·subst c17
    have H1:((vn.f a0 Lb Mg).bind fun t104=>(some ((-1),t104,true)))=some (r1,r2,r3):=by rw [if_pos rfl] at H;exact H
    clear H
    have H:=H1
    clear H1
    replace H:=Option.bind_eq_some_iff.mp H
    obtain ⟨t104,GJ,H⟩:=H
    replace H:(some ((-1),t104,true))=some (r1,r2,r3):=H
    have eH:=qa.mk GJ
    clear GJ
    simp only [Option.some.injEq,Prod.mk.injEq] at H
    obtain ⟨rfl,rfl,rfl⟩:=H
    have PS:=Sa.out
    have rS:=qb.out
    have Yac:=qf.out
    have kac:=Vf.out
    have cw:wc.cell? ⟨Fa,0,none⟩=some (.int .i64 jc):=(ga ua.out 0).trans rfl
    have bw:wc.cell? ⟨Fa,1,none⟩=some (.int .i64 Lb):=(ga ua.out 1).trans rfl
    have Zu:=aa ua.out 0
    have Yu:=aa ua.out 1
    have dO:=Wd.out
    have YN:=Uf.out
    have Mi:wc.cell? ⟨Ia,0,none⟩=some (.int .i64 qg):=(ga Ba.out 0).trans rfl
    have Li:wc.cell? ⟨Ia,1,none⟩=some (.int .i64 Mg):=(ga Ba.out 1).trans rfl
    have Ii:=aa Ba.out 0
    have Hi:=aa Ba.out 1
    go_wp2_with (first|((with_reducible refine Bb (f:=104) rfl ?_);refine jd (some 22) rfl rfl Try.func104 (by kernel_rfl) rfl #[.string a0,.int .i64 Lb,.int .i64 Mg] rfl (by (try simp only [List.map_toArray,List.map_cons,List.map_nil]);first|done|rfl|(simp only [List.length_drop,List.length_take];rfl)) ?_;(with_reducible refine (vn.calls a0 Lb Mg t104 _ eH.out).mono ?_);rintro e w' ⟨rfl,⟨nd,rfl⟩⟩;refine ⟨_,rfl,?_⟩;(try (rw [wC wc];generalize hq_:World.drewN wc _=wc;have Pb:qa (wc.heap[Fa]? = some (.cells #[.int .i64 jc,.int .i64 Lb] 77 (0,0))):=⟨by rw [← hq_];exact (by (with_reducible repeat (first|refine Ea ?_ _|refine Ga ?_|refine Da ?_ _));exact ua.out)⟩;have Wb:qa (wc.heap[Ia]? = some (.cells #[.int .i64 qg,.int .i64 Mg] 77 (0,0))):=⟨by rw [← hq_];exact (by (with_reducible repeat (first|refine Ea ?_ _|refine Ga ?_|refine Da ?_ _));exact Ba.out)⟩;have nc:qa (wc.heap[Ld]? = some (.cells #[.int .i64 0,.int .i64 0] 77 (0,0))):=⟨by rw [← hq_];exact (by (with_reducible repeat (first|refine Ea ?_ _|refine Ga ?_|refine Da ?_ _));exact Vc.out)⟩;have Nc:qa (Below w.heap.size w wc):=⟨by rw [← hq_];exact (by repeat (first|(with_reducible first|exact HB.out|apply ia|apply ja|apply za|refine Aa ?_ Va.out|refine Aa ?_ Vb.out|refine Aa ?_ Zg.out)|exact HB.out))⟩;clear ua Ba Vc HB hq_;have ua:=Pb;have Ba:=Wb;have Vc:=nc;have HB:=Nc;clear Pb Wb nc Nc));have nk:wc.cell? ⟨Ld,0,none⟩=some (.int .i64 0):=(ga Vc.out 0).trans rfl;have jk:wc.cell? ⟨Ld,1,none⟩=some (.int .i64 0):=(ga Vc.out 1).trans rfl;have ck:=aa Vc.out 0;have bk:=aa Vc.out 1))
    refine bodyPost_ret (Ui rfl _ _ Ld 77 #[.int .i64 (-1),.int .i64 t104] (0,0) _ rfl (by (with_reducible repeat (first|refine Ea ?_ _|refine Ga ?_|refine Da ?_ _));refine Db (cs:=#[.int .i64 (-1),.int .i64 0]) ?_ 1 _ rfl;(with_reducible repeat (first|refine Ea ?_ _|refine Ga ?_|refine Da ?_ _));refine Db (cs:=#[.int .i64 0,.int .i64 0]) ?_ 0 _ rfl;(with_reducible repeat (first|refine Ea ?_ _|refine Ga ?_|refine Da ?_ _));exact Vc.out) Try.underlying77 rfl (by kernel_rfl)) rfl ?_
    exact ⟨by first|rfl|(simp [La,Ka] <;> rfl)|(simp [*,La,Ka] <;> rfl),by repeat (first|(with_reducible first|exact HB.out|apply ia|apply ja|apply za|refine Aa ?_ Va.out|refine Aa ?_ Vb.out|refine Aa ?_ Zg.out)|exact HB.out)⟩
   ·replace c17:=Bool.eq_false_iff.mpr c17
    subst c17
    have H1:(if a0.toList=([43]:List UInt8) then (Cb.j1 kj3 a0 (jc == (-1)) jc Lb qg Mg) else (Cb.j1 kj3 a0 false jc Lb qg Mg))=some (r1,r2,r3):=by rw [if_neg (show ¬ (false=true) by decide)] at H;exact H
    clear H
    have H:=H1
    clear H1
    have tR:=qa.mk H
    clear H
    go_upto_region 3 with (fail)
    go_cut [24] (fun v24 wc=>∃ (kq:Nat) (ry:Bool),v24 = .bool ry∧qa (Cb.j1 kq a0 ry jc Lb qg Mg=some (r1,r2,r3))∧qa (kq ≤ kj3)∧qa (wc.heap[Fa]? = some (.cells #[.int .i64 jc,.int .i64 Lb] 77 (0,0)))∧qa (wc.heap[Ia]? = some (.cells #[.int .i64 qg,.int .i64 Mg] 77 (0,0)))∧qa (wc.heap[Ld]? = some (.cells #[.int .i64 0,.int .i64 0] 77 (0,0)))∧qa (Below w.heap.size w wc))
    case first =>
     have H:=tR.out
     clear tR
     by_cases c26:a0.toList=([43]:List UInt8)
     ·rw [if_pos c26] at H
      have ou:(a0.toList == ([43]:List UInt8))=true:=beq_iff_eq.mpr c26
      have gG:(a0.toList != ([43]:List UInt8))=false:=bne_eq_false_iff_eq.mpr c26
      clear c26
      (first|rw [ou]|(simp only [Za,gb];rw [ou])|skip)
      have H':=qa.mk H
      clear H
      have cO:=Sa.out
      have XN:=qb.out
      have fI:=qf.out
      have cI:=Vf.out
      have Qm:wc.cell? ⟨Fa,0,none⟩=some (.int .i64 jc):=(ga ua.out 0).trans rfl
      have Pm:wc.cell? ⟨Fa,1,none⟩=some (.int .i64 Lb):=(ga ua.out 1).trans rfl
      have Cm:=aa ua.out 0
      have Bm:=aa ua.out 1
      go_wp2
      go_meet
      case rel=>exact ⟨_,((jc == (-1))),(by first|rfl|(simp;done)|(simp [*];done)),H',⟨by have:=CR.out;first|omega|exact Nat.le_refl _⟩,⟨by (with_reducible repeat (first|refine Ea ?_ _|refine Ga ?_|refine Da ?_ _));exact ua.out⟩,⟨by (with_reducible repeat (first|refine Ea ?_ _|refine Ga ?_|refine Da ?_ _));exact Ba.out⟩,⟨by (with_reducible repeat (first|refine Ea ?_ _|refine Ga ?_|refine Da ?_ _));exact Vc.out⟩,⟨by repeat (first|(with_reducible first|exact HB.out|apply ia|apply ja|apply za|refine Aa ?_ Va.out|refine Aa ?_ Vb.out|refine Aa ?_ Zg.out)|exact HB.out)⟩⟩
     ·rw [if_neg c26] at H
      have ou:(a0.toList == ([43]:List UInt8))=false:=beq_eq_false_iff_ne.mpr c26
      have gG:(a0.toList != ([43]:List UInt8))=true:=bne_iff_ne.mpr c26
      (first|rw [ou]|(simp only [Za,gb];rw [ou])|skip)
      have H':=qa.mk H
      clear H
      go_wp2
      go_meet
      case rel=>exact ⟨_,(false),(by first|rfl|(simp;done)|(simp [*];done)),H',⟨by have:=CR.out;first|omega|exact Nat.le_refl _⟩,⟨by (with_reducible repeat (first|refine Ea ?_ _|refine Ga ?_|refine Da ?_ _));exact ua.out⟩,⟨by (with_reducible repeat (first|refine Ea ?_ _|refine Ga ?_|refine Da ?_ _));exact Ba.out⟩,⟨by (with_reducible repeat (first|refine Ea ?_ _|refine Ga ?_|refine Da ?_ _));exact Vc.out⟩,⟨by repeat (first|(with_reducible first|exact HB.out|apply ia|apply ja|apply za|refine Aa ?_ Va.out|refine Aa ?_ Vb.out|refine Aa ?_ Zg.out)|exact HB.out)⟩⟩
    case rest =>
     clear tR
     try clear c1
     try clear c2
     try clear p2
     try clear c8
     try clear Mn
     try clear Xt
     try clear c9
     try clear Jt
     try clear c12
     try clear c14
     try clear c15
     try clear c17
     try clear c19
     try clear c20
     try clear c22
     try clear c26
     try clear ou
     try clear gG
     try clear c27
     try clear c28
     try clear Qi
     try clear Oi
     try clear Lj
     try clear Kj
     try clear uk
     try clear qk
     try clear cw
     try clear bw
     try clear Mi
     try clear Li
     try clear nk
     try clear jk
     try clear Qm
     try clear Pm
     try clear Ki
     try clear Ji
     try clear Jj
     try clear Ij
     try clear fk
     try clear ek
     try clear Zu
     try clear Yu
     try clear Ii
     try clear Hi
     try clear ck
     try clear bk
     try clear Cm
     try clear Bm
     try clear p2
     obtain ⟨kq,ry,rfl,HA,KN,ua,Ba,Vc,HB⟩:=hcut
     cases kq with
     | zero=>exact absurd HA.out (by simp [Cb.j1])
     | succ kj24 =>
      have H:=HA.out
      clear HA
      simp only [Cb.j1] at H
      by_cases c30:ry=true
      ·subst c30
       have H1:(some (qg,wrap64 (Lb + Mg),true))=some (r1,r2,r3):=by rw [if_pos rfl] at H;exact H
       clear H
       have H:=H1
       clear H1
       simp only [Option.some.injEq,Prod.mk.injEq] at H
       obtain ⟨rfl,rfl,rfl⟩:=H
       have LS:=qb.out
       have nS:=Sa.out
       have JS:=Wd.out
       have mS:=Uf.out
       have Pv:wc.cell? ⟨Ia,0,none⟩=some (.int .i64 qg):=(ga Ba.out 0).trans rfl
       have Ov:wc.cell? ⟨Ia,1,none⟩=some (.int .i64 Mg):=(ga Ba.out 1).trans rfl
       have Nu:=aa Ba.out 0
       have Mu:=aa Ba.out 1
       have GS:=qf.out
       have lS:=Vf.out
       have Ls:wc.cell? ⟨Fa,0,none⟩=some (.int .i64 jc):=(ga ua.out 0).trans rfl
       have Ks:wc.cell? ⟨Fa,1,none⟩=some (.int .i64 Lb):=(ga ua.out 1).trans rfl
       have Qr:=aa ua.out 0
       have Pr:=aa ua.out 1
       have uq:wc.cell? ⟨Ld,0,none⟩=some (.int .i64 0):=(ga Vc.out 0).trans rfl
       have tq:wc.cell? ⟨Ld,1,none⟩=some (.int .i64 0):=(ga Vc.out 1).trans rfl
       have Zp:=aa Vc.out 0
       have Yp:=aa Vc.out 1
       go_wp2
       refine bodyPost_ret (Ui rfl _ _ Ld 77 #[.int .i64 qg,.int .i64 (wrap64 (Lb + Mg))] (0,0) _ rfl (by (with_reducible repeat (first|refine Ea ?_ _|refine Ga ?_|refine Da ?_ _));refine Db (cs:=#[.int .i64 qg,.int .i64 0]) ?_ 1 _ rfl;(with_reducible repeat (first|refine Ea ?_ _|refine Ga ?_|refine Da ?_ _));refine Db (cs:=#[.int .i64 0,.int .i64 0]) ?_ 0 _ rfl;(with_reducible repeat (first|refine Ea ?_ _|refine Ga ?_|refine Da ?_ _));exact Vc.out) Try.underlying77 rfl (by kernel_rfl)) rfl ?_
       exact ⟨by first|rfl|(simp [La,Ka] <;> rfl)|(simp [*,La,Ka] <;> rfl),by repeat (first|(with_reducible first|exact HB.out|apply ia|apply ja|apply za|refine Aa ?_ Va.out|refine Aa ?_ Vb.out|refine Aa ?_ Zg.out)|exact HB.out)⟩
      ·replace c30:=Bool.eq_false_iff.mpr c30
       subst c30
       have H1:(if a0.toList=([43]:List UInt8) then (Cb.j2 kj24 a0 (qg == (-1)) jc Lb qg Mg) else (Cb.j2 kj24 a0 false jc Lb qg Mg))=some (r1,r2,r3):=by rw [if_neg (show ¬ (false=true) by decide)] at H;exact H
       clear H
       have H:=H1
       clear H1
       have rR:=qa.mk H
       clear H
       go_upto_region 5 with (fail)
       go_cut [40] (fun v40 wc=>∃ (kq:Nat) (qy:Bool),v40 = .bool qy∧qa (Cb.j2 kq a0 qy jc Lb qg Mg=some (r1,r2,r3))∧qa (kq ≤ kj24)∧qa (wc.heap[Fa]? = some (.cells #[.int .i64 jc,.int .i64 Lb] 77 (0,0)))∧qa (wc.heap[Ia]? = some (.cells #[.int .i64 qg,.int .i64 Mg] 77 (0,0)))∧qa (wc.heap[Ld]? = some (.cells #[.int .i64 0,.int .i64 0] 77 (0,0)))∧qa (Below w.heap.size w wc))
       case first =>
        have H:=rR.out
        clear rR
        by_cases c38:a0.toList=([43]:List UInt8)
        ·rw [if_pos c38] at H
         have ox:(a0.toList == ([43]:List UInt8))=true:=beq_iff_eq.mpr c38
         have jJ:(a0.toList != ([43]:List UInt8))=false:=bne_eq_false_iff_eq.mpr c38
         clear c38
         (first|rw [ox]|(simp only [Za,gb];rw [ox])|skip)
         have H':=qa.mk H
         clear H
         have bO:=qb.out
         have WN:=Sa.out
         have Rac:=Wd.out
         have cac:=Uf.out
         have Iv:wc.cell? ⟨Ia,0,none⟩=some (.int .i64 qg):=(ga Ba.out 0).trans rfl
         have Hv:wc.cell? ⟨Ia,1,none⟩=some (.int .i64 Mg):=(ga Ba.out 1).trans rfl
         have Gu:=aa Ba.out 0
         have Fu:=aa Ba.out 1
         go_wp2
         go_meet
         case rel=>exact ⟨_,((qg == (-1))),(by first|rfl|(simp;done)|(simp [*];done)),H',⟨by have:=CR.out;have:=KN.out;first|omega|exact Nat.le_refl _⟩,⟨by (with_reducible repeat (first|refine Ea ?_ _|refine Ga ?_|refine Da ?_ _));exact ua.out⟩,⟨by (with_reducible repeat (first|refine Ea ?_ _|refine Ga ?_|refine Da ?_ _));exact Ba.out⟩,⟨by (with_reducible repeat (first|refine Ea ?_ _|refine Ga ?_|refine Da ?_ _));exact Vc.out⟩,⟨by repeat (first|(with_reducible first|exact HB.out|apply ia|apply ja|apply za|refine Aa ?_ Va.out|refine Aa ?_ Vb.out|refine Aa ?_ Zg.out)|exact HB.out)⟩⟩
        ·rw [if_neg c38] at H
         have ox:(a0.toList == ([43]:List UInt8))=false:=beq_eq_false_iff_ne.mpr c38
         have jJ:(a0.toList != ([43]:List UInt8))=true:=bne_iff_ne.mpr c38
         (first|rw [ox]|(simp only [Za,gb];rw [ox])|skip)
         have H':=qa.mk H
         clear H
         go_wp2
         go_meet
         case rel=>exact ⟨_,(false),(by first|rfl|(simp;done)|(simp [*];done)),H',⟨by have:=CR.out;have:=KN.out;first|omega|exact Nat.le_refl _⟩,⟨by (with_reducible repeat (first|refine Ea ?_ _|refine Ga ?_|refine Da ?_ _));exact ua.out⟩,⟨by (with_reducible repeat (first|refine Ea ?_ _|refine Ga ?_|refine Da ?_ _));exact Ba.out⟩,⟨by (with_reducible repeat (first|refine Ea ?_ _|refine Ga ?_|refine Da ?_ _));exact Vc.out⟩,⟨by repeat (first|(with_reducible first|exact HB.out|apply ia|apply ja|apply za|refine Aa ?_ Va.out|refine Aa ?_ Vb.out|refine Aa ?_ Zg.out)|exact HB.out)⟩⟩
       case rest =>
        clear rR
        try clear c1
        try clear c2
        try clear p2
        try clear c3
        try clear c4
        try clear p6
        try clear c8
        try clear Mn
        try clear Xt
        try clear c9
        try clear Jt
        try clear c12
        try clear c14
        try clear c15
        try clear c17
        try clear c19
        try clear c20
        try clear c22
        try clear c26
        try clear ou
        try clear gG
        try clear c27
        try clear c28
        try clear c30
        try clear c31
        try clear c32
        try clear c34
        try clear c38
        try clear ox
        try clear jJ
        try clear c39
        try clear c40
        try clear Qi
        try clear Oi
        try clear Lj
        try clear Kj
        try clear uk
        try clear qk
        try clear cw
        try clear bw
        try clear Mi
        try clear Li
        try clear nk
        try clear jk
        try clear Qm
        try clear Pm
        try clear Pv
        try clear Ov
        try clear Ls
        try clear Ks
        try clear uq
        try clear tq
        try clear Iv
        try clear Hv
        try clear Ki
        try clear Ji
        try clear Jj
        try clear Ij
        try clear fk
        try clear ek
        try clear Zu
        try clear Yu
        try clear Ii
        try clear Hi
        try clear ck
        try clear bk
        try clear Cm
        try clear Bm
        try clear Nu
        try clear Mu
        try clear Qr
        try clear Pr
        try clear Zp
        try clear Yp
        try clear Gu
        try clear Fu
        try clear p2
        obtain ⟨kq,qy,rfl,HA,AX,ua,Ba,Vc,HB⟩:=hcut
        cases kq with
        | zero=>exact absurd HA.out (by simp [Cb.j2])
        | succ kj36 =>
         have H:=HA.out
         clear HA
         simp only [Cb.j2] at H
         by_cases c42:qy=true
         ·subst c42
          have H1:(some (jc,wrap64 (Lb + Mg),true))=some (r1,r2,r3):=by rw [if_pos rfl] at H;exact H
          clear H
          have H:=H1
          clear H1
          simp only [Option.some.injEq,Prod.mk.injEq] at H
          obtain ⟨rfl,rfl,rfl⟩:=H
          have BS:=Sa.out
          have gS:=qb.out
          have Pac:=qf.out
          have aac:=Vf.out
          have fF:wc.cell? ⟨Fa,0,none⟩=some (.int .i64 jc):=(ga ua.out 0).trans rfl
          have eF:wc.cell? ⟨Fa,1,none⟩=some (.int .i64 Lb):=(ga ua.out 1).trans rfl
          have LD:=aa ua.out 0
          have KD:=aa ua.out 1
          have Oac:=Wd.out
          have Zab:=Uf.out
          have dF:wc.cell? ⟨Ia,0,none⟩=some (.int .i64 qg):=(ga Ba.out 0).trans rfl
          have cF:wc.cell? ⟨Ia,1,none⟩=some (.int .i64 Mg):=(ga Ba.out 1).trans rfl
          have JD:=aa Ba.out 0
          have ID:=aa Ba.out 1
          have Js:wc.cell? ⟨Ld,0,none⟩=some (.int .i64 0):=(ga Vc.out 0).trans rfl
          have Hs:wc.cell? ⟨Ld,1,none⟩=some (.int .i64 0):=(ga Vc.out 1).trans rfl
          have Nr:=aa Vc.out 0
          have Mr:=aa Vc.out 1
          go_wp2
          refine bodyPost_ret (Ui rfl _ _ Ld 77 #[.int .i64 jc,.int .i64 (wrap64 (Lb + Mg))] (0,0) _ rfl (by (with_reducible repeat (first|refine Ea ?_ _|refine Ga ?_|refine Da ?_ _));refine Db (cs:=#[.int .i64 jc,.int .i64 0]) ?_ 1 _ rfl;(with_reducible repeat (first|refine Ea ?_ _|refine Ga ?_|refine Da ?_ _));refine Db (cs:=#[.int .i64 0,.int .i64 0]) ?_ 0 _ rfl;(with_reducible repeat (first|refine Ea ?_ _|refine Ga ?_|refine Da ?_ _));exact Vc.out) Try.underlying77 rfl (by kernel_rfl)) rfl ?_
          exact ⟨by first|rfl|(simp [La,Ka] <;> rfl)|(simp [*,La,Ka] <;> rfl),by repeat (first|(with_reducible first|exact HB.out|apply ia|apply ja|apply za|refine Aa ?_ Va.out|refine Aa ?_ Vb.out|refine Aa ?_ Zg.out)|exact HB.out)⟩
         ·replace c42:=Bool.eq_false_iff.mpr c42
          subst c42
          have H1:(if a0.toList=([45]:List UInt8) then (Cb.j3 kj36 a0 (qg == (-1)) jc Lb qg Mg) else (Cb.j3 kj36 a0 false jc Lb qg Mg))=some (r1,r2,r3):=by rw [if_neg (show ¬ (false=true) by decide)] at H;exact H
          clear H
          have H:=H1
          clear H1
          have qR:=qa.mk H
          clear H
          go_upto_region 7 with (fail)
          go_cut [56] (fun v56 wc=>∃ (kq:Nat) (jy:Bool),v56 = .bool jy∧qa (Cb.j3 kq a0 jy jc Lb qg Mg=some (r1,r2,r3))∧qa (kq ≤ kj36)∧qa (wc.heap[Fa]? = some (.cells #[.int .i64 jc,.int .i64 Lb] 77 (0,0)))∧qa (wc.heap[Ia]? = some (.cells #[.int .i64 qg,.int .i64 Mg] 77 (0,0)))∧qa (wc.heap[Ld]? = some (.cells #[.int .i64 0,.int .i64 0] 77 (0,0)))∧qa (Below w.heap.size w wc))
          case first =>
           have H:=qR.out
           clear qR
           by_cases c50:a0.toList=([45]:List UInt8)
           ·rw [if_pos c50] at H
            have Zx:(a0.toList == ([45]:List UInt8))=true:=beq_iff_eq.mpr c50
            have nO:(a0.toList != ([45]:List UInt8))=false:=bne_eq_false_iff_eq.mpr c50
            clear c50
            (first|rw [Zx]|(simp only [Za,gb];rw [Zx])|skip)
            have H':=qa.mk H
            clear H
            have eI:=qb.out
            have bI:=Sa.out
            have Lac:=Wd.out
            have Wab:=Uf.out
            have pz:wc.cell? ⟨Ia,0,none⟩=some (.int .i64 qg):=(ga Ba.out 0).trans rfl
            have oz:wc.cell? ⟨Ia,1,none⟩=some (.int .i64 Mg):=(ga Ba.out 1).trans rfl
            have Oy:=aa Ba.out 0
            have My:=aa Ba.out 1
            go_wp2
            go_meet
            case rel=>exact ⟨_,((qg == (-1))),(by first|rfl|(simp;done)|(simp [*];done)),H',⟨by have:=CR.out;have:=KN.out;have:=AX.out;first|omega|exact Nat.le_refl _⟩,⟨by (with_reducible repeat (first|refine Ea ?_ _|refine Ga ?_|refine Da ?_ _));exact ua.out⟩,⟨by (with_reducible repeat (first|refine Ea ?_ _|refine Ga ?_|refine Da ?_ _));exact Ba.out⟩,⟨by (with_reducible repeat (first|refine Ea ?_ _|refine Ga ?_|refine Da ?_ _));exact Vc.out⟩,⟨by repeat (first|(with_reducible first|exact HB.out|apply ia|apply ja|apply za|refine Aa ?_ Va.out|refine Aa ?_ Vb.out|refine Aa ?_ Zg.out)|exact HB.out)⟩⟩
           ·rw [if_neg c50] at H
            have Zx:(a0.toList == ([45]:List UInt8))=false:=beq_eq_false_iff_ne.mpr c50
            have nO:(a0.toList != ([45]:List UInt8))=true:=bne_iff_ne.mpr c50
            (first|rw [Zx]|(simp only [Za,gb];rw [Zx])|skip)
            have H':=qa.mk H
            clear H
            go_wp2
            go_meet
            case rel=>exact ⟨_,(false),(by first|rfl|(simp;done)|(simp [*];done)),H',⟨by have:=CR.out;have:=KN.out;have:=AX.out;first|omega|exact Nat.le_refl _⟩,⟨by (with_reducible repeat (first|refine Ea ?_ _|refine Ga ?_|refine Da ?_ _));exact ua.out⟩,⟨by (with_reducible repeat (first|refine Ea ?_ _|refine Ga ?_|refine Da ?_ _));exact Ba.out⟩,⟨by (with_reducible repeat (first|refine Ea ?_ _|refine Ga ?_|refine Da ?_ _));exact Vc.out⟩,⟨by repeat (first|(with_reducible first|exact HB.out|apply ia|apply ja|apply za|refine Aa ?_ Va.out|refine Aa ?_ Vb.out|refine Aa ?_ Zg.out)|exact HB.out)⟩⟩
          case rest =>
           clear qR
           try clear c1
           try clear c2
           try clear p2
           try clear c3
           try clear c4
           try clear c5
           try clear p6
           try clear c8
           try clear Mn
           try clear Xt
           try clear c9
           try clear Jt
           try clear c12
           try clear c14
           try clear c15
           try clear c17
           try clear c19
           try clear c20
           try clear c22
           try clear c26
           try clear ou
           try clear gG
           try clear c27
           try clear c28
           try clear c30
           try clear c31
           try clear c32
           try clear c34
           try clear c38
           try clear ox
           try clear jJ
           try clear c39
           try clear c40
           try clear c42
           try clear c43
           try clear c44
           try clear c46
           try clear c50
           try clear Zx
           try clear nO
           try clear c51
           try clear c52
           try clear Qi
           try clear Oi
           try clear Lj
           try clear Kj
           try clear uk
           try clear qk
           try clear cw
           try clear bw
           try clear Mi
           try clear Li
           try clear nk
           try clear jk
           try clear Qm
           try clear Pm
           try clear Pv
           try clear Ov
           try clear Ls
           try clear Ks
           try clear uq
           try clear tq
           try clear Iv
           try clear Hv
           try clear fF
           try clear eF
           try clear dF
           try clear cF
           try clear Js
           try clear Hs
           try clear pz
           try clear oz
           try clear Ki
           try clear Ji
           try clear Jj
           try clear Ij
           try clear fk
           try clear ek
           try clear Zu
           try clear Yu
           try clear Ii
           try clear Hi
           try clear ck
           try clear bk
           try clear Cm
           try clear Bm
           try clear Nu
           try clear Mu
           try clear Qr
           try clear Pr
           try clear Zp
           try clear Yp
           try clear Gu
           try clear Fu
           try clear LD
           try clear KD
           try clear JD
           try clear ID
           try clear Nr
           try clear Mr
           try clear Oy
           try clear My
           try clear p2
           try clear p6
           obtain ⟨kq,jy,rfl,HA,waf,ua,Ba,Vc,HB⟩:=hcut
           cases kq with
           | zero=>exact absurd HA.out (by simp [Cb.j3])
           | succ kj48 =>
            have H:=HA.out
            clear HA
            simp only [Cb.j3] at H
            by_cases c54:jy=true
            ·subst c54
             have H1:(some (jc,wrap64 (Lb - Mg),true))=some (r1,r2,r3):=by rw [if_pos rfl] at H;exact H
             clear H
             have H:=H1
             clear H1
             simp only [Option.some.injEq,Prod.mk.injEq] at H
             obtain ⟨rfl,rfl,rfl⟩:=H
             have Jac:=Sa.out
             have Uab:=qb.out
             have zS:=qf.out
             have fS:=Vf.out
             have rM:wc.cell? ⟨Fa,0,none⟩=some (.int .i64 jc):=(ga ua.out 0).trans rfl
             have qM:wc.cell? ⟨Fa,1,none⟩=some (.int .i64 Lb):=(ga ua.out 1).trans rfl
             have LK:=aa ua.out 0
             have KK:=aa ua.out 1
             have Hac:=Wd.out
             have Sab:=Uf.out
             have P6:wc.cell? ⟨Ia,0,none⟩=some (.int .i64 qg):=(ga Ba.out 0).trans rfl
             have O6:wc.cell? ⟨Ia,1,none⟩=some (.int .i64 Mg):=(ga Ba.out 1).trans rfl
             have B0:=aa Ba.out 0
             have ZZ:=aa Ba.out 1
             have kM:wc.cell? ⟨Ld,0,none⟩=some (.int .i64 0):=(ga Vc.out 0).trans rfl
             have jM:wc.cell? ⟨Ld,1,none⟩=some (.int .i64 0):=(ga Vc.out 1).trans rfl
             have CK:=aa Vc.out 0
             have BK:=aa Vc.out 1
             go_wp2
             refine bodyPost_ret (Ui rfl _ _ Ld 77 #[.int .i64 jc,.int .i64 (wrap64 (Lb - Mg))] (0,0) _ rfl (by (with_reducible repeat (first|refine Ea ?_ _|refine Ga ?_|refine Da ?_ _));refine Db (cs:=#[.int .i64 jc,.int .i64 0]) ?_ 1 _ rfl;(with_reducible repeat (first|refine Ea ?_ _|refine Ga ?_|refine Da ?_ _));refine Db (cs:=#[.int .i64 0,.int .i64 0]) ?_ 0 _ rfl;(with_reducible repeat (first|refine Ea ?_ _|refine Ga ?_|refine Da ?_ _));exact Vc.out) Try.underlying77 rfl (by kernel_rfl)) rfl ?_
             exact ⟨by first|rfl|(simp [La,Ka] <;> rfl)|(simp [*,La,Ka] <;> rfl),by repeat (first|(with_reducible first|exact HB.out|apply ia|apply ja|apply za|refine Aa ?_ Va.out|refine Aa ?_ Vb.out|refine Aa ?_ Zg.out)|exact HB.out)⟩
            ·replace c54:=Bool.eq_false_iff.mpr c54
             subst c54
             have H1:(if a0.toList=([45]:List UInt8) then (if jc=qg then (some ((-1),wrap64 (Lb - Mg),true)) else (some (0,0,false))) else (some (0,0,false)))=some (r1,r2,r3):=by rw [if_neg (show ¬ (false=true) by decide)] at H;exact H
             clear H
             have H:=H1
             clear H1
             by_cases c61:a0.toList=([45]:List UInt8)
             ·rw [if_pos c61] at H
              have YW:(a0.toList == ([45]:List UInt8))=true:=beq_iff_eq.mpr c61
              have XW:(a0.toList != ([45]:List UInt8))=false:=bne_eq_false_iff_eq.mpr c61
              clear c61
              by_cases c62:jc=qg
              ·rw [if_pos c62] at H
               have WW:(jc == qg)=true:=beq_iff_eq.mpr c62
               have VW:(jc != qg)=false:=bne_eq_false_iff_eq.mpr c62
               clear c62
               simp only [Option.some.injEq,Prod.mk.injEq] at H
               obtain ⟨rfl,rfl,rfl⟩:=H
               have yS:=Sa.out
               have eS:=qb.out
               have Eac:=qf.out
               have Pab:=Vf.out
               have e6:wc.cell? ⟨Fa,0,none⟩=some (.int .i64 jc):=(ga ua.out 0).trans rfl
               have Z5:wc.cell? ⟨Fa,1,none⟩=some (.int .i64 Lb):=(ga ua.out 1).trans rfl
               have GZ:=aa ua.out 0
               have FZ:=aa ua.out 1
               have Dac:=Wd.out
               have Oab:=Uf.out
               have Y5:wc.cell? ⟨Ia,0,none⟩=some (.int .i64 qg):=(ga Ba.out 0).trans rfl
               have X5:wc.cell? ⟨Ia,1,none⟩=some (.int .i64 Mg):=(ga Ba.out 1).trans rfl
               have EZ:=aa Ba.out 0
               have DZ:=aa Ba.out 1
               have V5:wc.cell? ⟨Ld,0,none⟩=some (.int .i64 0):=(ga Vc.out 0).trans rfl
               have U5:wc.cell? ⟨Ld,1,none⟩=some (.int .i64 0):=(ga Vc.out 1).trans rfl
               have CZ:=aa Vc.out 0
               have BZ:=aa Vc.out 1
               go_wp2
               refine bodyPost_ret (Ui rfl _ _ Ld 77 #[.int .i64 (-1),.int .i64 (wrap64 (Lb - Mg))] (0,0) _ rfl (by (with_reducible repeat (first|refine Ea ?_ _|refine Ga ?_|refine Da ?_ _));refine Db (cs:=#[.int .i64 (-1),.int .i64 0]) ?_ 1 _ rfl;(with_reducible repeat (first|refine Ea ?_ _|refine Ga ?_|refine Da ?_ _));refine Db (cs:=#[.int .i64 0,.int .i64 0]) ?_ 0 _ rfl;(with_reducible repeat (first|refine Ea ?_ _|refine Ga ?_|refine Da ?_ _));exact Vc.out) Try.underlying77 rfl (by kernel_rfl)) rfl ?_
               exact ⟨by first|rfl|(simp [La,Ka] <;> rfl)|(simp [*,La,Ka] <;> rfl),by repeat (first|(with_reducible first|exact HB.out|apply ia|apply ja|apply za|refine Aa ?_ Va.out|refine Aa ?_ Vb.out|refine Aa ?_ Zg.out)|exact HB.out)⟩
              ·rw [if_neg c62] at H
               have WW:(jc == qg)=false:=beq_eq_false_iff_ne.mpr c62
               have VW:(jc != qg)=true:=bne_iff_ne.mpr c62
               simp only [Option.some.injEq,Prod.mk.injEq] at H
               obtain ⟨rfl,rfl,rfl⟩:=H
               have Cac:=Sa.out
               have Nab:=qb.out
               have xS:=qf.out
               have dS:=Vf.out
               have VE:wc.cell? ⟨Fa,0,none⟩=some (.int .i64 jc):=(ga ua.out 0).trans rfl
               have UE:wc.cell? ⟨Fa,1,none⟩=some (.int .i64 Lb):=(ga ua.out 1).trans rfl
               have BD:=aa ua.out 0
               have zD:=aa ua.out 1
               have Aac:=Wd.out
               have Lab:=Uf.out
               have T5:wc.cell? ⟨Ia,0,none⟩=some (.int .i64 qg):=(ga Ba.out 0).trans rfl
               have S5:wc.cell? ⟨Ia,1,none⟩=some (.int .i64 Mg):=(ga Ba.out 1).trans rfl
               have AZ:=aa Ba.out 0
               have zZ:=aa Ba.out 1
               have R5:wc.cell? ⟨Ld,0,none⟩=some (.int .i64 0):=(ga Vc.out 0).trans rfl
               have Q5:wc.cell? ⟨Ld,1,none⟩=some (.int .i64 0):=(ga Vc.out 1).trans rfl
               have yZ:=aa Vc.out 0
               have xZ:=aa Vc.out 1
               go_wp2
               refine bodyPost_ret (Ui rfl _ _ Ld 77 #[.int .i64 0,.int .i64 0] (0,0) _ rfl (by (with_reducible repeat (first|refine Ea ?_ _|refine Ga ?_|refine Da ?_ _));refine Db (cs:=#[.int .i64 0,.int .i64 0]) ?_ 1 _ rfl;(with_reducible repeat (first|refine Ea ?_ _|refine Ga ?_|refine Da ?_ _));refine Db (cs:=#[.int .i64 0,.int .i64 0]) ?_ 0 _ rfl;(with_reducible repeat (first|refine Ea ?_ _|refine Ga ?_|refine Da ?_ _));exact Vc.out) Try.underlying77 rfl (by kernel_rfl)) rfl ?_
               exact ⟨by first|rfl|(simp [La,Ka] <;> rfl)|(simp [*,La,Ka] <;> rfl),by repeat (first|(with_reducible first|exact HB.out|apply ia|apply ja|apply za|refine Aa ?_ Va.out|refine Aa ?_ Vb.out|refine Aa ?_ Zg.out)|exact HB.out)⟩
             ·rw [if_neg c61] at H
              have YW:(a0.toList == ([45]:List UInt8))=false:=beq_eq_false_iff_ne.mpr c61
              have XW:(a0.toList != ([45]:List UInt8))=true:=bne_iff_ne.mpr c61
              simp only [Option.some.injEq,Prod.mk.injEq] at H
              obtain ⟨rfl,rfl,rfl⟩:=H
              have zac:=Vf.out
              have Kab:=qf.out
              have yac:=Uf.out
              have Jab:=Wd.out
              have I5:wc.cell? ⟨Ld,0,none⟩=some (.int .i64 0):=(ga Vc.out 0).trans rfl
              have G5:wc.cell? ⟨Ld,1,none⟩=some (.int .i64 0):=(ga Vc.out 1).trans rfl
              have pZ:=aa Vc.out 0
              have oZ:=aa Vc.out 1
              go_wp2
              refine bodyPost_ret (Ui rfl _ _ Ld 77 #[.int .i64 0,.int .i64 0] (0,0) _ rfl (by (with_reducible repeat (first|refine Ea ?_ _|refine Ga ?_|refine Da ?_ _));refine Db (cs:=#[.int .i64 0,.int .i64 0]) ?_ 1 _ rfl;(with_reducible repeat (first|refine Ea ?_ _|refine Ga ?_|refine Da ?_ _));refine Db (cs:=#[.int .i64 0,.int .i64 0]) ?_ 0 _ rfl;(with_reducible repeat (first|refine Ea ?_ _|refine Ga ?_|refine Da ?_ _));exact Vc.out) Try.underlying77 rfl (by kernel_rfl)) rfl ?_
              exact ⟨by first|rfl|(simp [La,Ka] <;> rfl)|(simp [*,La,Ka] <;> rfl),by repeat (first|(with_reducible first|exact HB.out|apply ia|apply ja|apply za|refine Aa ?_ Va.out|refine Aa ?_ Vb.out|refine Aa ?_ Zg.out)|exact HB.out)⟩
end Go.Proofs.Ytmifdccaajngcaa.P
end
