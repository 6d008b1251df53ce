import Derived.Test.YtmifdccaajngcaaQPlaces1
import Derived.Shelf.Abstract
import Derived.Outline
import Derived.RegionTactic
set_option maxHeartbeats 8000000
set_option maxRecDepth 100000
section
namespace Go.Proofs.Ytmifdccaajngcaa.P
open Go.RowKit Go.Proofs.Sa.Ec Go.Proofs.Sa.Bf Go.Proofs.Sa.Yg
set_option linter.unusedVariables false
set_option linter.unusedSimpArgs false
attribute [local go_sem] Jk Gk ym xm Gj Fj Ik Fk
def mc.l0:Nat→Int→List (ko)→Int→Option ((List (ko)))
 | 0,_,_,_=>none
 | k + 1,x0,x3,x4=>if x4 < x0 then (if x3.length < 8796093022208 then (mc.l0 k x0 (x3 ++ [(⟨x4,0⟩:ko)]) (wrap64 (x4 + 1))) else (none)) else (some x3)
def mc.f (k:Nat) (a0:Int):Option ((List (ko))):=mc.l0 k a0 (([]:List (ko))) 0
theorem mc.Qd:∀ k,(∀ y0 y1 y2,Nb (mc.l0 k y0 y1 y2) (mc.l0 (k + 1) y0 y1 y2))
 | 0=>fun _ _ _ r h=>by simp [mc.l0] at h
 | k + 1=>by
  have Ff:=mc.Qd k
  ·intro y0 y1 y2
   unfold mc.l0
   repeat' first
   | (with_reducible exact Ff _ _ _)
   | (with_reducible exact Nb.refl _)
   | (with_reducible exact Nb.none _)
   | (with_reducible refine Nb.ite ?_ ?_)
   | (with_reducible refine Nb.bind ?_ (fun _=>?_))
   | exact Ff _ _ _
   | exact Nb.none _
   | refine Nb.ite ?_ ?_
   | refine Nb.bind ?_ (fun _=>?_)
theorem mc.mono:∀ a0 k,Nb (mc.f k a0) (mc.f (k + 1) a0):=by
 intro a0 k
 have Ff:=mc.Qd k
 unfold mc.f
 repeat' first
   | (with_reducible exact Ff _ _ _)
   | (with_reducible exact Nb.refl _)
   | (with_reducible exact Nb.none _)
   | (with_reducible refine Nb.ite ?_ ?_)
   | (with_reducible refine Nb.bind ?_ (fun _=>?_))
   | exact Ff _ _ _
   | exact Nb.none _
   | refine Nb.ite ?_ ?_
   | refine Nb.bind ?_ (fun _=>?_)
theorem mc.calls (k:Nat) (a0:Int) (r:List (ko)) (w:World) (h:mc.f k a0=some r) :
  Calls Try.prog 76 #[.int .i64 a0] w fun e w'=>∃ v0_:Value,e = .returned (v0_)∧Kd.R GG 77 w' w.heap.size (fun _=>True) v0_ r∧Below w.heap.size w w':=by
 have Xad:=Try.underlying77
 have HB:=ja.mk (Below.refl w.heap.size w)
 have H:(mc.l0 k a0 (([]:List (ko))) 0)=some r:=h
 clear h
 obtain ⟨ef,hy101⟩:∃ y_:List (ko),y_=(([]:List (ko))):=⟨_,rfl⟩
 replace H:(mc.l0 k a0 ef 0)=some r:=by first|(rw [hy101];with_reducible exact H)|(have Vh:=(Option.bind_some _ _).symm.trans H;rw [hy101];with_reducible exact Vh)|(have Vh:=(Option.bind_some _ _).symm.trans H;with_reducible exact Vh)|with_reducible exact H|(rw [hy101];exact H)|exact H
 have Yj:=ja.mk hy101
 clear hy101
 have H':=ja.mk H
 clear H
 go_enter Try.func76,Try.ntmps76
 go_wp2_with (first|((with_reducible refine Pb (N:=5) rfl ?_);refine Kd.JA GG _ 77 ?hg (N:=5) ?hd (xs:=([]:List (ko))) (inner:=[]) (ok:=fun _=>True) (Xo:=fun _=>True) ?hr ?hp (fun _ hk=>hk) trivial (Below.refl _ _) (Nat.le_refl _) (by simp) ?_;(case hd=>rfl);(case hg=>rfl);(case hr=>first|(go_simp;done)|(go_simp;rfl));(case hp=>exact (Wf.none _ _));intro vD w2 kW hb fF yo;clear fF yo;(first|rw [← Yj.out] at kW|(simp only [Int.reduceToNat] at kW;rw [← Yj.out] at kW));have Qb:=ja.mk (Kd.ri kW (Qa (by repeat (first|(with_reducible first|exact HB.out|apply qa|apply ia|apply ua)|exact HB.out))));have uc:=ja.mk (Na (by repeat (first|(with_reducible first|exact HB.out|apply qa|apply ia|apply ua)|exact HB.out)) hb);clear HB;have vq:=Qb;have HB:=uc;clear Qb uc hb kW))
 go_loopg [3,4] k (fun kq v3 v4 w'=>∃ (uf:List (ko)) (Od:Int),v4 = .int .i64 Od∧ja (mc.l0 kq a0 uf Od=some r)∧ja (kq ≤ k)∧ja (Kd.R GG 77 w' w.heap.size (fun _=>True) v3 uf)∧ja (Below w.heap.size w w'))
 case atStart=>exact ⟨(ef),(0),(by first|rfl|(simp;done)|(simp [*];done)),H',⟨Nat.le_refl _⟩,⟨by (with_reducible repeat (first|apply Kd.Sd|apply Kd.ee|apply Kd.Ie));exact vq.out⟩,⟨by repeat (first|(with_reducible first|exact HB.out|apply qa|apply ia|apply ua)|exact HB.out)⟩⟩
 case round =>
  clear H'
  try clear p2
  (try clear HA)
  (try clear Ig)
  (try clear Ai)
  (try clear HB)
  obtain ⟨uf,Od,rfl,HA,Ig,Ai,HB⟩:=hrel
  cases gk with
  | zero=>exact absurd HA.out (by simp [mc.l0])
  | succ k1 =>
   have H:=HA.out
   clear HA
   simp only [mc.l0] at H
   by_cases c4:Od < a0
   ·rw [if_pos c4] at H
    have si:decide (Od < a0)=true:=decide_eq_true c4
    clear c4
    by_cases c5:uf.length < 8796093022208
    ·rw [if_pos c5] at H
     have Haf:=ja.mk c5
     clear c5
     obtain ⟨lg,hy104⟩:∃ y_:List (ko),y_=(uf ++ [(⟨Od,0⟩:ko)]):=⟨_,rfl⟩
     replace H:(mc.l0 k1 a0 lg (wrap64 (Od + 1)))=some r:=by first|(rw [hy104];with_reducible exact H)|(have Vh:=(Option.bind_some _ _).symm.trans H;rw [hy104];with_reducible exact Vh)|(have Vh:=(Option.bind_some _ _).symm.trans H;with_reducible exact Vh)|with_reducible exact H|(rw [hy104];exact H)|exact H
     have rE:=ja.mk hy104
     clear hy104
     have H':=ja.mk H
     clear H
     go_wp2_with (first|((with_reducible refine dw (b:=.append) (xs:=#[.tmp 11,.tmp 14]) rfl ?_);at_builtin;refine Kd.Us GG (w0:=w) w.heap.size rfl (.tmp 11) (.tmp 14) 60 77 (.agg #[(.int .i64 0),(.int .i64 0)]) 16 rfl Try.underlying60 PS rfl (by decide) (by omega) u3 uf (⟨Od,0⟩:ko) [.int .i64 Od,.int .i64 0] (fun _=>True) (fun _=>False) rfl rfl ?aP (fun _ hk=>hk.elim) ?aF ?aO ?aB ?aS ?aL ?_;(case aP=>exact ct _ _ _ (⟨Od,0⟩:ko));(case aB=>exact (by repeat (first|(with_reducible first|exact HB.out|apply qa|apply ia|apply ua)|exact HB.out)));(case aF=>exact (fun _ _=>trivial));(case aO=>exact (by (with_reducible repeat (first|apply Kd.Sd|apply Kd.ee|apply Kd.Ie));exact Ai.out));(case aS=>exact (Qa (by repeat (first|(with_reducible first|exact HB.out|apply qa|apply ia|apply ua)|exact HB.out))));(case aL=>have:=Haf.out;omega);intro sS w6 ho hb hg hat;rw [← rE.out] at ho;have Qb:=ja.mk (hb);have uc:=ja.mk (ho);clear HB Ai;have HB:=Qb;have Wr:=uc;clear Qb uc ho hb hg hat))
     go_roundg k1
     case measure=>have:=Ig.out;omega
     case rel=>exact ⟨(lg),(wrap64 (Od + 1)),(by first|rfl|(simp;done)|(simp [*];done)),H',⟨by have:=Ig.out;omega⟩,⟨by (with_reducible repeat (first|apply Kd.Sd|apply Kd.ee|apply Kd.Ie));exact Wr.out⟩,⟨by repeat (first|(with_reducible first|exact HB.out|apply qa|apply ia|apply ua)|exact HB.out)⟩⟩
    ·rw [if_neg c5] at H
     exact absurd H (by simp)
   ·rw [if_neg c4] at H
    have si:decide (Od < a0)=false:=decide_eq_false c4
    clear c4
    obtain rfl:=Option.some.inj H
    go_wp2
    go_ret
    exact ⟨_,by first|rfl|(simp [La,Ka] <;> rfl)|(simp [*,La,Ka] <;> rfl),by (with_reducible repeat (first|apply Kd.Sd|apply Kd.ee|apply Kd.Ie));exact Ai.out,by repeat (first|(with_reducible first|exact HB.out|apply qa|apply ia|apply ua)|exact HB.out)⟩
def lq.f (a0:ByteArray) (a1:Int) (a2:Int):Option (Int):=if a0.toList=([43]:List UInt8) then (some (wrap64 (a1 + a2))) else (if a0.toList=([45]:List UInt8) then (some (wrap64 (a1 - a2))) else (if a0.toList=([42]:List UInt8) then (some (wrap64 (a1 * a2))) else (if a0.toList=([38]:List UInt8) then (some (Go.bits .and .i64 a1 a2)) else (if a0.toList=([61,61]:List UInt8) then (if a1=a2 then (some 1) else (some 0)) else (if a0.toList=([60]:List UInt8) then (if a1 < a2 then (some 1) else (some 0)) else (some 0))))))
theorem lq.calls (a0:ByteArray) (a1:Int) (a2:Int) (r:Int) (w:World) (h:lq.f a0 a1 a2=some r) :
  Calls Try.prog 104 #[.string a0,.int .i64 a1,.int .i64 a2] w fun e w'=>e = .returned (.int .i64 r)∧jc w w':=by
 have H:(if a0.toList=([43]:List UInt8) then (some (wrap64 (a1 + a2))) else (if a0.toList=([45]:List UInt8) then (some (wrap64 (a1 - a2))) else (if a0.toList=([42]:List UInt8) then (some (wrap64 (a1 * a2))) else (if a0.toList=([38]:List UInt8) then (some (Go.bits .and .i64 a1 a2)) else (if a0.toList=([61,61]:List UInt8) then (if a1=a2 then (some 1) else (some 0)) else (if a0.toList=([60]:List UInt8) then (if a1 < a2 then (some 1) else (some 0)) else (some 0)))))))=some r:=h
 clear h
 by_cases c4:a0.toList=([43]:List UInt8)
 ·rw [if_pos c4] at H
  have si:(a0.toList == ([43]:List UInt8))=true:=beq_iff_eq.mpr c4
  have lE:(a0.toList != ([43]:List UInt8))=false:=bne_eq_false_iff_eq.mpr c4
  clear c4
  obtain rfl:=Option.some.inj H
  go_enter Try.func104,Try.ntmps104
  go_wp2
  go_ret
  exact ⟨by first|rfl|(simp;done)|(simp [*];done),by repeat (first|exact jc.refl _|apply jc.step)⟩
 ·rw [if_neg c4] at H
  have si:(a0.toList == ([43]:List UInt8))=false:=beq_eq_false_iff_ne.mpr c4
  have lE:(a0.toList != ([43]:List UInt8))=true:=bne_iff_ne.mpr c4
  by_cases c5:a0.toList=([45]:List UInt8)
  ·rw [if_pos c5] at H
   have Ok:(a0.toList == ([45]:List UInt8))=true:=beq_iff_eq.mpr c5
   have Yp:(a0.toList != ([45]:List UInt8))=false:=bne_eq_false_iff_eq.mpr c5
   clear c5
   obtain rfl:=Option.some.inj H
   go_enter Try.func104,Try.ntmps104
   go_wp2
   go_ret
   exact ⟨by first|rfl|(simp;done)|(simp [*];done),by repeat (first|exact jc.refl _|apply jc.step)⟩
  ·rw [if_neg c5] at H
   have Ok:(a0.toList == ([45]:List UInt8))=false:=beq_eq_false_iff_ne.mpr c5
   have Yp:(a0.toList != ([45]:List UInt8))=true:=bne_iff_ne.mpr c5
   by_cases c6:a0.toList=([42]:List UInt8)
   ·rw [if_pos c6] at H
    have El:(a0.toList == ([42]:List UInt8))=true:=beq_iff_eq.mpr c6
    have Ts:(a0.toList != ([42]:List UInt8))=false:=bne_eq_false_iff_eq.mpr c6
    clear c6
    obtain rfl:=Option.some.inj H
    go_enter Try.func104,Try.ntmps104
    go_wp2
    go_ret
    exact ⟨by first|rfl|(simp;done)|(simp [*];done),by repeat (first|exact jc.refl _|apply jc.step)⟩
   ·rw [if_neg c6] at H
    have El:(a0.toList == ([42]:List UInt8))=false:=beq_eq_false_iff_ne.mpr c6
    have Ts:(a0.toList != ([42]:List UInt8))=true:=bne_iff_ne.mpr c6
    by_cases c7:a0.toList=([38]:List UInt8)
    ·rw [if_pos c7] at H
     have Uo:(a0.toList == ([38]:List UInt8))=true:=beq_iff_eq.mpr c7
     have qu:(a0.toList != ([38]:List UInt8))=false:=bne_eq_false_iff_eq.mpr c7
     clear c7
     obtain rfl:=Option.some.inj H
     go_enter Try.func104,Try.ntmps104
     go_wp2
     go_ret
     exact ⟨by first|rfl|(simp;done)|(simp [*];done),by repeat (first|exact jc.refl _|apply jc.step)⟩
    ·rw [if_neg c7] at H
     have Uo:(a0.toList == ([38]:List UInt8))=false:=beq_eq_false_iff_ne.mpr c7
     have qu:(a0.toList != ([38]:List UInt8))=true:=bne_iff_ne.mpr c7
     by_cases c8:a0.toList=([61,61]:List UInt8)
     ·rw [if_pos c8] at H
      have Yl:(a0.toList == ([61,61]:List UInt8))=true:=beq_iff_eq.mpr c8
      have sq:(a0.toList != ([61,61]:List UInt8))=false:=bne_eq_false_iff_eq.mpr c8
      clear c8
      by_cases c9:a1=a2
      ·rw [if_pos c9] at H
       have Az:(a1 == a2)=true:=beq_iff_eq.mpr c9
       have YC:(a1 != a2)=false:=bne_eq_false_iff_eq.mpr c9
       clear c9
       obtain rfl:=Option.some.inj H
       go_enter Try.func104,Try.ntmps104
       go_wp2
       go_ret
       exact ⟨by first|rfl|(simp;done)|(simp [*];done),by repeat (first|exact jc.refl _|apply jc.step)⟩
      ·rw [if_neg c9] at H
       have Az:(a1 == a2)=false:=beq_eq_false_iff_ne.mpr c9
       have YC:(a1 != a2)=true:=bne_iff_ne.mpr c9
       obtain rfl:=Option.some.inj H
       go_enter Try.func104,Try.ntmps104
       go_wp2
       go_ret
       exact ⟨by first|rfl|(simp;done)|(simp [*];done),by repeat (first|exact jc.refl _|apply jc.step)⟩
     ·rw [if_neg c8] at H
      have Yl:(a0.toList == ([61,61]:List UInt8))=false:=beq_eq_false_iff_ne.mpr c8
      have sq:(a0.toList != ([61,61]:List UInt8))=true:=bne_iff_ne.mpr c8
      by_cases aq:a0.toList=([60]:List UInt8)
      ·rw [if_pos aq] at H
       have mw:(a0.toList == ([60]:List UInt8))=true:=beq_iff_eq.mpr aq
       have Ez:(a0.toList != ([60]:List UInt8))=false:=bne_eq_false_iff_eq.mpr aq
       clear aq
       by_cases c11:a1 < a2
       ·rw [if_pos c11] at H
        have GA:decide (a1 < a2)=true:=decide_eq_true c11
        clear c11
        obtain rfl:=Option.some.inj H
        go_enter Try.func104,Try.ntmps104
        go_wp2
        go_ret
        exact ⟨by first|rfl|(simp;done)|(simp [*];done),by repeat (first|exact jc.refl _|apply jc.step)⟩
       ·rw [if_neg c11] at H
        have GA:decide (a1 < a2)=false:=decide_eq_false c11
        clear c11
        obtain rfl:=Option.some.inj H
        go_enter Try.func104,Try.ntmps104
        go_wp2
        go_ret
        exact ⟨by first|rfl|(simp;done)|(simp [*];done),by repeat (first|exact jc.refl _|apply jc.step)⟩
      ·rw [if_neg aq] at H
       have mw:(a0.toList == ([60]:List UInt8))=false:=beq_eq_false_iff_ne.mpr aq
       have Ez:(a0.toList != ([60]:List UInt8))=true:=bne_iff_ne.mpr aq
       obtain rfl:=Option.some.inj H
       go_enter Try.func104,Try.ntmps104
       go_wp2
       go_ret
       exact ⟨by first|rfl|(simp;done)|(simp [*];done),by repeat (first|exact jc.refl _|apply jc.step)⟩
mutual
def Ib.j0:Nat→ByteArray→Bool→Int→Int→Int→Int→Option (Int × Int × Bool)
 | 0,_,_,_,_,_,_=>none
 | k + 1,x0,x8,x102000,x102001,x103000,x103001=>if x8=true then ((lq.f x0 x102001 x103001).bind fun t104=>(some ((-1),t104,true))) else (if x0.toList=([43]:List UInt8) then (Ib.j1 k x0 (x102000 == (-1)) x102000 x102001 x103000 x103001) else (Ib.j1 k x0 false x102000 x102001 x103000 x103001))
def Ib.j1:Nat→ByteArray→Bool→Int→Int→Int→Int→Option (Int × Int × Bool)
 | 0,_,_,_,_,_,_=>none
 | k + 1,x0,x24,x102000,x102001,x103000,x103001=>if x24=true then (some (x103000,wrap64 (x102001 + x103001),true)) else (if x0.toList=([43]:List UInt8) then (Ib.j2 k x0 (x103000 == (-1)) x102000 x102001 x103000 x103001) else (Ib.j2 k x0 false x102000 x102001 x103000 x103001))
def Ib.j2:Nat→ByteArray→Bool→Int→Int→Int→Int→Option (Int × Int × Bool)
 | 0,_,_,_,_,_,_=>none
 | k + 1,x0,x40,x102000,x102001,x103000,x103001=>if x40=true then (some (x102000,wrap64 (x102001 + x103001),true)) else (if x0.toList=([45]:List UInt8) then (Ib.j3 k x0 (x103000 == (-1)) x102000 x102001 x103000 x103001) else (Ib.j3 k x0 false x102000 x102001 x103000 x103001))
def Ib.j3:Nat→ByteArray→Bool→Int→Int→Int→Int→Option (Int × Int × Bool)
 | 0,_,_,_,_,_,_=>none
 | k + 1,x0,x56,x102000,x102001,x103000,x103001=>if x56=true then (some (x102000,wrap64 (x102001 - x103001),true)) else (if x0.toList=([45]:List UInt8) then (if x102000=x103000 then (some ((-1),wrap64 (x102001 - x103001),true)) else (some (0,0,false))) else (some (0,0,false)))
end
def Ib.f (k:Nat) (a0:ByteArray) (nc:Int) (Lb:Int) (Rh:Int) (zi:Int):Option (Int × Int × Bool):=if nc=(-1) then (Ib.j0 k a0 (Rh == (-1)) nc Lb Rh zi) else (Ib.j0 k a0 false nc Lb Rh zi)
theorem Ib.Qd:∀ k,(∀ y0 y1 y2 y3 y4 y5,Nb (Ib.j0 k y0 y1 y2 y3 y4 y5) (Ib.j0 (k + 1) y0 y1 y2 y3 y4 y5))∧(∀ y0 y1 y2 y3 y4 y5,Nb (Ib.j1 k y0 y1 y2 y3 y4 y5) (Ib.j1 (k + 1) y0 y1 y2 y3 y4 y5))∧(∀ y0 y1 y2 y3 y4 y5,Nb (Ib.j2 k y0 y1 y2 y3 y4 y5) (Ib.j2 (k + 1) y0 y1 y2 y3 y4 y5))∧(∀ y0 y1 y2 y3 y4 y5,Nb (Ib.j3 k y0 y1 y2 y3 y4 y5) (Ib.j3 (k + 1) y0 y1 y2 y3 y4 y5))
 | 0=>⟨fun _ _ _ _ _ _ r h=>by simp [Ib.j0] at h,fun _ _ _ _ _ _ r h=>by simp [Ib.j1] at h,fun _ _ _ _ _ _ r h=>by simp [Ib.j2] at h,fun _ _ _ _ _ _ r h=>by simp [Ib.j3] at h⟩
 | k + 1=>by
  obtain ⟨Ff,ih1,ih2,ih3⟩:=Ib.Qd k
  refine ⟨?_,?_,?_,?_⟩
  ·intro y0 y1 y2 y3 y4 y5
   unfold Ib.j0
   repeat' first
   | (with_reducible exact Ff _ _ _ _ _ _)
   | (with_reducible exact ih1 _ _ _ _ _ _)
   | (with_reducible exact ih2 _ _ _ _ _ _)
   | (with_reducible exact ih3 _ _ _ _ _ _)
   | (with_reducible exact Nb.refl _)
   | (with_reducible exact Nb.none _)
   | (with_reducible refine Nb.ite ?_ ?_)
   | (with_reducible refine Nb.bind ?_ (fun _=>?_))
   | exact Ff _ _ _ _ _ _
   | exact ih1 _ _ _ _ _ _
   | exact ih2 _ _ _ _ _ _
   | exact ih3 _ _ _ _ _ _
   | exact Nb.none _
   | refine Nb.ite ?_ ?_
   | refine Nb.bind ?_ (fun _=>?_)
  ·intro y0 y1 y2 y3 y4 y5
   unfold Ib.j1
   repeat' first
   | (with_reducible exact Ff _ _ _ _ _ _)
   | (with_reducible exact ih1 _ _ _ _ _ _)
   | (with_reducible exact ih2 _ _ _ _ _ _)
   | (with_reducible exact ih3 _ _ _ _ _ _)
   | (with_reducible exact Nb.refl _)
   | (with_reducible exact Nb.none _)
   | (with_reducible refine Nb.ite ?_ ?_)
   | (with_reducible refine Nb.bind ?_ (fun _=>?_))
   | exact Ff _ _ _ _ _ _
   | exact ih1 _ _ _ _ _ _
   | exact ih2 _ _ _ _ _ _
   | exact ih3 _ _ _ _ _ _
   | exact Nb.none _
   | refine Nb.ite ?_ ?_
   | refine Nb.bind ?_ (fun _=>?_)
  ·intro y0 y1 y2 y3 y4 y5
   unfold Ib.j2
   repeat' first
   | (with_reducible exact Ff _ _ _ _ _ _)
   | (with_reducible exact ih1 _ _ _ _ _ _)
   | (with_reducible exact ih2 _ _ _ _ _ _)
   | (with_reducible exact ih3 _ _ _ _ _ _)
   | (with_reducible exact Nb.refl _)
   | (with_reducible exact Nb.none _)
   | (with_reducible refine Nb.ite ?_ ?_)
   | (with_reducible refine Nb.bind ?_ (fun _=>?_))
   | exact Ff _ _ _ _ _ _
   | exact ih1 _ _ _ _ _ _
   | exact ih2 _ _ _ _ _ _
   | exact ih3 _ _ _ _ _ _
   | exact Nb.none _
   | refine Nb.ite ?_ ?_
   | refine Nb.bind ?_ (fun _=>?_)
  ·intro y0 y1 y2 y3 y4 y5
   unfold Ib.j3
   repeat' first
   | (with_reducible exact Ff _ _ _ _ _ _)
   | (with_reducible exact ih1 _ _ _ _ _ _)
   | (with_reducible exact ih2 _ _ _ _ _ _)
   | (with_reducible exact ih3 _ _ _ _ _ _)
   | (with_reducible exact Nb.refl _)
   | (with_reducible exact Nb.none _)
   | (with_reducible refine Nb.ite ?_ ?_)
   | (with_reducible refine Nb.bind ?_ (fun _=>?_))
   | exact Ff _ _ _ _ _ _
   | exact ih1 _ _ _ _ _ _
   | exact ih2 _ _ _ _ _ _
   | exact ih3 _ _ _ _ _ _
   | exact Nb.none _
   | refine Nb.ite ?_ ?_
   | refine Nb.bind ?_ (fun _=>?_)
theorem Ib.mono:∀ a0 a1 a2 a3 a4 k,Nb (Ib.f k a0 a1 a2 a3 a4) (Ib.f (k + 1) a0 a1 a2 a3 a4):=by
 intro a0 a1 a2 a3 a4 k
 obtain ⟨Ff,ih1,ih2,ih3⟩:=Ib.Qd k
 unfold Ib.f
 repeat' first
   | (with_reducible exact Ff _ _ _ _ _ _)
   | (with_reducible exact ih1 _ _ _ _ _ _)
   | (with_reducible exact ih2 _ _ _ _ _ _)
   | (with_reducible exact ih3 _ _ _ _ _ _)
   | (with_reducible exact Nb.refl _)
   | (with_reducible exact Nb.none _)
   | (with_reducible refine Nb.ite ?_ ?_)
   | (with_reducible refine Nb.bind ?_ (fun _=>?_))
   | exact Ff _ _ _ _ _ _
   | exact ih1 _ _ _ _ _ _
   | exact ih2 _ _ _ _ _ _
   | exact ih3 _ _ _ _ _ _
   | exact Nb.none _
   | refine Nb.ite ?_ ?_
   | refine Nb.bind ?_ (fun _=>?_)
theorem Ib.calls (k:Nat) (a0:ByteArray) (nc:Int) (Lb:Int) (Rh:Int) (zi:Int) (r1:Int) (r2:Int) (r3:Bool) (w:World) (h:Ib.f k a0 nc Lb Rh zi=some (r1,r2,r3)) :
  Calls Try.prog 106 #[.string a0,.agg #[.int .i64 nc,.int .i64 Lb],.agg #[.int .i64 Rh,.int .i64 zi]] w fun e w'=>e = .returned (.tuple #[.agg #[.int .i64 r1,.int .i64 r2],.bool r3])∧Below w.heap.size w w':=by
 have Xad:=Try.underlying77
 have HB:=ja.mk (Below.refl w.heap.size w)
 have H:(if nc=(-1) then (Ib.j0 k a0 (Rh == (-1)) nc Lb Rh zi) else (Ib.j0 k a0 false nc Lb Rh zi))=some (r1,r2,r3):=h
 clear h
 have rD:=ja.mk H
 clear H
 go_enter Try.func106,Try.ntmps106
 go_upto_region 1 with (first|((with_reducible refine Pb (N:=4) rfl ?_);refine Kb ?hg (N:=4) ?hd (cs:=#[.int .i64 nc,.int .i64 Lb]) (t:=77) ?hr ?_;(case hd=>rfl);(case hg=>rfl);(case hr=>first|(go_simp;done)|(go_simp;rfl));intro Da hg w5 Yb hb;have Qb:=ja.mk (Na (by repeat (first|(with_reducible first|exact HB.out|apply qa|apply ia|apply ua)|exact HB.out)) hb);have uc:=ja.mk (Yb);have Qc:=ja.mk ((by rw [hg];exact (Qa (by repeat (first|(with_reducible first|exact HB.out|apply qa|apply ia|apply ua)|exact HB.out))):w.heap.size ≤ Da));have Td:=ja.mk ((by rw [hg];exact (Qa (by repeat (first|(with_reducible first|exact HB.out|apply qa|apply ia|apply ua)|exact HB.out))):w.heap.size ≤ Da));clear HB;have HB:=Qb;have za:=uc;have Vf:=Qc;have Wa:=Td;clear Qb uc Qc Td hb Yb hg)|((with_reducible refine Pb (N:=5) rfl ?_);refine Kb ?hg (N:=5) ?hd (cs:=#[.int .i64 Rh,.int .i64 zi]) (t:=77) ?hr ?_;(case hd=>rfl);(case hg=>rfl);(case hr=>first|(go_simp;done)|(go_simp;rfl));intro Ja hg w6 Yb hb;have Qb:=ja.mk (Ya (g:=Da) (o:=.cells #[.int .i64 nc,.int .i64 Lb] 77 (0,0)) (by (with_reducible repeat (first|refine Ga ?_ _|refine Ia ?_|refine Fa ?_ _));exact za.out) hb);have uc:=ja.mk (Na (by repeat (first|(with_reducible first|exact HB.out|apply qa|apply ia|apply ua|refine Aa ?_ Wa.out)|exact HB.out)) hb);have Qc:=ja.mk (Yb);have Td:=ja.mk ((by rw [hg];exact (Qa (by repeat (first|(with_reducible first|exact HB.out|apply qa|apply ia|apply ua|refine Aa ?_ Wa.out)|exact HB.out))):w.heap.size ≤ Ja));have dh:=ja.mk ((by rw [hg];exact (Qa (by repeat (first|(with_reducible first|exact HB.out|apply qa|apply ia|apply ua|refine Aa ?_ Wa.out)|exact HB.out))):w.heap.size ≤ Ja));have Eh:=ja.mk ((by rw [hg];exact Nat.ne_of_lt (Pc (g:=Da) (o:=.cells #[.int .i64 nc,.int .i64 Lb] 77 (0,0)) (by (with_reducible repeat (first|refine Ga ?_ _|refine Ia ?_|refine Fa ?_ _));exact za.out)):Da ≠ Ja));have Kh:=ja.mk ((by rw [hg];exact Nat.ne_of_gt (Pc (g:=Da) (o:=.cells #[.int .i64 nc,.int .i64 Lb] 77 (0,0)) (by (with_reducible repeat (first|refine Ga ?_ _|refine Ia ?_|refine Fa ?_ _));exact za.out)):Ja ≠ Da));clear za HB;have za:=Qb;have HB:=uc;have Ba:=Qc;have Ci:=Td;have Dc:=dh;have qb:=Eh;have mb:=Kh;clear Qb uc Qc Td dh Eh Kh hb Yb hg)|((with_reducible refine Pb (N:=6) rfl ?_);refine Kb ?hg (N:=6) ?hd (cs:=#[.int .i64 0,.int .i64 0]) (t:=77) ?hr ?_;(case hd=>rfl);(case hg=>rfl);(case hr=>first|(go_simp;done)|(go_simp;rfl));intro we hg w7 Yb hb;have Qb:=ja.mk (Ya (g:=Da) (o:=.cells #[.int .i64 nc,.int .i64 Lb] 77 (0,0)) (by (with_reducible repeat (first|refine Ga ?_ _|refine Ia ?_|refine Fa ?_ _));exact za.out) hb);have uc:=ja.mk (Ya (g:=Ja) (o:=.cells #[.int .i64 Rh,.int .i64 zi] 77 (0,0)) (by (with_reducible repeat (first|refine Ga ?_ _|refine Ia ?_|refine Fa ?_ _));exact Ba.out) hb);have Qc:=ja.mk (Na (by repeat (first|(with_reducible first|exact HB.out|apply qa|apply ia|apply ua|refine Aa ?_ Wa.out|refine Aa ?_ Dc.out)|exact HB.out)) hb);have Td:=ja.mk (Yb);have dh:=ja.mk ((by rw [hg];exact (Qa (by repeat (first|(with_reducible first|exact HB.out|apply qa|apply ia|apply ua|refine Aa ?_ Wa.out|refine Aa ?_ Dc.out)|exact HB.out))):w.heap.size ≤ we));have Eh:=ja.mk ((by rw [hg];exact (Qa (by repeat (first|(with_reducible first|exact HB.out|apply qa|apply ia|apply ua|refine Aa ?_ Wa.out|refine Aa ?_ Dc.out)|exact HB.out))):w.heap.size ≤ we));have Kh:=ja.mk ((by rw [hg];exact Nat.ne_of_lt (Pc (g:=Da) (o:=.cells #[.int .i64 nc,.int .i64 Lb] 77 (0,0)) (by (with_reducible repeat (first|refine Ga ?_ _|refine Ia ?_|refine Fa ?_ _));exact za.out)):Da ≠ we));have PK:=ja.mk ((by rw [hg];exact Nat.ne_of_gt (Pc (g:=Da) (o:=.cells #[.int .i64 nc,.int .i64 Lb] 77 (0,0)) (by (with_reducible repeat (first|refine Ga ?_ _|refine Ia ?_|refine Fa ?_ _));exact za.out)):we ≠ Da));have OK:=ja.mk ((by rw [hg];exact Nat.ne_of_lt (Pc (g:=Ja) (o:=.cells #[.int .i64 Rh,.int .i64 zi] 77 (0,0)) (by (with_reducible repeat (first|refine Ga ?_ _|refine Ia ?_|refine Fa ?_ _));exact Ba.out)):Ja ≠ we));have NK:=ja.mk ((by rw [hg];exact Nat.ne_of_gt (Pc (g:=Ja) (o:=.cells #[.int .i64 Rh,.int .i64 zi] 77 (0,0)) (by (with_reducible repeat (first|refine Ga ?_ _|refine Ia ?_|refine Fa ?_ _));exact Ba.out)):we ≠ Ja));clear za Ba HB;have za:=Qb;have Ba:=uc;have HB:=Qc;have Ld:=Td;have LM:=dh;have Mi:=Eh;have Fg:=Kh;have Ah:=PK;have Ke:=OK;have zh:=NK;clear Qb uc Qc Td dh Eh Kh PK OK NK hb Yb hg))
 (try simp only [Act.put,List.setIfInBounds_toArray,List.set_cons_zero,List.set_cons_succ])
 go_cut [8] (fun v8 wc=>∃ (kq:Nat) (eN:Bool),v8 = .bool eN∧ja (Ib.j0 kq a0 eN nc Lb Rh zi=some (r1,r2,r3))∧ja (kq ≤ k)∧ja (wc.heap[Da]? = some (.cells #[.int .i64 nc,.int .i64 Lb] 77 (0,0)))∧ja (wc.heap[Ja]? = some (.cells #[.int .i64 Rh,.int .i64 zi] 77 (0,0)))∧ja (wc.heap[we]? = some (.cells #[.int .i64 0,.int .i64 0] 77 (0,0)))∧ja (Below w.heap.size w wc))
 case first =>
  have H:=rD.out
  clear rD
  by_cases c8:nc=(-1)
  ·rw [if_pos c8] at H
   have Yl:(nc == (-1))=true:=beq_iff_eq.mpr c8
   have sq:(nc != (-1))=false:=bne_eq_false_iff_eq.mpr c8
   clear c8
   (first|rw [Yl]|(simp only [Bb,Cb];rw [Yl])|skip)
   have H':=ja.mk H
   clear H
   have kT:=qb.out
   have jT:=mb.out
   have fai:=Fg.out
   have sah:=Ah.out
   have cl:w7.cell? ⟨Da,0,none⟩=some (.int .i64 nc):=(ga za.out 0).trans rfl
   have Zk:w7.cell? ⟨Da,1,none⟩=some (.int .i64 Lb):=(ga za.out 1).trans rfl
   have Vk:=aa za.out 0
   have Uk:=aa za.out 1
   have mL:=Ke.out
   have kL:=zh.out
   have Qj:w7.cell? ⟨Ja,0,none⟩=some (.int .i64 Rh):=(ga Ba.out 0).trans rfl
   have Pj:w7.cell? ⟨Ja,1,none⟩=some (.int .i64 zi):=(ga Ba.out 1).trans rfl
   have Oj:=aa Ba.out 0
   have Mj:=aa Ba.out 1
   go_wp2
   go_meet
   case rel=>exact ⟨_,((Rh == (-1))),(by first|rfl|(simp;done)|(simp [*];done)),H',⟨by first|omega|exact Nat.le_refl _⟩,⟨by (with_reducible repeat (first|refine Ga ?_ _|refine Ia ?_|refine Fa ?_ _));exact za.out⟩,⟨by (with_reducible repeat (first|refine Ga ?_ _|refine Ia ?_|refine Fa ?_ _));exact Ba.out⟩,⟨by (with_reducible repeat (first|refine Ga ?_ _|refine Ia ?_|refine Fa ?_ _));exact Ld.out⟩,⟨by repeat (first|(with_reducible first|exact HB.out|apply qa|apply ia|apply ua|refine Aa ?_ Wa.out|refine Aa ?_ Dc.out|refine Aa ?_ Mi.out)|exact HB.out)⟩⟩
  ·rw [if_neg c8] at H
   have Yl:(nc == (-1))=false:=beq_eq_false_iff_ne.mpr c8
   have sq:(nc != (-1))=true:=bne_iff_ne.mpr c8
   (first|rw [Yl]|(simp only [Bb,Cb];rw [Yl])|skip)
   have H':=ja.mk H
   clear H
   have QW:=qb.out
   have zW:=mb.out
   have PW:=Fg.out
   have xW:=Ah.out
   have Em:w7.cell? ⟨Da,0,none⟩=some (.int .i64 nc):=(ga za.out 0).trans rfl
   have Dm:w7.cell? ⟨Da,1,none⟩=some (.int .i64 Lb):=(ga za.out 1).trans rfl
   have Cm:=aa za.out 0
   have Bm:=aa za.out 1
   go_wp2
   go_meet
   case rel=>exact ⟨_,(false),(by first|rfl|(simp;done)|(simp [*];done)),H',⟨by first|omega|exact Nat.le_refl _⟩,⟨by (with_reducible repeat (first|refine Ga ?_ _|refine Ia ?_|refine Fa ?_ _));exact za.out⟩,⟨by (with_reducible repeat (first|refine Ga ?_ _|refine Ia ?_|refine Fa ?_ _));exact Ba.out⟩,⟨by (with_reducible repeat (first|refine Ga ?_ _|refine Ia ?_|refine Fa ?_ _));exact Ld.out⟩,⟨by repeat (first|(with_reducible first|exact HB.out|apply qa|apply ia|apply ua|refine Aa ?_ Wa.out|refine Aa ?_ Dc.out|refine Aa ?_ Mi.out)|exact HB.out)⟩⟩
 case rest =>
  clear rD
  try clear c1
  try clear p2
  try clear c8
  try clear Yl
  try clear sq
  try clear c9
  try clear aq
  try clear c12
  try clear c14
  try clear c15
  try clear cl
  try clear Zk
  try clear Qj
  try clear Pj
  try clear Em
  try clear Dm
  try clear Vk
  try clear Uk
  try clear Oj
  try clear Mj
  try clear Cm
  try clear Bm
  obtain ⟨kq,eN,rfl,HA,sV,za,Ba,Ld,HB⟩:=hcut
  cases kq with
  | zero=>exact absurd HA.out (by simp [Ib.j0])
  | succ kj3 =>
   have H:=HA.out
   clear HA
   simp only [Ib.j0] at H
   by_cases c17:eN=true
   ·subst c17
    have H1:((lq.f a0 Lb zi).bind fun t104=>(some ((-1),t104,true)))=some (r1,r2,r3):=by rw [if_pos rfl] at H;exact H
    clear H
    have H:=H1
    clear H1
    replace H:=Option.bind_eq_some_iff.mp H
    obtain ⟨t104,PM,H⟩:=H
    replace H:(some ((-1),t104,true))=some (r1,r2,r3):=H
    have qK:=ja.mk PM
    clear PM
    simp only [Option.some.injEq,Prod.mk.injEq] at H
    obtain ⟨rfl,rfl,rfl⟩:=H
    have bR:=qb.out
    have UQ:=mb.out
    have bai:=Fg.out
    have oah:=Ah.out
    have Dr:wc.cell? ⟨Da,0,none⟩=some (.int .i64 nc):=(ga za.out 0).trans rfl
    have Cr:wc.cell? ⟨Da,1,none⟩=some (.int .i64 Lb):=(ga za.out 1).trans rfl
    have Qq:=aa za.out 0
    have Pq:=aa za.out 1
    have aR:=Ke.out
    have TQ:=zh.out
    have Yk:wc.cell? ⟨Ja,0,none⟩=some (.int .i64 Rh):=(ga Ba.out 0).trans rfl
    have Xk:wc.cell? ⟨Ja,1,none⟩=some (.int .i64 zi):=(ga Ba.out 1).trans rfl
    have Tk:=aa Ba.out 0
    have Sk:=aa Ba.out 1
    go_wp2_with (first|((with_reducible refine xb (f:=104) rfl ?_);refine qd (some 22) rfl rfl Try.func104 (by kernel_rfl) rfl #[.string a0,.int .i64 Lb,.int .i64 zi] rfl (by (try simp only [List.map_toArray,List.map_cons,List.map_nil]);first|done|rfl|(simp only [List.length_drop,List.length_take];rfl)) ?_;(with_reducible refine (lq.calls a0 Lb zi t104 _ qK.out).mono ?_);rintro e w' ⟨rfl,⟨nd,rfl⟩⟩;refine ⟨_,rfl,?_⟩;(try (rw [VF wc];generalize hq_:World.drewN wc _=wc;have Qb:ja (wc.heap[Da]? = some (.cells #[.int .i64 nc,.int .i64 Lb] 77 (0,0))):=⟨by rw [← hq_];exact (by (with_reducible repeat (first|refine Ga ?_ _|refine Ia ?_|refine Fa ?_ _));exact za.out)⟩;have uc:ja (wc.heap[Ja]? = some (.cells #[.int .i64 Rh,.int .i64 zi] 77 (0,0))):=⟨by rw [← hq_];exact (by (with_reducible repeat (first|refine Ga ?_ _|refine Ia ?_|refine Fa ?_ _));exact Ba.out)⟩;have Qc:ja (wc.heap[we]? = some (.cells #[.int .i64 0,.int .i64 0] 77 (0,0))):=⟨by rw [← hq_];exact (by (with_reducible repeat (first|refine Ga ?_ _|refine Ia ?_|refine Fa ?_ _));exact Ld.out)⟩;have Td:ja (Below w.heap.size w wc):=⟨by rw [← hq_];exact (by repeat (first|(with_reducible first|exact HB.out|apply qa|apply ia|apply ua|refine Aa ?_ Wa.out|refine Aa ?_ Dc.out|refine Aa ?_ Mi.out)|exact HB.out))⟩;clear za Ba Ld HB hq_;have za:=Qb;have Ba:=uc;have Ld:=Qc;have HB:=Td;clear Qb uc Qc Td));have Un:wc.cell? ⟨we,0,none⟩=some (.int .i64 0):=(ga Ld.out 0).trans rfl;have Tn:wc.cell? ⟨we,1,none⟩=some (.int .i64 0):=(ga Ld.out 1).trans rfl;have Pn:=aa Ld.out 0;have Nn:=aa Ld.out 1))
    refine bodyPost_ret (vl rfl _ _ we 77 #[.int .i64 (-1),.int .i64 t104] (0,0) _ rfl (by (with_reducible repeat (first|refine Ga ?_ _|refine Ia ?_|refine Fa ?_ _));refine zb (cs:=#[.int .i64 (-1),.int .i64 0]) ?_ 1 _ rfl;(with_reducible repeat (first|refine Ga ?_ _|refine Ia ?_|refine Fa ?_ _));refine zb (cs:=#[.int .i64 0,.int .i64 0]) ?_ 0 _ rfl;(with_reducible repeat (first|refine Ga ?_ _|refine Ia ?_|refine Fa ?_ _));exact Ld.out) Try.underlying77 rfl (by kernel_rfl)) rfl ?_
    exact ⟨by first|rfl|(simp [La,Ka] <;> rfl)|(simp [*,La,Ka] <;> rfl),by repeat (first|(with_reducible first|exact HB.out|apply qa|apply ia|apply ua|refine Aa ?_ Wa.out|refine Aa ?_ Dc.out|refine Aa ?_ Mi.out)|exact HB.out)⟩
   ·replace c17:=Bool.eq_false_iff.mpr c17
    subst c17
    have H1:(if a0.toList=([43]:List UInt8) then (Ib.j1 kj3 a0 (nc == (-1)) nc Lb Rh zi) else (Ib.j1 kj3 a0 false nc Lb Rh zi))=some (r1,r2,r3):=by rw [if_neg (show ¬ (false=true) by decide)] at H;exact H
    clear H
    have H:=H1
    clear H1
    have VU:=ja.mk H
    clear H
    go_upto_region 3 with (fail)
    go_cut [24] (fun v24 wc=>∃ (kq:Nat) (PA:Bool),v24 = .bool PA∧ja (Ib.j1 kq a0 PA nc Lb Rh zi=some (r1,r2,r3))∧ja (kq ≤ kj3)∧ja (wc.heap[Da]? = some (.cells #[.int .i64 nc,.int .i64 Lb] 77 (0,0)))∧ja (wc.heap[Ja]? = some (.cells #[.int .i64 Rh,.int .i64 zi] 77 (0,0)))∧ja (wc.heap[we]? = some (.cells #[.int .i64 0,.int .i64 0] 77 (0,0)))∧ja (Below w.heap.size w wc))
    case first =>
     have H:=VU.out
     clear VU
     by_cases c26:a0.toList=([43]:List UInt8)
     ·rw [if_pos c26] at H
      have cx:(a0.toList == ([43]:List UInt8))=true:=beq_iff_eq.mpr c26
      have cJ:(a0.toList != ([43]:List UInt8))=false:=bne_eq_false_iff_eq.mpr c26
      clear c26
      (first|rw [cx]|(simp only [Bb,Cb];rw [cx])|skip)
      have H':=ja.mk H
      clear H
      have YQ:=qb.out
      have RQ:=mb.out
      have NW:=Fg.out
      have vW:=Ah.out
      have Gt:wc.cell? ⟨Da,0,none⟩=some (.int .i64 nc):=(ga za.out 0).trans rfl
      have Ft:wc.cell? ⟨Da,1,none⟩=some (.int .i64 Lb):=(ga za.out 1).trans rfl
      have ot:=aa za.out 0
      have jt:=aa za.out 1
      go_wp2
      go_meet
      case rel=>exact ⟨_,((nc == (-1))),(by first|rfl|(simp;done)|(simp [*];done)),H',⟨by have:=sV.out;first|omega|exact Nat.le_refl _⟩,⟨by (with_reducible repeat (first|refine Ga ?_ _|refine Ia ?_|refine Fa ?_ _));exact za.out⟩,⟨by (with_reducible repeat (first|refine Ga ?_ _|refine Ia ?_|refine Fa ?_ _));exact Ba.out⟩,⟨by (with_reducible repeat (first|refine Ga ?_ _|refine Ia ?_|refine Fa ?_ _));exact Ld.out⟩,⟨by repeat (first|(with_reducible first|exact HB.out|apply qa|apply ia|apply ua|refine Aa ?_ Wa.out|refine Aa ?_ Dc.out|refine Aa ?_ Mi.out)|exact HB.out)⟩⟩
     ·rw [if_neg c26] at H
      have cx:(a0.toList == ([43]:List UInt8))=false:=beq_eq_false_iff_ne.mpr c26
      have cJ:(a0.toList != ([43]:List UInt8))=true:=bne_iff_ne.mpr c26
      (first|rw [cx]|(simp only [Bb,Cb];rw [cx])|skip)
      have H':=ja.mk H
      clear H
      go_wp2
      go_meet
      case rel=>exact ⟨_,(false),(by first|rfl|(simp;done)|(simp [*];done)),H',⟨by have:=sV.out;first|omega|exact Nat.le_refl _⟩,⟨by (with_reducible repeat (first|refine Ga ?_ _|refine Ia ?_|refine Fa ?_ _));exact za.out⟩,⟨by (with_reducible repeat (first|refine Ga ?_ _|refine Ia ?_|refine Fa ?_ _));exact Ba.out⟩,⟨by (with_reducible repeat (first|refine Ga ?_ _|refine Ia ?_|refine Fa ?_ _));exact Ld.out⟩,⟨by repeat (first|(with_reducible first|exact HB.out|apply qa|apply ia|apply ua|refine Aa ?_ Wa.out|refine Aa ?_ Dc.out|refine Aa ?_ Mi.out)|exact HB.out)⟩⟩
    case rest =>
     clear VU
     try clear c1
     try clear c2
     try clear p2
     try clear c8
     try clear Yl
     try clear sq
     try clear c9
     try clear aq
     try clear c12
     try clear c14
     try clear c15
     try clear c17
     try clear c19
     try clear c20
     try clear c22
     try clear c26
     try clear cx
     try clear cJ
     try clear c27
     try clear c28
     try clear cl
     try clear Zk
     try clear Qj
     try clear Pj
     try clear Em
     try clear Dm
     try clear Dr
     try clear Cr
     try clear Yk
     try clear Xk
     try clear Un
     try clear Tn
     try clear Gt
     try clear Ft
     try clear Vk
     try clear Uk
     try clear Oj
     try clear Mj
     try clear Cm
     try clear Bm
     try clear Qq
     try clear Pq
     try clear Tk
     try clear Sk
     try clear Pn
     try clear Nn
     try clear ot
     try clear jt
     try clear p2
     obtain ⟨kq,PA,rfl,HA,wQ,za,Ba,Ld,HB⟩:=hcut
     cases kq with
     | zero=>exact absurd HA.out (by simp [Ib.j1])
     | succ kj24 =>
      have H:=HA.out
      clear HA
      simp only [Ib.j1] at H
      by_cases c30:PA=true
      ·subst c30
       have H1:(some (Rh,wrap64 (Lb + zi),true))=some (r1,r2,r3):=by rw [if_pos rfl] at H;exact H
       clear H
       have H:=H1
       clear H1
       simp only [Option.some.injEq,Prod.mk.injEq] at H
       obtain ⟨rfl,rfl,rfl⟩:=H
       have LW:=mb.out
       have tW:=qb.out
       have KW:=Ke.out
       have sW:=zh.out
       have vC:wc.cell? ⟨Ja,0,none⟩=some (.int .i64 Rh):=(ga Ba.out 0).trans rfl
       have uC:wc.cell? ⟨Ja,1,none⟩=some (.int .i64 zi):=(ga Ba.out 1).trans rfl
       have IB:=aa Ba.out 0
       have FB:=aa Ba.out 1
       have JW:=Fg.out
       have rW:=Ah.out
       have sy:wc.cell? ⟨Da,0,none⟩=some (.int .i64 nc):=(ga za.out 0).trans rfl
       have ry:wc.cell? ⟨Da,1,none⟩=some (.int .i64 Lb):=(ga za.out 1).trans rfl
       have Px:=aa za.out 0
       have Ox:=aa za.out 1
       have Fv:wc.cell? ⟨we,0,none⟩=some (.int .i64 0):=(ga Ld.out 0).trans rfl
       have Dv:wc.cell? ⟨we,1,none⟩=some (.int .i64 0):=(ga Ld.out 1).trans rfl
       have Ou:=aa Ld.out 0
       have Nu:=aa Ld.out 1
       go_wp2
       refine bodyPost_ret (vl rfl _ _ we 77 #[.int .i64 Rh,.int .i64 (wrap64 (Lb + zi))] (0,0) _ rfl (by (with_reducible repeat (first|refine Ga ?_ _|refine Ia ?_|refine Fa ?_ _));refine zb (cs:=#[.int .i64 Rh,.int .i64 0]) ?_ 1 _ rfl;(with_reducible repeat (first|refine Ga ?_ _|refine Ia ?_|refine Fa ?_ _));refine zb (cs:=#[.int .i64 0,.int .i64 0]) ?_ 0 _ rfl;(with_reducible repeat (first|refine Ga ?_ _|refine Ia ?_|refine Fa ?_ _));exact Ld.out) Try.underlying77 rfl (by kernel_rfl)) rfl ?_
       exact ⟨by first|rfl|(simp [La,Ka] <;> rfl)|(simp [*,La,Ka] <;> rfl),by repeat (first|(with_reducible first|exact HB.out|apply qa|apply ia|apply ua|refine Aa ?_ Wa.out|refine Aa ?_ Dc.out|refine Aa ?_ Mi.out)|exact HB.out)⟩
      ·replace c30:=Bool.eq_false_iff.mpr c30
       subst c30
       have H1:(if a0.toList=([43]:List UInt8) then (Ib.j2 kj24 a0 (Rh == (-1)) nc Lb Rh zi) else (Ib.j2 kj24 a0 false nc Lb Rh zi))=some (r1,r2,r3):=by rw [if_neg (show ¬ (false=true) by decide)] at H;exact H
       clear H
       have H:=H1
       clear H1
       have TU:=ja.mk H
       clear H
       go_upto_region 5 with (fail)
       go_cut [40] (fun v40 wc=>∃ (kq:Nat) (OA:Bool),v40 = .bool OA∧ja (Ib.j2 kq a0 OA nc Lb Rh zi=some (r1,r2,r3))∧ja (kq ≤ kj24)∧ja (wc.heap[Da]? = some (.cells #[.int .i64 nc,.int .i64 Lb] 77 (0,0)))∧ja (wc.heap[Ja]? = some (.cells #[.int .i64 Rh,.int .i64 zi] 77 (0,0)))∧ja (wc.heap[we]? = some (.cells #[.int .i64 0,.int .i64 0] 77 (0,0)))∧ja (Below w.heap.size w wc))
       case first =>
        have H:=TU.out
        clear TU
        by_cases c38:a0.toList=([43]:List UInt8)
        ·rw [if_pos c38] at H
         have Cz:(a0.toList == ([43]:List UInt8))=true:=beq_iff_eq.mpr c38
         have iM:(a0.toList != ([43]:List UInt8))=false:=bne_eq_false_iff_eq.mpr c38
         clear c38
         (first|rw [Cz]|(simp only [Bb,Cb];rw [Cz])|skip)
         have H':=ja.mk H
         clear H
         have XQ:=mb.out
         have OQ:=qb.out
         have Vah:=Ke.out
         have iah:=zh.out
         have gy:wc.cell? ⟨Ja,0,none⟩=some (.int .i64 Rh):=(ga Ba.out 0).trans rfl
         have cy:wc.cell? ⟨Ja,1,none⟩=some (.int .i64 zi):=(ga Ba.out 1).trans rfl
         have Ix:=aa Ba.out 0
         have Hx:=aa Ba.out 1
         go_wp2
         go_meet
         case rel=>exact ⟨_,((Rh == (-1))),(by first|rfl|(simp;done)|(simp [*];done)),H',⟨by have:=sV.out;have:=wQ.out;first|omega|exact Nat.le_refl _⟩,⟨by (with_reducible repeat (first|refine Ga ?_ _|refine Ia ?_|refine Fa ?_ _));exact za.out⟩,⟨by (with_reducible repeat (first|refine Ga ?_ _|refine Ia ?_|refine Fa ?_ _));exact Ba.out⟩,⟨by (with_reducible repeat (first|refine Ga ?_ _|refine Ia ?_|refine Fa ?_ _));exact Ld.out⟩,⟨by repeat (first|(with_reducible first|exact HB.out|apply qa|apply ia|apply ua|refine Aa ?_ Wa.out|refine Aa ?_ Dc.out|refine Aa ?_ Mi.out)|exact HB.out)⟩⟩
        ·rw [if_neg c38] at H
         have Cz:(a0.toList == ([43]:List UInt8))=false:=beq_eq_false_iff_ne.mpr c38
         have iM:(a0.toList != ([43]:List UInt8))=true:=bne_iff_ne.mpr c38
         (first|rw [Cz]|(simp only [Bb,Cb];rw [Cz])|skip)
         have H':=ja.mk H
         clear H
         go_wp2
         go_meet
         case rel=>exact ⟨_,(false),(by first|rfl|(simp;done)|(simp [*];done)),H',⟨by have:=sV.out;have:=wQ.out;first|omega|exact Nat.le_refl _⟩,⟨by (with_reducible repeat (first|refine Ga ?_ _|refine Ia ?_|refine Fa ?_ _));exact za.out⟩,⟨by (with_reducible repeat (first|refine Ga ?_ _|refine Ia ?_|refine Fa ?_ _));exact Ba.out⟩,⟨by (with_reducible repeat (first|refine Ga ?_ _|refine Ia ?_|refine Fa ?_ _));exact Ld.out⟩,⟨by repeat (first|(with_reducible first|exact HB.out|apply qa|apply ia|apply ua|refine Aa ?_ Wa.out|refine Aa ?_ Dc.out|refine Aa ?_ Mi.out)|exact HB.out)⟩⟩
       case rest =>
        clear TU
        try clear c1
        try clear c2
        try clear p2
        try clear c3
        try clear c4
        try clear p6
        try clear c8
        try clear Yl
        try clear sq
        try clear c9
        try clear aq
        try clear c12
        try clear c14
        try clear c15
        try clear c17
        try clear c19
        try clear c20
        try clear c22
        try clear c26
        try clear cx
        try clear cJ
        try clear c27
        try clear c28
        try clear c30
        try clear c31
        try clear c32
        try clear c34
        try clear c38
        try clear Cz
        try clear iM
        try clear c39
        try clear c40
        try clear cl
        try clear Zk
        try clear Qj
        try clear Pj
        try clear Em
        try clear Dm
        try clear Dr
        try clear Cr
        try clear Yk
        try clear Xk
        try clear Un
        try clear Tn
        try clear Gt
        try clear Ft
        try clear vC
        try clear uC
        try clear sy
        try clear ry
        try clear Fv
        try clear Dv
        try clear gy
        try clear cy
        try clear Vk
        try clear Uk
        try clear Oj
        try clear Mj
        try clear Cm
        try clear Bm
        try clear Qq
        try clear Pq
        try clear Tk
        try clear Sk
        try clear Pn
        try clear Nn
        try clear ot
        try clear jt
        try clear IB
        try clear FB
        try clear Px
        try clear Ox
        try clear Ou
        try clear Nu
        try clear Ix
        try clear Hx
        try clear p2
        obtain ⟨kq,OA,rfl,HA,V3,za,Ba,Ld,HB⟩:=hcut
        cases kq with
        | zero=>exact absurd HA.out (by simp [Ib.j2])
        | succ kj36 =>
         have H:=HA.out
         clear HA
         simp only [Ib.j2] at H
         by_cases c42:OA=true
         ·subst c42
          have H1:(some (nc,wrap64 (Lb + zi),true))=some (r1,r2,r3):=by rw [if_pos rfl] at H;exact H
          clear H
          have H:=H1
          clear H1
          simp only [Option.some.injEq,Prod.mk.injEq] at H
          obtain ⟨rfl,rfl,rfl⟩:=H
          have EW:=qb.out
          have nW:=mb.out
          have Tah:=Fg.out
          have gah:=Ah.out
          have dI:wc.cell? ⟨Da,0,none⟩=some (.int .i64 nc):=(ga za.out 0).trans rfl
          have cI:wc.cell? ⟨Da,1,none⟩=some (.int .i64 Lb):=(ga za.out 1).trans rfl
          have XG:=aa za.out 0
          have WG:=aa za.out 1
          have Sah:=Ke.out
          have fah:=zh.out
          have bI:wc.cell? ⟨Ja,0,none⟩=some (.int .i64 Rh):=(ga Ba.out 0).trans rfl
          have aI:wc.cell? ⟨Ja,1,none⟩=some (.int .i64 zi):=(ga Ba.out 1).trans rfl
          have VG:=aa Ba.out 0
          have UG:=aa Ba.out 1
          have Cv:wc.cell? ⟨we,0,none⟩=some (.int .i64 0):=(ga Ld.out 0).trans rfl
          have Bv:wc.cell? ⟨we,1,none⟩=some (.int .i64 0):=(ga Ld.out 1).trans rfl
          have Mu:=aa Ld.out 0
          have Lu:=aa Ld.out 1
          go_wp2
          refine bodyPost_ret (vl rfl _ _ we 77 #[.int .i64 nc,.int .i64 (wrap64 (Lb + zi))] (0,0) _ rfl (by (with_reducible repeat (first|refine Ga ?_ _|refine Ia ?_|refine Fa ?_ _));refine zb (cs:=#[.int .i64 nc,.int .i64 0]) ?_ 1 _ rfl;(with_reducible repeat (first|refine Ga ?_ _|refine Ia ?_|refine Fa ?_ _));refine zb (cs:=#[.int .i64 0,.int .i64 0]) ?_ 0 _ rfl;(with_reducible repeat (first|refine Ga ?_ _|refine Ia ?_|refine Fa ?_ _));exact Ld.out) Try.underlying77 rfl (by kernel_rfl)) rfl ?_
          exact ⟨by first|rfl|(simp [La,Ka] <;> rfl)|(simp [*,La,Ka] <;> rfl),by repeat (first|(with_reducible first|exact HB.out|apply qa|apply ia|apply ua|refine Aa ?_ Wa.out|refine Aa ?_ Dc.out|refine Aa ?_ Mi.out)|exact HB.out)⟩
         ·replace c42:=Bool.eq_false_iff.mpr c42
          subst c42
          have H1:(if a0.toList=([45]:List UInt8) then (Ib.j3 kj36 a0 (Rh == (-1)) nc Lb Rh zi) else (Ib.j3 kj36 a0 false nc Lb Rh zi))=some (r1,r2,r3):=by rw [if_neg (show ¬ (false=true) by decide)] at H;exact H
          clear H
          have H:=H1
          clear H1
          have SU:=ja.mk H
          clear H
          go_upto_region 7 with (fail)
          go_cut [56] (fun v56 wc=>∃ (kq:Nat) (MA:Bool),v56 = .bool MA∧ja (Ib.j3 kq a0 MA nc Lb Rh zi=some (r1,r2,r3))∧ja (kq ≤ kj36)∧ja (wc.heap[Da]? = some (.cells #[.int .i64 nc,.int .i64 Lb] 77 (0,0)))∧ja (wc.heap[Ja]? = some (.cells #[.int .i64 Rh,.int .i64 zi] 77 (0,0)))∧ja (wc.heap[we]? = some (.cells #[.int .i64 0,.int .i64 0] 77 (0,0)))∧ja (Below w.heap.size w wc))
          case first =>
           have H:=SU.out
           clear SU
           by_cases c50:a0.toList=([45]:List UInt8)
           ·rw [if_pos c50] at H
            have FA:(a0.toList == ([45]:List UInt8))=true:=beq_iff_eq.mpr c50
            have rR:(a0.toList != ([45]:List UInt8))=false:=bne_eq_false_iff_eq.mpr c50
            clear c50
            (first|rw [FA]|(simp only [Bb,Cb];rw [FA])|skip)
            have H':=ja.mk H
            clear H
            have VQ:=mb.out
            have MQ:=qb.out
            have Pah:=Ke.out
            have cah:=zh.out
            have UH:wc.cell? ⟨Ja,0,none⟩=some (.int .i64 Rh):=(ga Ba.out 0).trans rfl
            have TH:wc.cell? ⟨Ja,1,none⟩=some (.int .i64 zi):=(ga Ba.out 1).trans rfl
            have NG:=aa Ba.out 0
            have MG:=aa Ba.out 1
            go_wp2
            go_meet
            case rel=>exact ⟨_,((Rh == (-1))),(by first|rfl|(simp;done)|(simp [*];done)),H',⟨by have:=sV.out;have:=wQ.out;have:=V3.out;first|omega|exact Nat.le_refl _⟩,⟨by (with_reducible repeat (first|refine Ga ?_ _|refine Ia ?_|refine Fa ?_ _));exact za.out⟩,⟨by (with_reducible repeat (first|refine Ga ?_ _|refine Ia ?_|refine Fa ?_ _));exact Ba.out⟩,⟨by (with_reducible repeat (first|refine Ga ?_ _|refine Ia ?_|refine Fa ?_ _));exact Ld.out⟩,⟨by repeat (first|(with_reducible first|exact HB.out|apply qa|apply ia|apply ua|refine Aa ?_ Wa.out|refine Aa ?_ Dc.out|refine Aa ?_ Mi.out)|exact HB.out)⟩⟩
           ·rw [if_neg c50] at H
            have FA:(a0.toList == ([45]:List UInt8))=false:=beq_eq_false_iff_ne.mpr c50
            have rR:(a0.toList != ([45]:List UInt8))=true:=bne_iff_ne.mpr c50
            (first|rw [FA]|(simp only [Bb,Cb];rw [FA])|skip)
            have H':=ja.mk H
            clear H
            go_wp2
            go_meet
            case rel=>exact ⟨_,(false),(by first|rfl|(simp;done)|(simp [*];done)),H',⟨by have:=sV.out;have:=wQ.out;have:=V3.out;first|omega|exact Nat.le_refl _⟩,⟨by (with_reducible repeat (first|refine Ga ?_ _|refine Ia ?_|refine Fa ?_ _));exact za.out⟩,⟨by (with_reducible repeat (first|refine Ga ?_ _|refine Ia ?_|refine Fa ?_ _));exact Ba.out⟩,⟨by (with_reducible repeat (first|refine Ga ?_ _|refine Ia ?_|refine Fa ?_ _));exact Ld.out⟩,⟨by repeat (first|(with_reducible first|exact HB.out|apply qa|apply ia|apply ua|refine Aa ?_ Wa.out|refine Aa ?_ Dc.out|refine Aa ?_ Mi.out)|exact HB.out)⟩⟩
          case rest =>
           clear SU
           try clear c1
           try clear c2
           try clear p2
           try clear c3
           try clear c4
           try clear c5
           try clear p6
           try clear c8
           try clear Yl
           try clear sq
           try clear c9
           try clear aq
           try clear c12
           try clear c14
           try clear c15
           try clear c17
           try clear c19
           try clear c20
           try clear c22
           try clear c26
           try clear cx
           try clear cJ
           try clear c27
           try clear c28
           try clear c30
           try clear c31
           try clear c32
           try clear c34
           try clear c38
           try clear Cz
           try clear iM
           try clear c39
           try clear c40
           try clear c42
           try clear c43
           try clear c44
           try clear c46
           try clear c50
           try clear FA
           try clear rR
           try clear c51
           try clear c52
           try clear cl
           try clear Zk
           try clear Qj
           try clear Pj
           try clear Em
           try clear Dm
           try clear Dr
           try clear Cr
           try clear Yk
           try clear Xk
           try clear Un
           try clear Tn
           try clear Gt
           try clear Ft
           try clear vC
           try clear uC
           try clear sy
           try clear ry
           try clear Fv
           try clear Dv
           try clear gy
           try clear cy
           try clear dI
           try clear cI
           try clear bI
           try clear aI
           try clear Cv
           try clear Bv
           try clear UH
           try clear TH
           try clear Vk
           try clear Uk
           try clear Oj
           try clear Mj
           try clear Cm
           try clear Bm
           try clear Qq
           try clear Pq
           try clear Tk
           try clear Sk
           try clear Pn
           try clear Nn
           try clear ot
           try clear jt
           try clear IB
           try clear FB
           try clear Px
           try clear Ox
           try clear Ou
           try clear Nu
           try clear Ix
           try clear Hx
           try clear XG
           try clear WG
           try clear VG
           try clear UG
           try clear Mu
           try clear Lu
           try clear NG
           try clear MG
           try clear p2
           try clear p6
           obtain ⟨kq,MA,rfl,HA,Zak,za,Ba,Ld,HB⟩:=hcut
           cases kq with
           | zero=>exact absurd HA.out (by simp [Ib.j3])
           | succ kj48 =>
            have H:=HA.out
            clear HA
            simp only [Ib.j3] at H
            by_cases c54:MA=true
            ·subst c54
             have H1:(some (nc,wrap64 (Lb - zi),true))=some (r1,r2,r3):=by rw [if_pos rfl] at H;exact H
             clear H
             have H:=H1
             clear H1
             simp only [Option.some.injEq,Prod.mk.injEq] at H
             obtain ⟨rfl,rfl,rfl⟩:=H
             have Nah:=qb.out
             have aah:=mb.out
             have DW:=Fg.out
             have mW:=Ah.out
             have cP:wc.cell? ⟨Da,0,none⟩=some (.int .i64 nc):=(ga za.out 0).trans rfl
             have ZO:wc.cell? ⟨Da,1,none⟩=some (.int .i64 Lb):=(ga za.out 1).trans rfl
             have SN:=aa za.out 0
             have RN:=aa za.out 1
             have Lah:=Ke.out
             have Yag:=zh.out
             have lac:wc.cell? ⟨Ja,0,none⟩=some (.int .i64 Rh):=(ga Ba.out 0).trans rfl
             have kac:wc.cell? ⟨Ja,1,none⟩=some (.int .i64 zi):=(ga Ba.out 1).trans rfl
             have C9:=aa Ba.out 0
             have z9:=aa Ba.out 1
             have RO:wc.cell? ⟨we,0,none⟩=some (.int .i64 0):=(ga Ld.out 0).trans rfl
             have QO:wc.cell? ⟨we,1,none⟩=some (.int .i64 0):=(ga Ld.out 1).trans rfl
             have KN:=aa Ld.out 0
             have JN:=aa Ld.out 1
             go_wp2
             refine bodyPost_ret (vl rfl _ _ we 77 #[.int .i64 nc,.int .i64 (wrap64 (Lb - zi))] (0,0) _ rfl (by (with_reducible repeat (first|refine Ga ?_ _|refine Ia ?_|refine Fa ?_ _));refine zb (cs:=#[.int .i64 nc,.int .i64 0]) ?_ 1 _ rfl;(with_reducible repeat (first|refine Ga ?_ _|refine Ia ?_|refine Fa ?_ _));refine zb (cs:=#[.int .i64 0,.int .i64 0]) ?_ 0 _ rfl;(with_reducible repeat (first|refine Ga ?_ _|refine Ia ?_|refine Fa ?_ _));exact Ld.out) Try.underlying77 rfl (by kernel_rfl)) rfl ?_
             exact ⟨by first|rfl|(simp [La,Ka] <;> rfl)|(simp [*,La,Ka] <;> rfl),by repeat (first|(with_reducible first|exact HB.out|apply qa|apply ia|apply ua|refine Aa ?_ Wa.out|refine Aa ?_ Dc.out|refine Aa ?_ Mi.out)|exact HB.out)⟩
            ·replace c54:=Bool.eq_false_iff.mpr c54
             subst c54
             have H1:(if a0.toList=([45]:List UInt8) then (if nc=Rh then (some ((-1),wrap64 (Lb - zi),true)) else (some (0,0,false))) else (some (0,0,false)))=some (r1,r2,r3):=by rw [if_neg (show ¬ (false=true) by decide)] at H;exact H
             clear H
             have H:=H1
             clear H1
             by_cases c61:a0.toList=([45]:List UInt8)
             ·rw [if_pos c61] at H
              have X1:(a0.toList == ([45]:List UInt8))=true:=beq_iff_eq.mpr c61
              have V1:(a0.toList != ([45]:List UInt8))=false:=bne_eq_false_iff_eq.mpr c61
              clear c61
              by_cases c62:nc=Rh
              ·rw [if_pos c62] at H
               have U1:(nc == Rh)=true:=beq_iff_eq.mpr c62
               have T1:(nc != Rh)=false:=bne_eq_false_iff_eq.mpr c62
               clear c62
               simp only [Option.some.injEq,Prod.mk.injEq] at H
               obtain ⟨rfl,rfl,rfl⟩:=H
               have CW:=qb.out
               have lW:=mb.out
               have Iah:=Fg.out
               have Vag:=Ah.out
               have Pab:wc.cell? ⟨Da,0,none⟩=some (.int .i64 nc):=(ga za.out 0).trans rfl
               have Oab:wc.cell? ⟨Da,1,none⟩=some (.int .i64 Lb):=(ga za.out 1).trans rfl
               have M8:=aa za.out 0
               have L8:=aa za.out 1
               have Hah:=Ke.out
               have Uag:=zh.out
               have Nab:wc.cell? ⟨Ja,0,none⟩=some (.int .i64 Rh):=(ga Ba.out 0).trans rfl
               have Mab:wc.cell? ⟨Ja,1,none⟩=some (.int .i64 zi):=(ga Ba.out 1).trans rfl
               have K8:=aa Ba.out 0
               have J8:=aa Ba.out 1
               have Lab:wc.cell? ⟨we,0,none⟩=some (.int .i64 0):=(ga Ld.out 0).trans rfl
               have Kab:wc.cell? ⟨we,1,none⟩=some (.int .i64 0):=(ga Ld.out 1).trans rfl
               have I8:=aa Ld.out 0
               have H8:=aa Ld.out 1
               go_wp2
               refine bodyPost_ret (vl rfl _ _ we 77 #[.int .i64 (-1),.int .i64 (wrap64 (Lb - zi))] (0,0) _ rfl (by (with_reducible repeat (first|refine Ga ?_ _|refine Ia ?_|refine Fa ?_ _));refine zb (cs:=#[.int .i64 (-1),.int .i64 0]) ?_ 1 _ rfl;(with_reducible repeat (first|refine Ga ?_ _|refine Ia ?_|refine Fa ?_ _));refine zb (cs:=#[.int .i64 0,.int .i64 0]) ?_ 0 _ rfl;(with_reducible repeat (first|refine Ga ?_ _|refine Ia ?_|refine Fa ?_ _));exact Ld.out) Try.underlying77 rfl (by kernel_rfl)) rfl ?_
               exact ⟨by first|rfl|(simp [La,Ka] <;> rfl)|(simp [*,La,Ka] <;> rfl),by repeat (first|(with_reducible first|exact HB.out|apply qa|apply ia|apply ua|refine Aa ?_ Wa.out|refine Aa ?_ Dc.out|refine Aa ?_ Mi.out)|exact HB.out)⟩
              ·rw [if_neg c62] at H
               have U1:(nc == Rh)=false:=beq_eq_false_iff_ne.mpr c62
               have T1:(nc != Rh)=true:=bne_iff_ne.mpr c62
               simp only [Option.some.injEq,Prod.mk.injEq] at H
               obtain ⟨rfl,rfl,rfl⟩:=H
               have Gah:=qb.out
               have Sag:=mb.out
               have Fah:=Fg.out
               have Rag:=Ah.out
               have Jab:wc.cell? ⟨Da,0,none⟩=some (.int .i64 nc):=(ga za.out 0).trans rfl
               have Iab:wc.cell? ⟨Da,1,none⟩=some (.int .i64 Lb):=(ga za.out 1).trans rfl
               have G8:=aa za.out 0
               have F8:=aa za.out 1
               have Dah:=Ke.out
               have Pag:=zh.out
               have Aab:wc.cell? ⟨Ja,0,none⟩=some (.int .i64 Rh):=(ga Ba.out 0).trans rfl
               have zab:wc.cell? ⟨Ja,1,none⟩=some (.int .i64 zi):=(ga Ba.out 1).trans rfl
               have l8:=aa Ba.out 0
               have j8:=aa Ba.out 1
               have yab:wc.cell? ⟨we,0,none⟩=some (.int .i64 0):=(ga Ld.out 0).trans rfl
               have xab:wc.cell? ⟨we,1,none⟩=some (.int .i64 0):=(ga Ld.out 1).trans rfl
               have e8:=aa Ld.out 0
               have Z7:=aa Ld.out 1
               go_wp2
               refine bodyPost_ret (vl rfl _ _ we 77 #[.int .i64 0,.int .i64 0] (0,0) _ rfl (by (with_reducible repeat (first|refine Ga ?_ _|refine Ia ?_|refine Fa ?_ _));refine zb (cs:=#[.int .i64 0,.int .i64 0]) ?_ 1 _ rfl;(with_reducible repeat (first|refine Ga ?_ _|refine Ia ?_|refine Fa ?_ _));refine zb (cs:=#[.int .i64 0,.int .i64 0]) ?_ 0 _ rfl;(with_reducible repeat (first|refine Ga ?_ _|refine Ia ?_|refine Fa ?_ _));exact Ld.out) Try.underlying77 rfl (by kernel_rfl)) rfl ?_
               exact ⟨by first|rfl|(simp [La,Ka] <;> rfl)|(simp [*,La,Ka] <;> rfl),by repeat (first|(with_reducible first|exact HB.out|apply qa|apply ia|apply ua|refine Aa ?_ Wa.out|refine Aa ?_ Dc.out|refine Aa ?_ Mi.out)|exact HB.out)⟩
             ·rw [if_neg c61] at H
              have X1:(a0.toList == ([45]:List UInt8))=false:=beq_eq_false_iff_ne.mpr c61
              have V1:(a0.toList != ([45]:List UInt8))=true:=bne_iff_ne.mpr c61
              simp only [Option.some.injEq,Prod.mk.injEq] at H
              obtain ⟨rfl,rfl,rfl⟩:=H
              have Cah:=Ah.out
              have Oag:=Fg.out
              have Bah:=zh.out
              have Nag:=Ke.out
              have oab:wc.cell? ⟨we,0,none⟩=some (.int .i64 0):=(ga Ld.out 0).trans rfl
              have mab:wc.cell? ⟨we,1,none⟩=some (.int .i64 0):=(ga Ld.out 1).trans rfl
              have P7:=aa Ld.out 0
              have O7:=aa Ld.out 1
              go_wp2
              refine bodyPost_ret (vl rfl _ _ we 77 #[.int .i64 0,.int .i64 0] (0,0) _ rfl (by (with_reducible repeat (first|refine Ga ?_ _|refine Ia ?_|refine Fa ?_ _));refine zb (cs:=#[.int .i64 0,.int .i64 0]) ?_ 1 _ rfl;(with_reducible repeat (first|refine Ga ?_ _|refine Ia ?_|refine Fa ?_ _));refine zb (cs:=#[.int .i64 0,.int .i64 0]) ?_ 0 _ rfl;(with_reducible repeat (first|refine Ga ?_ _|refine Ia ?_|refine Fa ?_ _));exact Ld.out) Try.underlying77 rfl (by kernel_rfl)) rfl ?_
              exact ⟨by first|rfl|(simp [La,Ka] <;> rfl)|(simp [*,La,Ka] <;> rfl),by repeat (first|(with_reducible first|exact HB.out|apply qa|apply ia|apply ua|refine Aa ?_ Wa.out|refine Aa ?_ Dc.out|refine Aa ?_ Mi.out)|exact HB.out)⟩
def Mc.v (k:Nat) (Yc:Int) (Pa:Int) (Oa:Int) (Ma:Int) (Vc:Int) (ke:Int) (Le:ByteArray) (l1:List ko) (a2:Int):Option (Option (ko × Int)) :=
 if Yc=0 then some (some (⟨-1,ke⟩,a2))
 else if Yc=1 then if 0 ≤ Oa∧Oa < (l1.length:Int) then some (some (Xb l1 Oa,a2)) else none
 else if Yc=2 then
  if (0 ≤ Oa∧Oa < (l1.length:Int))∧(0 ≤ Ma∧Ma < (l1.length:Int)) then
   (Ib.f k Le (Xb l1 Oa).f0 (Xb l1 Oa).f1 (Xb l1 Ma).f0 (Xb l1 Ma).f1).bind fun t=>some (some (if t.2.2=true then (⟨t.1,t.2.1⟩,a2) else (⟨a2,0⟩,wrap64 (a2 + 1))))
  else none
 else if Yc=3 ∨ Yc=5 then some (some (⟨a2,0⟩,wrap64 (a2 + 1)))
 else some none
def Mc.f (k:Nat) (Yc:Int) (Pa:Int) (Oa:Int) (Ma:Int) (Vc:Int) (ke:Int) (Le:ByteArray) (l1:List ko) (a2:Int):Option (Int × List ko) :=
 (Mc.v k Yc Pa Oa Ma Vc ke Le l1 a2).bind fun o=>match o with
  | none=>some (a2,l1)
  | some t=>if 0 ≤ Pa∧Pa < (l1.length:Int) then some (t.2,l1.set Pa.toNat t.1) else none
theorem Mc.mono:∀ a0 a1 a2 a3 a4 a5 a6 a7 a8 k,Nb (Mc.f k a0 a1 a2 a3 a4 a5 a6 a7 a8) (Mc.f (k + 1) a0 a1 a2 a3 a4 a5 a6 a7 a8):=by
 intro a0 a1 a2 a3 a4 a5 a6 a7 a8 k
 unfold Mc.f Mc.v
 refine Nb.bind ?_ (fun _=>Nb.refl _)
 repeat' first
   | (with_reducible exact Ib.mono _ _ _ _ _ _)
   | (with_reducible exact Nb.refl _)
   | (with_reducible exact Nb.none _)
   | (with_reducible refine Nb.bind ?_ (fun _=>Nb.refl _))
   | split
theorem Mc.calls (k:Nat) (Yc:Int) (Pa:Int) (Oa:Int) (Ma:Int) (Vc:Int) (ke:Int) (Le:ByteArray) (pV:Nat→Prop) (bh:Value) (l1:List ko) (a2:Int) (r1:Int) (r2:List ko) (w0 w:World) (hB:Below w0.heap.size w0 w) (iT:Kd.R GG 77 w w0.heap.size pV bh l1) (h:Mc.f k Yc Pa Oa Ma Vc ke Le l1 a2=some (r1,r2)) :
  Calls Try.prog 78 #[.agg #[.int .i64 Yc,.int .i64 Pa,.int .i64 Oa,.int .i64 Ma,.int .i64 Vc,.int .i64 ke,.string Le],bh,.int .i64 a2] w fun e w'=>e = .returned (.int .i64 r1)∧Kd.R GG 77 w' w0.heap.size (fun k_=>(pV k_ ∨ w.heap.size ≤ k_)) bh r2∧Below w0.heap.size w0 w'∧Kept w w' (fun k_=>pV k_):=by
 unfold Mc.f at h
 obtain ⟨o,hv,h⟩:=Option.bind_eq_some_iff.mp h
 obtain ⟨A1,c1,rfl⟩:=Kd.Mf iT
 obtain ⟨W2,hW2⟩:∃ W2,W2=(w.alloc (.cells #[.int .i64 Yc,.int .i64 Pa,.int .i64 Oa,.int .i64 Ma,.int .i64 Vc,.int .i64 ke,.string Le] 70 (0,0))).alloc (.cells #[.int .i64 0,.int .i64 0] 77 (0,0)):=⟨_,rfl⟩
 have HW:=ja.mk hW2
 have Bl:Below w.heap.size w W2:=by rw [hW2];exact qa (qa (Below.refl _ _) _) _
 have HX:=ja.mk (show W2.heap[w.heap.size]? = some (.cells #[.int .i64 Yc,.int .i64 Pa,.int .i64 Oa,.int .i64 Ma,.int .i64 Vc,.int .i64 ke,.string Le] 70 (0,0)) by rw [hW2];exact Fa (Me _ _) _)
 have HS:=ja.mk (show W2.heap[w.heap.size + 1]? = some (.cells #[.int .i64 0,.int .i64 0] 77 (0,0)) by rw [hW2];have:=Me (w.alloc (.cells #[.int .i64 Yc,.int .i64 Pa,.int .i64 Oa,.int .i64 Ma,.int .i64 Vc,.int .i64 ke,.string Le] 70 (0,0))) (.cells #[.int .i64 0,.int .i64 0] 77 (0,0));simpa using this)
 have HZ:=ja.mk (show W2.heap.size=w.heap.size + 2 by rw [hW2];simp)
 have HO:=ja.mk (Kd.Hg (Kd.Ue (Kd.zj iT) Bl) (fun k_ hk=>(⟨Or.inl hk.1,hk.2.1,hk.2.2.1⟩:(pV k_ ∨ w.heap.size ≤ k_)∧w0.heap.size ≤ k_∧k_ < w.heap.size)))
 have rQ:=ja.mk (fun g (hg:(Value.slice A1 l1.length c1).ownBlock=some g)=>(⟨iT.1 g hg,Kd.Gaf iT g hg⟩:pV g∧g < w.heap.size))
 have HB:=ja.mk (hB.trans (Bl.mono hB.size))
 have HK:=ja.mk (Kept.Hi Bl (fun k_=>pV k_))
 have HH:=ja.mk h
 have kG:=ja.mk hB.size
 clear hW2 Bl iT hB h
 have hx0:=(ga HX.out 0).trans rfl
 have hx1:=(ga HX.out 1).trans rfl
 have Ek:=(ga HX.out 2).trans rfl
 have jk:=(ga HX.out 3).trans rfl
 have Dk:=(ga HX.out 4).trans rfl
 have Um:=(ga HX.out 5).trans rfl
 have zm:=(ga HX.out 6).trans rfl
 have hs0:=(ga HS.out 0).trans rfl
 have iz:=aa HS.out 0
 have hs1:=(ga HS.out 1).trans rfl
 have gz:=aa HS.out 1
 unfold Mc.v at hv
 by_cases o0:Yc=0
 ·rw [if_pos o0] at hv
  cases hv
  have b0:=beq_iff_eq.2 o0
  clear o0
  go_enter Try.func78,Try.ntmps78
  go_upto_region 2 with (fail)
  rw [← HW.out]
  clear HW
  go_upto_region 13 with (fail)
  obtain ⟨W3,om⟩:∃ x,x=(W2.setCell ⟨w.heap.size + 1,0,none⟩ (.int .i64 (-1))).setCell ⟨w.heap.size + 1,1,none⟩ (.int .i64 ke):=⟨_,rfl⟩
  rw [← om]
  have hkk:Kept W2 W3 (fun k_=>k_=w.heap.size + 1):=by rw [om];exact Kept.setCell (S:=fun k_=>k_=w.heap.size + 1) (p:=⟨w.heap.size + 1,1,none⟩) (Kept.setCell (S:=fun k_=>k_=w.heap.size + 1) (p:=⟨w.heap.size + 1,0,none⟩) (Kept.refl _ _) (Or.inl rfl) _) (Or.inl rfl) _
  have hn:W3.heap[w.heap.size + 1]? = some (.cells #[.int .i64 (-1),.int .i64 ke] 77 (0,0)):=by rw [om];exact zb (cs:=#[.int .i64 (-1),.int .i64 0]) (zb (cs:=#[.int .i64 0,.int .i64 0]) HS.out 0 _ rfl) 1 _ rfl
  have qD:Below w0.heap.size w0 W3:=by rw [om];exact (HB.out.setCell (by have:=kG.out;simp;omega) _).setCell (by have:=kG.out;simp;omega) _
  have VK:W3.heap.size=W2.heap.size:=by rw [om];simp
  have HX:=ja.mk (Yf HX.out hkk (by omega))
  have HO:=ja.mk (Kd.dm HO.out hkk (fun k_ hk e=>by have:=hk.2.2;omega))
  have HB:=ja.mk qD
  have HK:=ja.mk (HK.out.Ur hkk (fun k_ e=>Or.inr (by rw [e];omega)))
  have HS:=ja.mk hn
  clear hn qD hkk VK hx0 hx1 Ek jk Dk Um zm hs0 hs1 iz gz om
  have hx0:=(ga HX.out 0).trans rfl
  have hx1:=(ga HX.out 1).trans rfl
  have Ek:=(ga HX.out 2).trans rfl
  have jk:=(ga HX.out 3).trans rfl
  have Dk:=(ga HX.out 4).trans rfl
  have Um:=(ga HX.out 5).trans rfl
  have zm:=(ga HX.out 6).trans rfl
  have hs0:=(ga HS.out 0).trans rfl
  have iz:=aa HS.out 0
  have hs1:=(ga HS.out 1).trans rfl
  have gz:=aa HS.out 1
  go_upto_region 16 with (fail)
  have h:(if 0 ≤ Pa∧Pa < (l1.length:Int) then some (a2,l1.set Pa.toNat (⟨-1,ke⟩:ko)) else none)=some (r1,r2):=HH.out
  by_cases hd:0 ≤ Pa∧Pa < (l1.length:Int)
  case neg=>rw [if_neg hd] at h;cases h
  rw [if_pos hd] at h
  cases h
  obtain ⟨d0,d1⟩:=hd
  obtain ⟨ad,e1,_⟩:=cq (Kd.Fc HO.out).2.2 Pa d0 d1
  cases e1
  obtain ⟨g,rfl⟩:=Kd.fq HO.out
  obtain ⟨cs,nu,hM,yq,fA⟩:=Kd.Xg HO.out sD Pa d0 d1
  obtain rfl:=mq (Kd.K_of_M _ hM)
  have hr0:W3.cell? ⟨g,Pa.toNat * 2,none⟩=some (.int .i64 (l1.getD Pa.toNat sD).f0):=yq 0 _ rfl
  have Mn:W3.cell? ⟨g,Pa.toNat * 2 + 1,none⟩=some (.int .i64 (l1.getD Pa.toNat sD).f1):=yq 1 _ rfl
  have Xl:W3.frozen? ⟨g,Pa.toNat * 2,none⟩=false:=fA 0
  have Wl:W3.frozen? ⟨g,Pa.toNat * 2 + 1,none⟩=false:=fA 1
  have Mz:=ja.mk (Kd.cm HO.out Pa d0 d1 nu yq (seg:=[.int .i64 (-1),.int .i64 (ke)]) (j:=0) (show 0 + 2 ≤ 2 from by decide) (x':=⟨-1,ke⟩) (Xo:=fun _=>False) (ct _ _ _ ⟨-1,ke⟩) (fun _ hk=>hk.elim)).1
  have vJ:=ja.mk (rQ.out g rfl)
  have wJ:=ja.mk (HO.out.1 g rfl).2.1
  clear nu hM yq fA
  go_wp2
  go_ret
  exact ⟨rfl,Kd.Hg Mz.out (fun _ hk=>hk.1),(HB.out.setCell wJ.out _).setCell wJ.out _,Kept.setCell (p:=⟨g,Pa.toNat * 2 + 1,none⟩) (Kept.setCell (p:=⟨g,Pa.toNat * 2,none⟩) HK.out (Or.inl vJ.out.1) _) (Or.inl vJ.out.1) _⟩
 rw [if_neg o0] at hv
 by_cases o1:Yc=1
 ·rw [if_pos o1] at hv
  by_cases ha:0 ≤ Oa∧Oa < (l1.length:Int)
  case neg=>rw [if_neg ha] at hv;cases hv
  rw [if_pos ha] at hv
  cases hv
  obtain ⟨ha0,ha1⟩:=ha
  have b0:=beq_eq_false_iff_ne.2 o0
  have b1:=beq_iff_eq.2 o1
  clear o0 o1
  obtain ⟨ad,e1,Wt,Vt⟩:=cq (Kd.Fc HO.out).2.2 Oa ha0 ha1
  cases e1
  go_enter Try.func78,Try.ntmps78
  go_upto_region 2 with (fail)
  rw [← HW.out]
  clear HW
  go_upto_region 13 with (fail)
  obtain ⟨W3,om⟩:∃ x,x=(W2.setCell ⟨w.heap.size + 1,0,none⟩ (.int .i64 (Xb l1 Oa).f0)).setCell ⟨w.heap.size + 1,1,none⟩ (.int .i64 (Xb l1 Oa).f1):=⟨_,rfl⟩
  rw [← om]
  have hkk:Kept W2 W3 (fun k_=>k_=w.heap.size + 1):=by rw [om];exact Kept.setCell (S:=fun k_=>k_=w.heap.size + 1) (p:=⟨w.heap.size + 1,1,none⟩) (Kept.setCell (S:=fun k_=>k_=w.heap.size + 1) (p:=⟨w.heap.size + 1,0,none⟩) (Kept.refl _ _) (Or.inl rfl) _) (Or.inl rfl) _
  have hn:W3.heap[w.heap.size + 1]? = some (.cells #[.int .i64 (Xb l1 Oa).f0,.int .i64 (Xb l1 Oa).f1] 77 (0,0)):=by rw [om];exact zb (cs:=#[.int .i64 (Xb l1 Oa).f0,.int .i64 0]) (zb (cs:=#[.int .i64 0,.int .i64 0]) HS.out 0 _ rfl) 1 _ rfl
  have qD:Below w0.heap.size w0 W3:=by rw [om];exact (HB.out.setCell (by have:=kG.out;simp;omega) _).setCell (by have:=kG.out;simp;omega) _
  have VK:W3.heap.size=W2.heap.size:=by rw [om];simp
  have HX:=ja.mk (Yf HX.out hkk (by omega))
  have HO:=ja.mk (Kd.dm HO.out hkk (fun k_ hk e=>by have:=hk.2.2;omega))
  have HB:=ja.mk qD
  have HK:=ja.mk (HK.out.Ur hkk (fun k_ e=>Or.inr (by rw [e];omega)))
  have HS:=ja.mk hn
  clear hn qD hkk VK hx0 hx1 Ek jk Dk Um zm hs0 hs1 iz gz om
  have hx0:=(ga HX.out 0).trans rfl
  have hx1:=(ga HX.out 1).trans rfl
  have Ek:=(ga HX.out 2).trans rfl
  have jk:=(ga HX.out 3).trans rfl
  have Dk:=(ga HX.out 4).trans rfl
  have Um:=(ga HX.out 5).trans rfl
  have zm:=(ga HX.out 6).trans rfl
  have hs0:=(ga HS.out 0).trans rfl
  have iz:=aa HS.out 0
  have hs1:=(ga HS.out 1).trans rfl
  have gz:=aa HS.out 1
  clear Wt Vt
  go_upto_region 16 with (fail)
  have h:(if 0 ≤ Pa∧Pa < (l1.length:Int) then some (a2,l1.set Pa.toNat (⟨(Xb l1 Oa).f0,(Xb l1 Oa).f1⟩:ko)) else none)=some (r1,r2):=HH.out
  by_cases hd:0 ≤ Pa∧Pa < (l1.length:Int)
  case neg=>rw [if_neg hd] at h;cases h
  rw [if_pos hd] at h
  cases h
  obtain ⟨d0,d1⟩:=hd
  obtain ⟨ad,e1,_⟩:=cq (Kd.Fc HO.out).2.2 Pa d0 d1
  cases e1
  obtain ⟨g,rfl⟩:=Kd.fq HO.out
  obtain ⟨cs,nu,hM,yq,fA⟩:=Kd.Xg HO.out sD Pa d0 d1
  obtain rfl:=mq (Kd.K_of_M _ hM)
  have hr0:W3.cell? ⟨g,Pa.toNat * 2,none⟩=some (.int .i64 (l1.getD Pa.toNat sD).f0):=yq 0 _ rfl
  have Mn:W3.cell? ⟨g,Pa.toNat * 2 + 1,none⟩=some (.int .i64 (l1.getD Pa.toNat sD).f1):=yq 1 _ rfl
  have Xl:W3.frozen? ⟨g,Pa.toNat * 2,none⟩=false:=fA 0
  have Wl:W3.frozen? ⟨g,Pa.toNat * 2 + 1,none⟩=false:=fA 1
  have Mz:=ja.mk (Kd.cm HO.out Pa d0 d1 nu yq (seg:=[.int .i64 ((Xb l1 Oa).f0),.int .i64 ((Xb l1 Oa).f1)]) (j:=0) (show 0 + 2 ≤ 2 from by decide) (x':=⟨(Xb l1 Oa).f0,(Xb l1 Oa).f1⟩) (Xo:=fun _=>False) (ct _ _ _ ⟨(Xb l1 Oa).f0,(Xb l1 Oa).f1⟩) (fun _ hk=>hk.elim)).1
  have vJ:=ja.mk (rQ.out g rfl)
  have wJ:=ja.mk (HO.out.1 g rfl).2.1
  clear nu hM yq fA
  go_wp2
  go_ret
  exact ⟨rfl,Kd.Hg Mz.out (fun _ hk=>hk.1),(HB.out.setCell wJ.out _).setCell wJ.out _,Kept.setCell (p:=⟨g,Pa.toNat * 2 + 1,none⟩) (Kept.setCell (p:=⟨g,Pa.toNat * 2,none⟩) HK.out (Or.inl vJ.out.1) _) (Or.inl vJ.out.1) _⟩
 rw [if_neg o1] at hv
 by_cases o2:Yc=2
 ·rw [if_pos o2] at hv
  by_cases ha:(0 ≤ Oa∧Oa < (l1.length:Int))∧(0 ≤ Ma∧Ma < (l1.length:Int))
  case neg=>rw [if_neg ha] at hv;cases hv
  rw [if_pos ha] at hv
  obtain ⟨⟨t1,t2,t3⟩,ht,hv⟩:=Option.bind_eq_some_iff.mp hv
  cases hv
  have HT:=ja.mk ht
  clear ht
  obtain ⟨⟨ha0,ha1⟩,hb0,hb1⟩:=ha
  have b0:=beq_eq_false_iff_ne.2 o0
  have b1:=beq_eq_false_iff_ne.2 o1
  have b2:=beq_iff_eq.2 o2
  clear o0 o1 o2
  obtain ⟨ad,e1,Wt,Vt⟩:=cq (Kd.Fc HO.out).2.2 Oa ha0 ha1
  cases e1
  obtain ⟨ad_,e1,Wp,Vp⟩:=cq (Kd.Fc HO.out).2.2 Ma hb0 hb1
  cases e1
  go_enter Try.func78,Try.ntmps78
  go_upto_region 2 with (fail)
  rw [← HW.out]
  clear HW
  go_upto_region 9 with (fail)
  have HX:=ja.mk (Ia HX.out)
  have HS:=ja.mk (Ia HS.out)
  have HO:=ja.mk (Kd.Ie HO.out)
  have HB:=ja.mk (ua HB.out)
  have HK:=ja.mk (HK.out.drew)
  have HZ:ja (W2.drew.heap.size=w.heap.size + 2):=⟨HZ.out⟩
  refine Oi (n:=18) (S:=fun w'=>w'.cell? ⟨w.heap.size,6,none⟩=some (.string Le)∧w'.cell? ⟨w.heap.size,2,none⟩=some (.int .i64 Oa)∧w'.cell? ⟨w.heap.size,3,none⟩=some (.int .i64 Ma)∧w'.cell? (ad.add (Oa.toNat * 2))=some (.int .i64 (Xb l1 Oa).f0)∧w'.cell? ⟨(ad.add (Oa.toNat * 2)).block,(ad.add (Oa.toNat * 2)).off + 1,none⟩=some (.int .i64 (Xb l1 Oa).f1)∧w'.cell? (ad.add (Ma.toNat * 2))=some (.int .i64 (Xb l1 Ma).f0)∧w'.cell? ⟨(ad.add (Ma.toNat * 2)).block,(ad.add (Ma.toNat * 2)).off + 1,none⟩=some (.int .i64 (Xb l1 Ma).f1)) (ds:=[16,17]) #[false,false,false,false,false,false,false,false,false,false,false,false,false,false,false,false,false,false] (by kernel_rfl) rfl rfl ⟨(ga HX.out 6).trans rfl,(ga HX.out 2).trans rfl,(ga HX.out 3).trans rfl,Wt,Vt,Wp,Vp⟩ (fun hHeld=>?_)
  generalize W2.drew=W5 at HX HS HO HB HK HZ hHeld ⊢
  refine Nc (i:=0) (N:=some 28) (v:=?_) (a':=?_) #[true,false,false,false,false,false,false,false,false,false,false,false,false,false,false,false,false,false] rfl rfl (by kernel_rfl) (fun _ _ _ h=>h) (Or.inl ⟨by rfl,?_⟩) ?_ ?_
  rotate_left
  ·intro w'
   go_simp
   with_reducible rfl
  rotate_left
  ·simp only [Act.put,List.setIfInBounds_toArray,List.set_cons_zero,List.set_cons_succ,Bb,Cb]
   rfl
  refine Nc (i:=2) (N:=some 30) (v:=?_) (a':=?_) #[true,false,true,false,false,false,false,false,false,false,false,false,false,false,false,false,false,false] rfl rfl (by kernel_rfl) (fun _ _ _ h=>h) (Or.inl ⟨by rfl,?_⟩) ?_ ?_
  rotate_left
  ·intro w'
   go_simp
   with_reducible rfl
  rotate_left
  ·simp only [Act.put,List.setIfInBounds_toArray,List.set_cons_zero,List.set_cons_succ,Bb,Cb]
   rfl
  refine Nc (i:=3) (N:=some 31) (v:=?_) (a':=?_) #[true,false,true,true,false,false,false,false,false,false,false,false,false,false,false,false,false,false] rfl rfl (by kernel_rfl) (fun _ _ _ h=>h) (Or.inl ⟨by rfl,?_⟩) ?_ ?_
  rotate_left
  ·intro w'
   go_simp
   with_reducible rfl
  rotate_left
  ·simp only [Act.put,List.setIfInBounds_toArray,List.set_cons_zero,List.set_cons_succ,Bb,Cb]
   rfl
  refine Nc (i:=7) (N:=some 35) (v:=?_) (a':=?_) #[true,false,true,true,false,false,false,true,false,false,false,false,false,false,false,false,false,false] rfl rfl (by kernel_rfl) (fun _ _ _ h=>h) (Or.inl ⟨by rfl,?_⟩) ?_ ?_
  rotate_left
  ·intro w'
   go_simp
   with_reducible rfl
  rotate_left
  ·simp only [Act.put,List.setIfInBounds_toArray,List.set_cons_zero,List.set_cons_succ,Bb,Cb]
   rfl
  refine Nc (i:=8) (N:=some 36) (v:=?_) (a':=?_) #[true,false,true,true,false,false,false,true,true,false,false,false,false,false,false,false,false,false] rfl rfl (by kernel_rfl) (fun _ _ _ h=>h) (Or.inl ⟨by rfl,?_⟩) ?_ ?_
  rotate_left
  ·intro w'
   go_simp
   with_reducible rfl
  rotate_left
  ·simp only [Act.put,List.setIfInBounds_toArray,List.set_cons_zero,List.set_cons_succ,Bb,Cb]
   rfl
  refine Lf (i:=1) (N:=some 29) (v:=?_) (a':=?_) #[true,true,true,true,false,false,false,true,true,false,false,false,false,false,false,false,false,false] rfl rfl (by kernel_rfl) (fun _ _ _ h=>h) (Or.inl ⟨by rfl,?_⟩) hHeld ?_ ?_
  rotate_left
  ·rintro w' ⟨s0,s1,s2,s3,s4,s5,s6⟩
   go_simp
   with_reducible rfl
  rotate_left
  ·simp only [Act.put,List.setIfInBounds_toArray,List.set_cons_zero,List.set_cons_succ,Bb,Cb]
   rfl
  refine Lf (i:=4) (N:=some 32) (v:=?_) (a':=?_) #[true,true,true,true,true,false,false,true,true,false,false,false,false,false,false,false,false,false] rfl rfl (by kernel_rfl) (fun _ _ _ h=>h) (Or.inl ⟨by rfl,?_⟩) hHeld ?_ ?_
  rotate_left
  ·rintro w' ⟨s0,s1,s2,s3,s4,s5,s6⟩
   go_simp
   with_reducible rfl
  rotate_left
  ·simp only [Act.put,List.setIfInBounds_toArray,List.set_cons_zero,List.set_cons_succ,Bb,Cb]
   rfl
  refine Nc (i:=5) (N:=some 33) (v:=?_) (a':=?_) #[true,true,true,true,true,true,false,true,true,false,false,false,false,false,false,false,false,false] rfl rfl (by kernel_rfl) (fun _ _ _ h=>h) (Or.inl ⟨by rfl,?_⟩) ?_ ?_
  rotate_left
  ·intro w'
   go_simp
   with_reducible rfl
  rotate_left
  ·simp only [Act.put,List.setIfInBounds_toArray,List.set_cons_zero,List.set_cons_succ,Bb,Cb]
   rfl
  refine Lf (i:=6) (N:=some 34) (v:=?_) (a':=?_) #[true,true,true,true,true,true,true,true,true,false,false,false,false,false,false,false,false,false] rfl rfl (by kernel_rfl) (fun _ _ _ h=>h) (Or.inl ⟨by rfl,?_⟩) hHeld ?_ ?_
  rotate_left
  ·rintro w' ⟨s0,s1,s2,s3,s4,s5,s6⟩
   go_simp
   with_reducible rfl
  rotate_left
  ·simp only [Act.put,List.setIfInBounds_toArray,List.set_cons_zero,List.set_cons_succ,Bb,Cb]
   rfl
  refine Lf (i:=9) (N:=some 37) (v:=?_) (a':=?_) #[true,true,true,true,true,true,true,true,true,true,false,false,false,false,false,false,false,false] rfl rfl (by kernel_rfl) (fun _ _ _ h=>h) (Or.inl ⟨by rfl,?_⟩) hHeld ?_ ?_
  rotate_left
  ·rintro w' ⟨s0,s1,s2,s3,s4,s5,s6⟩
   go_simp
   with_reducible rfl
  rotate_left
  ·simp only [Act.put,List.setIfInBounds_toArray,List.set_cons_zero,List.set_cons_succ,Bb,Cb]
   rfl
  refine Nc (i:=10) (N:=some 38) (v:=?_) (a':=?_) #[true,true,true,true,true,true,true,true,true,true,true,false,false,false,false,false,false,false] rfl rfl (by kernel_rfl) (fun _ _ _ h=>h) (Or.inl ⟨by rfl,?_⟩) ?_ ?_
  rotate_left
  ·intro w'
   go_simp
   with_reducible rfl
  rotate_left
  ·simp only [Act.put,List.setIfInBounds_toArray,List.set_cons_zero,List.set_cons_succ,Bb,Cb]
   rfl
  refine Lf (i:=11) (N:=some 39) (v:=?_) (a':=?_) #[true,true,true,true,true,true,true,true,true,true,true,true,false,false,false,false,false,false] rfl rfl (by kernel_rfl) (fun _ _ _ h=>h) (Or.inl ⟨by rfl,?_⟩) hHeld ?_ ?_
  rotate_left
  ·rintro w' ⟨s0,s1,s2,s3,s4,s5,s6⟩
   go_simp
   with_reducible rfl
  rotate_left
  ·simp only [Act.put,List.setIfInBounds_toArray,List.set_cons_zero,List.set_cons_succ,Bb,Cb]
   rfl
  refine gm (i:=12) (N:=some 40) #[true,true,true,true,true,true,true,true,true,true,true,true,true,false,false,false,false,false] rfl rfl (by kernel_rfl) (by decide) (fun K hK=>?_)
  refine Qm Try.func106 (by kernel_rfl) rfl #[.string Le,.agg #[.int .i64 (Xb l1 Oa).f0,.int .i64 (Xb l1 Oa).f1],.agg #[.int .i64 (Xb l1 Ma).f0,.int .i64 (Xb l1 Ma).f1]] (by rfl) rfl rfl (by simp only [List.map_toArray,List.map_cons,List.map_nil];rfl) ?_
  with_reducible refine (Ib.calls k Le (Xb l1 Oa).f0 (Xb l1 Oa).f1 (Xb l1 Ma).f0 (Xb l1 Ma).f1 t1 t2 t3 W5 HT.out).mono ?_
  rintro e W6 ⟨rfl,hb⟩
  refine ⟨_,rfl,?_⟩
  obtain ⟨y0,y1,y2,y3,y4,y5,y6⟩:=hHeld
  have HX:=ja.mk (Ya HX.out hb)
  have HS:=ja.mk (Ya HS.out hb)
  have HO:=ja.mk (Kd.Ue HO.out hb)
  have HB:=ja.mk (Na HB.out hb)
  have HK:=ja.mk (HK.out.below hb)
  have y3:=Zd hb y3
  have y4:=Zd hb y4
  have y5:=Zd hb y5
  have y6:=Zd hb y6
  have C5:=hb.size
  clear hb
  have hs0:=(ga HS.out 0).trans rfl
  have iz:=aa HS.out 0
  have hs1:=(ga HS.out 1).trans rfl
  have gz:=aa HS.out 1
  refine hK.out _ _ ⟨(ga HX.out 6).trans rfl,(ga HX.out 2).trans rfl,(ga HX.out 3).trans rfl,y3,y4,y5,y6⟩ (fun hHeld=>?_)
  clear hK K
  refine Mg (a':=?_) ?_ ?_
  rotate_left
  ·show Act.put _ (some 40) _=_
   simp only [Act.put,List.setIfInBounds_toArray,List.set_cons_zero,List.set_cons_succ,Bb,Cb]
   rfl
  refine Nc (i:=13) (N:=some 27) (v:=?_) (a':=?_) #[true,true,true,true,true,true,true,true,true,true,true,true,true,true,false,false,false,false] rfl rfl (by kernel_rfl) (fun _ _ _ h=>h) (Or.inl ⟨by rfl,?_⟩) ?_ ?_
  rotate_left
  ·intro w'
   go_simp
   with_reducible rfl
  rotate_left
  ·simp only [Act.put,List.setIfInBounds_toArray,List.set_cons_zero,List.set_cons_succ,Bb,Cb]
   rfl
  refine Nc (i:=14) (N:=some 41) (v:=?_) (a':=?_) #[true,true,true,true,true,true,true,true,true,true,true,true,true,true,true,false,false,false] rfl rfl (by kernel_rfl) (fun _ _ _ h=>h) (Or.inl ⟨by rfl,?_⟩) ?_ ?_
  rotate_left
  ·intro w'
   go_simp
   with_reducible rfl
  rotate_left
  ·simp only [Act.put,List.setIfInBounds_toArray,List.set_cons_zero,List.set_cons_succ,Bb,Cb]
   rfl
  refine Nc (i:=15) (N:=some 42) (v:=?_) (a':=?_) #[true,true,true,true,true,true,true,true,true,true,true,true,true,true,true,true,false,false] rfl rfl (by kernel_rfl) (fun _ _ _ h=>h) (Or.inl ⟨by rfl,?_⟩) ?_ ?_
  rotate_left
  ·intro w'
   go_simp
   with_reducible rfl
  rotate_left
  ·simp only [Act.put,List.setIfInBounds_toArray,List.set_cons_zero,List.set_cons_succ,Bb,Cb]
   rfl
  refine cz (i:=16) (N:=none) #[true,true,true,true,true,true,true,true,true,true,true,true,true,true,true,true,true,false] rfl rfl (by kernel_rfl) (by decide) (fun K hK=>?_)
  refine Hs (w1:=?_) (by rfl) rfl ?_ ?_
  rotate_left
  ·go_simp
   rfl
  refine hK.out _ _ ?_
  clear hK K
  refine Nc (i:=17) (N:=some 8) (v:=?_) (a':=?_) #[true,true,true,true,true,true,true,true,true,true,true,true,true,true,true,true,true,true] rfl rfl (by kernel_rfl) (fun _ _ _ h=>h) (Or.inl ⟨by rfl,?_⟩) ?_ ?_
  rotate_left
  ·intro w'
   go_simp
   with_reducible rfl
  rotate_left
  ·simp only [Act.put,List.setIfInBounds_toArray,List.set_cons_zero,List.set_cons_succ,Bb,Cb]
   rfl
  refine Mk (by kernel_rfl) ?_
  obtain ⟨W7,om⟩:∃ x,x=(W6.setCell ⟨w.heap.size + 1,0,none⟩ (.int .i64 t1)).setCell ⟨w.heap.size + 1,1,none⟩ (.int .i64 t2):=⟨_,rfl⟩
  rw [← om]
  have hkk:Kept W6 W7 (fun k_=>k_=w.heap.size + 1):=by rw [om];exact Kept.setCell (S:=fun k_=>k_=w.heap.size + 1) (p:=⟨w.heap.size + 1,1,none⟩) (Kept.setCell (S:=fun k_=>k_=w.heap.size + 1) (p:=⟨w.heap.size + 1,0,none⟩) (Kept.refl _ _) (Or.inl rfl) _) (Or.inl rfl) _
  have hn:W7.heap[w.heap.size + 1]? = some (.cells #[.int .i64 t1,.int .i64 t2] 77 (0,0)):=by rw [om];exact zb (cs:=#[.int .i64 t1,.int .i64 0]) (zb (cs:=#[.int .i64 0,.int .i64 0]) HS.out 0 _ rfl) 1 _ rfl
  have qD:Below w0.heap.size w0 W7:=by rw [om];exact (HB.out.setCell (by have:=kG.out;simp;omega) _).setCell (by have:=kG.out;simp;omega) _
  have VK:W7.heap.size=W6.heap.size:=by rw [om];simp
  have HX:=ja.mk (Yf HX.out hkk (by omega))
  have HO:=ja.mk (Kd.dm HO.out hkk (fun k_ hk e=>by have:=hk.2.2;omega))
  have HB:=ja.mk qD
  have HK:=ja.mk (HK.out.Ur hkk (fun k_ e=>Or.inr (by rw [e];omega)))
  have HS:=ja.mk hn
  clear hn qD hkk VK hx0 hx1 Ek jk Dk Um zm hs0 hs1 iz gz om
  have hx0:=(ga HX.out 0).trans rfl
  have hx1:=(ga HX.out 1).trans rfl
  have Ek:=(ga HX.out 2).trans rfl
  have jk:=(ga HX.out 3).trans rfl
  have Dk:=(ga HX.out 4).trans rfl
  have Um:=(ga HX.out 5).trans rfl
  have zm:=(ga HX.out 6).trans rfl
  have hs0:=(ga HS.out 0).trans rfl
  have iz:=aa HS.out 0
  have hs1:=(ga HS.out 1).trans rfl
  have gz:=aa HS.out 1
  clear Wt Vt Wp Vp
  cases t3 with
  | true =>
   go_upto_region 16 with (fail)
   have h:(if 0 ≤ Pa∧Pa < (l1.length:Int) then some (a2,l1.set Pa.toNat (⟨t1,t2⟩:ko)) else none)=some (r1,r2):=HH.out
   by_cases hd:0 ≤ Pa∧Pa < (l1.length:Int)
   case neg=>rw [if_neg hd] at h;cases h
   rw [if_pos hd] at h
   cases h
   obtain ⟨d0,d1⟩:=hd
   obtain ⟨ad,e1,_⟩:=cq (Kd.Fc HO.out).2.2 Pa d0 d1
   cases e1
   obtain ⟨g,rfl⟩:=Kd.fq HO.out
   obtain ⟨cs,nu,hM,yq,fA⟩:=Kd.Xg HO.out sD Pa d0 d1
   obtain rfl:=mq (Kd.K_of_M _ hM)
   have hr0:W7.cell? ⟨g,Pa.toNat * 2,none⟩=some (.int .i64 (l1.getD Pa.toNat sD).f0):=yq 0 _ rfl
   have Mn:W7.cell? ⟨g,Pa.toNat * 2 + 1,none⟩=some (.int .i64 (l1.getD Pa.toNat sD).f1):=yq 1 _ rfl
   have Xl:W7.frozen? ⟨g,Pa.toNat * 2,none⟩=false:=fA 0
   have Wl:W7.frozen? ⟨g,Pa.toNat * 2 + 1,none⟩=false:=fA 1
   have Mz:=ja.mk (Kd.cm HO.out Pa d0 d1 nu yq (seg:=[.int .i64 (t1),.int .i64 (t2)]) (j:=0) (show 0 + 2 ≤ 2 from by decide) (x':=⟨t1,t2⟩) (Xo:=fun _=>False) (ct _ _ _ ⟨t1,t2⟩) (fun _ hk=>hk.elim)).1
   have vJ:=ja.mk (rQ.out g rfl)
   have wJ:=ja.mk (HO.out.1 g rfl).2.1
   clear nu hM yq fA
   go_wp2
   go_ret
   exact ⟨rfl,Kd.Hg Mz.out (fun _ hk=>hk.1),(HB.out.setCell wJ.out _).setCell wJ.out _,Kept.setCell (p:=⟨g,Pa.toNat * 2 + 1,none⟩) (Kept.setCell (p:=⟨g,Pa.toNat * 2,none⟩) HK.out (Or.inl vJ.out.1) _) (Or.inl vJ.out.1) _⟩
  | false =>
   go_upto_region 16 with (fail)
   obtain ⟨W8,om⟩:∃ x,x=(W7.setCell ⟨w.heap.size + 1,0,none⟩ (.int .i64 a2)).setCell ⟨w.heap.size + 1,1,none⟩ (.int .i64 0):=⟨_,rfl⟩
   rw [← om]
   have hkk:Kept W7 W8 (fun k_=>k_=w.heap.size + 1):=by rw [om];exact Kept.setCell (S:=fun k_=>k_=w.heap.size + 1) (p:=⟨w.heap.size + 1,1,none⟩) (Kept.setCell (S:=fun k_=>k_=w.heap.size + 1) (p:=⟨w.heap.size + 1,0,none⟩) (Kept.refl _ _) (Or.inl rfl) _) (Or.inl rfl) _
   have hn:W8.heap[w.heap.size + 1]? = some (.cells #[.int .i64 a2,.int .i64 0] 77 (0,0)):=by rw [om];exact zb (cs:=#[.int .i64 a2,.int .i64 t2]) (zb (cs:=#[.int .i64 t1,.int .i64 t2]) HS.out 0 _ rfl) 1 _ rfl
   have qD:Below w0.heap.size w0 W8:=by rw [om];exact (HB.out.setCell (by have:=kG.out;simp;omega) _).setCell (by have:=kG.out;simp;omega) _
   have VK:W8.heap.size=W7.heap.size:=by rw [om];simp
   have HX:=ja.mk (Yf HX.out hkk (by omega))
   have HO:=ja.mk (Kd.dm HO.out hkk (fun k_ hk e=>by have:=hk.2.2;omega))
   have HB:=ja.mk qD
   have HK:=ja.mk (HK.out.Ur hkk (fun k_ e=>Or.inr (by rw [e];omega)))
   have HS:=ja.mk hn
   clear hn qD hkk VK hx0 hx1 Ek jk Dk Um zm hs0 hs1 iz gz om
   have hx0:=(ga HX.out 0).trans rfl
   have hx1:=(ga HX.out 1).trans rfl
   have Ek:=(ga HX.out 2).trans rfl
   have jk:=(ga HX.out 3).trans rfl
   have Dk:=(ga HX.out 4).trans rfl
   have Um:=(ga HX.out 5).trans rfl
   have zm:=(ga HX.out 6).trans rfl
   have hs0:=(ga HS.out 0).trans rfl
   have iz:=aa HS.out 0
   have hs1:=(ga HS.out 1).trans rfl
   have gz:=aa HS.out 1
   have h:(if 0 ≤ Pa∧Pa < (l1.length:Int) then some (wrap64 (a2 + 1),l1.set Pa.toNat (⟨a2,0⟩:ko)) else none)=some (r1,r2):=HH.out
   by_cases hd:0 ≤ Pa∧Pa < (l1.length:Int)
   case neg=>rw [if_neg hd] at h;cases h
   rw [if_pos hd] at h
   cases h
   obtain ⟨d0,d1⟩:=hd
   obtain ⟨ad,e1,_⟩:=cq (Kd.Fc HO.out).2.2 Pa d0 d1
   cases e1
   obtain ⟨g,rfl⟩:=Kd.fq HO.out
   obtain ⟨cs,nu,hM,yq,fA⟩:=Kd.Xg HO.out sD Pa d0 d1
   obtain rfl:=mq (Kd.K_of_M _ hM)
   have hr0:W8.cell? ⟨g,Pa.toNat * 2,none⟩=some (.int .i64 (l1.getD Pa.toNat sD).f0):=yq 0 _ rfl
   have Mn:W8.cell? ⟨g,Pa.toNat * 2 + 1,none⟩=some (.int .i64 (l1.getD Pa.toNat sD).f1):=yq 1 _ rfl
   have Xl:W8.frozen? ⟨g,Pa.toNat * 2,none⟩=false:=fA 0
   have Wl:W8.frozen? ⟨g,Pa.toNat * 2 + 1,none⟩=false:=fA 1
   have Mz:=ja.mk (Kd.cm HO.out Pa d0 d1 nu yq (seg:=[.int .i64 (a2),.int .i64 (0)]) (j:=0) (show 0 + 2 ≤ 2 from by decide) (x':=⟨a2,0⟩) (Xo:=fun _=>False) (ct _ _ _ ⟨a2,0⟩) (fun _ hk=>hk.elim)).1
   have vJ:=ja.mk (rQ.out g rfl)
   have wJ:=ja.mk (HO.out.1 g rfl).2.1
   clear nu hM yq fA
   go_wp2
   go_ret
   exact ⟨rfl,Kd.Hg Mz.out (fun _ hk=>hk.1),(HB.out.setCell wJ.out _).setCell wJ.out _,Kept.setCell (p:=⟨g,Pa.toNat * 2 + 1,none⟩) (Kept.setCell (p:=⟨g,Pa.toNat * 2,none⟩) HK.out (Or.inl vJ.out.1) _) (Or.inl vJ.out.1) _⟩
 rw [if_neg o2] at hv
 by_cases JS:Yc=3 ∨ Yc=5
 ·rw [if_pos JS] at hv
  cases hv
  have b0:=beq_eq_false_iff_ne.2 o0
  have b1:=beq_eq_false_iff_ne.2 o1
  have b2:=beq_eq_false_iff_ne.2 o2
  have b35:(Yc == 3)=true ∨ ((Yc == 3)=false∧(Yc == 5)=true):=by
   rcases JS with e|e
   ·exact Or.inl (by simp [e])
   ·exact Or.inr ⟨by simp [e],by simp [e]⟩
  clear o0 o1 o2 JS
  rcases b35 with b3|⟨b3,b5⟩
  all_goals
   go_enter Try.func78,Try.ntmps78
   go_upto_region 2 with (fail)
   rw [← HW.out]
   clear HW
   go_upto_region 16 with (fail)
   obtain ⟨W3,om⟩:∃ x,x=(W2.setCell ⟨w.heap.size + 1,0,none⟩ (.int .i64 a2)).setCell ⟨w.heap.size + 1,1,none⟩ (.int .i64 0):=⟨_,rfl⟩
   rw [← om]
   have hkk:Kept W2 W3 (fun k_=>k_=w.heap.size + 1):=by rw [om];exact Kept.setCell (S:=fun k_=>k_=w.heap.size + 1) (p:=⟨w.heap.size + 1,1,none⟩) (Kept.setCell (S:=fun k_=>k_=w.heap.size + 1) (p:=⟨w.heap.size + 1,0,none⟩) (Kept.refl _ _) (Or.inl rfl) _) (Or.inl rfl) _
   have hn:W3.heap[w.heap.size + 1]? = some (.cells #[.int .i64 a2,.int .i64 0] 77 (0,0)):=by rw [om];exact zb (cs:=#[.int .i64 a2,.int .i64 0]) (zb (cs:=#[.int .i64 0,.int .i64 0]) HS.out 0 _ rfl) 1 _ rfl
   have qD:Below w0.heap.size w0 W3:=by rw [om];exact (HB.out.setCell (by have:=kG.out;simp;omega) _).setCell (by have:=kG.out;simp;omega) _
   have VK:W3.heap.size=W2.heap.size:=by rw [om];simp
   have HX:=ja.mk (Yf HX.out hkk (by omega))
   have HO:=ja.mk (Kd.dm HO.out hkk (fun k_ hk e=>by have:=hk.2.2;omega))
   have HB:=ja.mk qD
   have HK:=ja.mk (HK.out.Ur hkk (fun k_ e=>Or.inr (by rw [e];omega)))
   have HS:=ja.mk hn
   clear hn qD hkk VK hx0 hx1 Ek jk Dk Um zm hs0 hs1 iz gz om
   have hx0:=(ga HX.out 0).trans rfl
   have hx1:=(ga HX.out 1).trans rfl
   have Ek:=(ga HX.out 2).trans rfl
   have jk:=(ga HX.out 3).trans rfl
   have Dk:=(ga HX.out 4).trans rfl
   have Um:=(ga HX.out 5).trans rfl
   have zm:=(ga HX.out 6).trans rfl
   have hs0:=(ga HS.out 0).trans rfl
   have iz:=aa HS.out 0
   have hs1:=(ga HS.out 1).trans rfl
   have gz:=aa HS.out 1
   have h:(if 0 ≤ Pa∧Pa < (l1.length:Int) then some (wrap64 (a2 + 1),l1.set Pa.toNat (⟨a2,0⟩:ko)) else none)=some (r1,r2):=HH.out
   by_cases hd:0 ≤ Pa∧Pa < (l1.length:Int)
   case neg=>rw [if_neg hd] at h;cases h
   rw [if_pos hd] at h
   cases h
   obtain ⟨d0,d1⟩:=hd
   obtain ⟨ad,e1,_⟩:=cq (Kd.Fc HO.out).2.2 Pa d0 d1
   cases e1
   obtain ⟨g,rfl⟩:=Kd.fq HO.out
   obtain ⟨cs,nu,hM,yq,fA⟩:=Kd.Xg HO.out sD Pa d0 d1
   obtain rfl:=mq (Kd.K_of_M _ hM)
   have hr0:W3.cell? ⟨g,Pa.toNat * 2,none⟩=some (.int .i64 (l1.getD Pa.toNat sD).f0):=yq 0 _ rfl
   have Mn:W3.cell? ⟨g,Pa.toNat * 2 + 1,none⟩=some (.int .i64 (l1.getD Pa.toNat sD).f1):=yq 1 _ rfl
   have Xl:W3.frozen? ⟨g,Pa.toNat * 2,none⟩=false:=fA 0
   have Wl:W3.frozen? ⟨g,Pa.toNat * 2 + 1,none⟩=false:=fA 1
   have Mz:=ja.mk (Kd.cm HO.out Pa d0 d1 nu yq (seg:=[.int .i64 (a2),.int .i64 (0)]) (j:=0) (show 0 + 2 ≤ 2 from by decide) (x':=⟨a2,0⟩) (Xo:=fun _=>False) (ct _ _ _ ⟨a2,0⟩) (fun _ hk=>hk.elim)).1
   have vJ:=ja.mk (rQ.out g rfl)
   have wJ:=ja.mk (HO.out.1 g rfl).2.1
   clear nu hM yq fA
   go_wp2
   go_ret
   exact ⟨rfl,Kd.Hg Mz.out (fun _ hk=>hk.1),(HB.out.setCell wJ.out _).setCell wJ.out _,Kept.setCell (p:=⟨g,Pa.toNat * 2 + 1,none⟩) (Kept.setCell (p:=⟨g,Pa.toNat * 2,none⟩) HK.out (Or.inl vJ.out.1) _) (Or.inl vJ.out.1) _⟩
 ·rw [if_neg JS] at hv
  cases hv
  have h:=HH.out
  dsimp only at h
  cases h
  have b0:=beq_eq_false_iff_ne.2 o0
  have b1:=beq_eq_false_iff_ne.2 o1
  have b2:=beq_eq_false_iff_ne.2 o2
  have b3:(Yc == 3)=false:=beq_eq_false_iff_ne.2 (fun e=>JS (Or.inl e))
  have b5:(Yc == 5)=false:=beq_eq_false_iff_ne.2 (fun e=>JS (Or.inr e))
  clear o0 o1 o2 JS
  go_enter Try.func78,Try.ntmps78
  go_upto_region 2 with (fail)
  rw [← HW.out]
  clear HW
  go_wp2
  go_ret
  exact ⟨rfl,Kd.Hg HO.out (fun _ hk=>hk.1),HB.out,HK.out⟩
def Oe.l0:Nat→List (ko)→Int→List (yf)→Int→List Int→Int→Int→Int→List (Dh)→Option ((List (ko)) × Int)
 | 0,_,_,_,_,_,_,_,_,_=>none
 | k + 1,x6,x7,x8,x9,x102000,x102001,x102002,x102003,x102004=>if x9 < (x8.length:Int) then (if 0 ≤ x9 then ((Mc.f k ((Ea x8 x9).f0) ((Ea x8 x9).f1) ((Ea x8 x9).f2) ((Ea x8 x9).f3) ((Ea x8 x9).f4) ((Ea x8 x9).f5) ((Ea x8 x9).f6) x6 x7).bind fun zR=>(Oe.l0 k zR.2 zR.1 x8 (wrap64 (x9 + 1)) x102000 x102001 x102002 x102003 x102004)) else (none)) else (some (x6,wrap64 (x7 - x102003)))
def Oe.f (k:Nat) (Ta:List Int) (Pa:Int) (Oa:Int) (Ma:Int) (Ra:List (Dh)) (a1:Int):Option ((List (ko)) × Int):=(mc.f k Ma).bind fun t102=>(if 0 ≤ a1 then (if a1 < (Ra.length:Int) then (Oe.l0 k t102 Ma ((Ua Ra a1).f0) 0 Ta Pa Oa Ma Ra) else (none)) else (none))
theorem Oe.Qd:∀ k,(∀ y0 y1 y2 y3 y4 y5 y6 y7 y8,Nb (Oe.l0 k y0 y1 y2 y3 y4 y5 y6 y7 y8) (Oe.l0 (k + 1) y0 y1 y2 y3 y4 y5 y6 y7 y8))
 | 0=>fun _ _ _ _ _ _ _ _ _ r h=>by simp [Oe.l0] at h
 | k + 1=>by
  have Ff:=Oe.Qd k
  ·intro y0 y1 y2 y3 y4 y5 y6 y7 y8
   unfold Oe.l0
   repeat' first
   | (with_reducible exact Ff _ _ _ _ _ _ _ _ _)
   | (with_reducible exact mc.mono _ _)
   | (with_reducible exact Mc.mono _ _ _ _ _ _ _ _ _ _)
   | (with_reducible exact Nb.refl _)
   | (with_reducible exact Nb.none _)
   | (with_reducible refine Nb.ite ?_ ?_)
   | (with_reducible refine Nb.bind ?_ (fun _=>?_))
   | exact Ff _ _ _ _ _ _ _ _ _
   | exact mc.mono _ _
   | exact Mc.mono _ _ _ _ _ _ _ _ _ _
   | exact Nb.none _
   | refine Nb.ite ?_ ?_
   | refine Nb.bind ?_ (fun _=>?_)
theorem Oe.mono:∀ a0 a1 a2 a3 a4 a5 k,Nb (Oe.f k a0 a1 a2 a3 a4 a5) (Oe.f (k + 1) a0 a1 a2 a3 a4 a5):=by
 intro a0 a1 a2 a3 a4 a5 k
 have Ff:=Oe.Qd k
 unfold Oe.f
 repeat' first
   | (with_reducible exact Ff _ _ _ _ _ _ _ _ _)
   | (with_reducible exact mc.mono _ _)
   | (with_reducible exact Mc.mono _ _ _ _ _ _ _ _ _ _)
   | (with_reducible exact Nb.refl _)
   | (with_reducible exact Nb.none _)
   | (with_reducible refine Nb.ite ?_ ?_)
   | (with_reducible refine Nb.bind ?_ (fun _=>?_))
   | exact Ff _ _ _ _ _ _ _ _ _
   | exact mc.mono _ _
   | exact Mc.mono _ _ _ _ _ _ _ _ _ _
   | exact Nb.none _
   | refine Nb.ite ?_ ?_
   | refine Nb.bind ?_ (fun _=>?_)
theorem Oe.calls (k:Nat) (Eb:Option Addr) (Db:Nat) (Ta:List Int) (Pa:Int) (Oa:Int) (Ma:Int) (yc:Option Addr) (Zb:Nat) (Ra:List (Dh)) (a1:Int) (r1:List (ko)) (r2:Int) (w:World) (Kf:Kd.C (Kd.int .i64) w Eb Ta.length Ta) (Gf:Ta.length ≤ Db) (Bg:Kd.C Tp w yc Ra.length Ra) (Jg:Ra.length ≤ Zb) (h:Oe.f k Ta Pa Oa Ma Ra a1=some (r1,r2)) :
  Calls Try.prog 55 #[.agg #[.slice Eb Ta.length Db,.int .i64 Pa,.int .i64 Oa,.int .i64 Ma,.slice yc Ra.length Zb],.int .i64 a1] w fun e w'=>∃ v0_:Value,e = .returned (.tuple #[v0_,.int .i64 r2])∧Kd.R GG 77 w' w.heap.size (fun _=>True) v0_ r1∧Below w.heap.size w w':=by
 have vB:=Try.underlying30
 have MD:=Try.underlying70
 have Uf:=ja.mk Kf
 have ig:=ja.mk Gf
 clear Kf Gf
 have Zg:=ja.mk Bg
 have Li:=ja.mk Jg
 clear Bg Jg
 have HB:=ja.mk (Below.refl w.heap.size w)
 have H:((mc.f k Ma).bind fun t102=>(if 0 ≤ a1 then (if a1 < (Ra.length:Int) then (Oe.l0 k t102 Ma ((Ua Ra a1).f0) 0 Ta Pa Oa Ma Ra) else (none)) else (none)))=some (r1,r2):=h
 clear h
 replace H:=Option.bind_eq_some_iff.mp H
 obtain ⟨t102,tw,H⟩:=H
 replace H:(if 0 ≤ a1 then (if a1 < (Ra.length:Int) then (Oe.l0 k t102 Ma ((Ua Ra a1).f0) 0 Ta Pa Oa Ma Ra) else (none)) else (none))=some (r1,r2):=H
 have A3:=ja.mk tw
 clear tw
 by_cases c4:0 ≤ a1
 ·rw [if_pos c4] at H
  have si:decide (0 ≤ a1)=true:=decide_eq_true c4
  clear c4
  by_cases c5:a1 < (Ra.length:Int)
  ·rw [if_pos c5] at H
   have Ok:decide (a1 < (Ra.length:Int))=true:=decide_eq_true c5
   clear c5
   have H':=ja.mk H
   clear H
   go_enter Try.func55,Try.ntmps55
   go_wp2_with (first|((with_reducible refine Pb (N:=2) rfl ?_);refine Kb ?hg (N:=2) ?hd (cs:=#[.slice Eb Ta.length Db,.int .i64 Pa,.int .i64 Oa,.int .i64 Ma,.slice yc Ra.length Zb]) (t:=30) ?hr ?_;(case hd=>rfl);(case hg=>rfl);(case hr=>first|(go_simp;done)|(go_simp;rfl));intro Da hg w6 Yb hb;have Qb:=ja.mk (Na (by repeat (first|(with_reducible first|exact HB.out|apply qa|apply ia|apply ua)|exact HB.out)) hb);have uc:=ja.mk (Yb);have Qc:=ja.mk ((by rw [hg];exact (Qa (by repeat (first|(with_reducible first|exact HB.out|apply qa|apply ia|apply ua)|exact HB.out))):w.heap.size ≤ Da));have Td:=ja.mk ((by rw [hg];exact (Qa (by repeat (first|(with_reducible first|exact HB.out|apply qa|apply ia|apply ua)|exact HB.out))):w.heap.size ≤ Da));clear HB;have HB:=Qb;have za:=uc;have Vf:=Qc;have Wa:=Td;clear Qb uc Qc Td hb Yb hg;have tr:w6.cell? ⟨Da,0,none⟩=some (.slice Eb Ta.length Db):=(ga za.out 0).trans rfl;have sr:w6.cell? ⟨Da,1,none⟩=some (.int .i64 Pa):=(ga za.out 1).trans rfl;have nr:w6.cell? ⟨Da,2,none⟩=some (.int .i64 Oa):=(ga za.out 2).trans rfl;have kr:w6.cell? ⟨Da,3,none⟩=some (.int .i64 Ma):=(ga za.out 3).trans rfl;have jr:w6.cell? ⟨Da,4,none⟩=some (.slice yc Ra.length Zb):=(ga za.out 4).trans rfl;have Kq:=aa za.out 0;have Jq:=aa za.out 1;have Iq:=aa za.out 2;have Hq:=aa za.out 3;have Gq:=aa za.out 4)|(go_at_call 76;(with_reducible refine (mc.calls k Ma t102 _ A3.out).mono ?_);rintro e w8 ⟨uK,rfl,Am,hb⟩;have Qb:=ja.mk (Kd.ri Am (Qa (by repeat (first|(with_reducible first|exact HB.out|apply qa|apply ia|apply ua|refine Aa ?_ Wa.out)|exact HB.out))));have uc:=ja.mk (Ya (g:=Da) (o:=.cells #[.slice Eb Ta.length Db,.int .i64 Pa,.int .i64 Oa,.int .i64 Ma,.slice yc Ra.length Zb] 30 (0,0)) (by (with_reducible repeat (first|refine Ga ?_ _|refine Ia ?_|refine Fa ?_ _));exact za.out) hb);have Qc:=ja.mk (Na (by repeat (first|(with_reducible first|exact HB.out|apply qa|apply ia|apply ua|refine Aa ?_ Wa.out)|exact HB.out)) hb);clear za HB;have Xr:=Qb;have za:=uc;have HB:=Qc;clear Qb uc Qc;(try clear hb);(try clear hb2);(try clear hk);(try clear hi);(try clear Am);have Ko:w8.cell? ⟨Da,0,none⟩=some (.slice Eb Ta.length Db):=(ga za.out 0).trans rfl;have Jo:w8.cell? ⟨Da,1,none⟩=some (.int .i64 Pa):=(ga za.out 1).trans rfl;have Io:w8.cell? ⟨Da,2,none⟩=some (.int .i64 Oa):=(ga za.out 2).trans rfl;have Ho:w8.cell? ⟨Da,3,none⟩=some (.int .i64 Ma):=(ga za.out 3).trans rfl;have Fo:w8.cell? ⟨Da,4,none⟩=some (.slice yc Ra.length Zb):=(ga za.out 4).trans rfl;have Eo:=aa za.out 0;have Co:=aa za.out 1;have Bo:=aa za.out 2;have Ao:=aa za.out 3;have zo:=aa za.out 4;have Zh:0 ≤ (a1:Int):=of_decide_eq_true (by first|(with_reducible assumption)|assumption);have Yh:a1 < (Ra.length:Int):=of_decide_eq_true (by first|(with_reducible assumption)|assumption);obtain ⟨Wh,Cj,yj,Lo,ze,He,Ge,Fe,Ee,wh,xh⟩:=Zf Zg.out a1 Zh Yh;cases Lo;replace ze:=(HB.out.cell (World.block_lt_of_cell? w _ ze)).trans ze;replace He:=(HB.out.cell (World.block_lt_of_cell? w _ He)).trans He;replace Ge:=(HB.out.cell (World.block_lt_of_cell? w _ Ge)).trans Ge;replace Fe:=(HB.out.cell (World.block_lt_of_cell? w _ Fe)).trans Fe;replace Ee:=(HB.out.cell (World.block_lt_of_cell? w _ Ee)).trans Ee;have Fm:=ja.mk xh;have fo:=ja.mk wh;clear xh wh;replace Zh:=eq_true Zh;replace Yh:=eq_true Yh))
   repeat (go_quiet (first|((with_reducible refine Pb (N:=2) rfl ?_);refine Kb ?hg (N:=2) ?hd (cs:=#[.slice Eb Ta.length Db,.int .i64 Pa,.int .i64 Oa,.int .i64 Ma,.slice yc Ra.length Zb]) (t:=30) ?hr ?_;(case hd=>rfl);(case hg=>rfl);(case hr=>first|(go_simp;done)|(go_simp;rfl));intro Da hg w6 Yb hb;have Qb:=ja.mk (Na (by repeat (first|(with_reducible first|exact HB.out|apply qa|apply ia|apply ua)|exact HB.out)) hb);have uc:=ja.mk (Yb);have Qc:=ja.mk ((by rw [hg];exact (Qa (by repeat (first|(with_reducible first|exact HB.out|apply qa|apply ia|apply ua)|exact HB.out))):w.heap.size ≤ Da));have Td:=ja.mk ((by rw [hg];exact (Qa (by repeat (first|(with_reducible first|exact HB.out|apply qa|apply ia|apply ua)|exact HB.out))):w.heap.size ≤ Da));clear HB;have HB:=Qb;have za:=uc;have Vf:=Qc;have Wa:=Td;clear Qb uc Qc Td hb Yb hg;have tr:w6.cell? ⟨Da,0,none⟩=some (.slice Eb Ta.length Db):=(ga za.out 0).trans rfl;have sr:w6.cell? ⟨Da,1,none⟩=some (.int .i64 Pa):=(ga za.out 1).trans rfl;have nr:w6.cell? ⟨Da,2,none⟩=some (.int .i64 Oa):=(ga za.out 2).trans rfl;have kr:w6.cell? ⟨Da,3,none⟩=some (.int .i64 Ma):=(ga za.out 3).trans rfl;have jr:w6.cell? ⟨Da,4,none⟩=some (.slice yc Ra.length Zb):=(ga za.out 4).trans rfl;have Kq:=aa za.out 0;have Jq:=aa za.out 1;have Iq:=aa za.out 2;have Hq:=aa za.out 3;have Gq:=aa za.out 4)|(go_at_call 76;(with_reducible refine (mc.calls k Ma t102 _ A3.out).mono ?_);rintro e w8 ⟨uK,rfl,Am,hb⟩;have Qb:=ja.mk (Kd.ri Am (Qa (by repeat (first|(with_reducible first|exact HB.out|apply qa|apply ia|apply ua|refine Aa ?_ Wa.out)|exact HB.out))));have uc:=ja.mk (Ya (g:=Da) (o:=.cells #[.slice Eb Ta.length Db,.int .i64 Pa,.int .i64 Oa,.int .i64 Ma,.slice yc Ra.length Zb] 30 (0,0)) (by (with_reducible repeat (first|refine Ga ?_ _|refine Ia ?_|refine Fa ?_ _));exact za.out) hb);have Qc:=ja.mk (Na (by repeat (first|(with_reducible first|exact HB.out|apply qa|apply ia|apply ua|refine Aa ?_ Wa.out)|exact HB.out)) hb);clear za HB;have Xr:=Qb;have za:=uc;have HB:=Qc;clear Qb uc Qc;(try clear hb);(try clear hb2);(try clear hk);(try clear hi);(try clear Am);have Ko:w8.cell? ⟨Da,0,none⟩=some (.slice Eb Ta.length Db):=(ga za.out 0).trans rfl;have Jo:w8.cell? ⟨Da,1,none⟩=some (.int .i64 Pa):=(ga za.out 1).trans rfl;have Io:w8.cell? ⟨Da,2,none⟩=some (.int .i64 Oa):=(ga za.out 2).trans rfl;have Ho:w8.cell? ⟨Da,3,none⟩=some (.int .i64 Ma):=(ga za.out 3).trans rfl;have Fo:w8.cell? ⟨Da,4,none⟩=some (.slice yc Ra.length Zb):=(ga za.out 4).trans rfl;have Eo:=aa za.out 0;have Co:=aa za.out 1;have Bo:=aa za.out 2;have Ao:=aa za.out 3;have zo:=aa za.out 4;have Zh:0 ≤ (a1:Int):=of_decide_eq_true (by first|(with_reducible assumption)|assumption);have Yh:a1 < (Ra.length:Int):=of_decide_eq_true (by first|(with_reducible assumption)|assumption);obtain ⟨Wh,Cj,yj,Lo,ze,He,Ge,Fe,Ee,wh,xh⟩:=Zf Zg.out a1 Zh Yh;cases Lo;replace ze:=(HB.out.cell (World.block_lt_of_cell? w _ ze)).trans ze;replace He:=(HB.out.cell (World.block_lt_of_cell? w _ He)).trans He;replace Ge:=(HB.out.cell (World.block_lt_of_cell? w _ Ge)).trans Ge;replace Fe:=(HB.out.cell (World.block_lt_of_cell? w _ Fe)).trans Fe;replace Ee:=(HB.out.cell (World.block_lt_of_cell? w _ Ee)).trans Ee;have Fm:=ja.mk xh;have fo:=ja.mk wh;clear xh wh;replace Zh:=eq_true Zh;replace Yh:=eq_true Yh));try go_wp2_with (first|((with_reducible refine Pb (N:=2) rfl ?_);refine Kb ?hg (N:=2) ?hd (cs:=#[.slice Eb Ta.length Db,.int .i64 Pa,.int .i64 Oa,.int .i64 Ma,.slice yc Ra.length Zb]) (t:=30) ?hr ?_;(case hd=>rfl);(case hg=>rfl);(case hr=>first|(go_simp;done)|(go_simp;rfl));intro Da hg w6 Yb hb;have Qb:=ja.mk (Na (by repeat (first|(with_reducible first|exact HB.out|apply qa|apply ia|apply ua)|exact HB.out)) hb);have uc:=ja.mk (Yb);have Qc:=ja.mk ((by rw [hg];exact (Qa (by repeat (first|(with_reducible first|exact HB.out|apply qa|apply ia|apply ua)|exact HB.out))):w.heap.size ≤ Da));have Td:=ja.mk ((by rw [hg];exact (Qa (by repeat (first|(with_reducible first|exact HB.out|apply qa|apply ia|apply ua)|exact HB.out))):w.heap.size ≤ Da));clear HB;have HB:=Qb;have za:=uc;have Vf:=Qc;have Wa:=Td;clear Qb uc Qc Td hb Yb hg;have tr:w6.cell? ⟨Da,0,none⟩=some (.slice Eb Ta.length Db):=(ga za.out 0).trans rfl;have sr:w6.cell? ⟨Da,1,none⟩=some (.int .i64 Pa):=(ga za.out 1).trans rfl;have nr:w6.cell? ⟨Da,2,none⟩=some (.int .i64 Oa):=(ga za.out 2).trans rfl;have kr:w6.cell? ⟨Da,3,none⟩=some (.int .i64 Ma):=(ga za.out 3).trans rfl;have jr:w6.cell? ⟨Da,4,none⟩=some (.slice yc Ra.length Zb):=(ga za.out 4).trans rfl;have Kq:=aa za.out 0;have Jq:=aa za.out 1;have Iq:=aa za.out 2;have Hq:=aa za.out 3;have Gq:=aa za.out 4)|(go_at_call 76;(with_reducible refine (mc.calls k Ma t102 _ A3.out).mono ?_);rintro e w8 ⟨uK,rfl,Am,hb⟩;have Qb:=ja.mk (Kd.ri Am (Qa (by repeat (first|(with_reducible first|exact HB.out|apply qa|apply ia|apply ua|refine Aa ?_ Wa.out)|exact HB.out))));have uc:=ja.mk (Ya (g:=Da) (o:=.cells #[.slice Eb Ta.length Db,.int .i64 Pa,.int .i64 Oa,.int .i64 Ma,.slice yc Ra.length Zb] 30 (0,0)) (by (with_reducible repeat (first|refine Ga ?_ _|refine Ia ?_|refine Fa ?_ _));exact za.out) hb);have Qc:=ja.mk (Na (by repeat (first|(with_reducible first|exact HB.out|apply qa|apply ia|apply ua|refine Aa ?_ Wa.out)|exact HB.out)) hb);clear za HB;have Xr:=Qb;have za:=uc;have HB:=Qc;clear Qb uc Qc;(try clear hb);(try clear hb2);(try clear hk);(try clear hi);(try clear Am);have Ko:w8.cell? ⟨Da,0,none⟩=some (.slice Eb Ta.length Db):=(ga za.out 0).trans rfl;have Jo:w8.cell? ⟨Da,1,none⟩=some (.int .i64 Pa):=(ga za.out 1).trans rfl;have Io:w8.cell? ⟨Da,2,none⟩=some (.int .i64 Oa):=(ga za.out 2).trans rfl;have Ho:w8.cell? ⟨Da,3,none⟩=some (.int .i64 Ma):=(ga za.out 3).trans rfl;have Fo:w8.cell? ⟨Da,4,none⟩=some (.slice yc Ra.length Zb):=(ga za.out 4).trans rfl;have Eo:=aa za.out 0;have Co:=aa za.out 1;have Bo:=aa za.out 2;have Ao:=aa za.out 3;have zo:=aa za.out 4;have Zh:0 ≤ (a1:Int):=of_decide_eq_true (by first|(with_reducible assumption)|assumption);have Yh:a1 < (Ra.length:Int):=of_decide_eq_true (by first|(with_reducible assumption)|assumption);obtain ⟨Wh,Cj,yj,Lo,ze,He,Ge,Fe,Ee,wh,xh⟩:=Zf Zg.out a1 Zh Yh;cases Lo;replace ze:=(HB.out.cell (World.block_lt_of_cell? w _ ze)).trans ze;replace He:=(HB.out.cell (World.block_lt_of_cell? w _ He)).trans He;replace Ge:=(HB.out.cell (World.block_lt_of_cell? w _ Ge)).trans Ge;replace Fe:=(HB.out.cell (World.block_lt_of_cell? w _ Fe)).trans Fe;replace Ee:=(HB.out.cell (World.block_lt_of_cell? w _ Ee)).trans Ee;have Fm:=ja.mk xh;have fo:=ja.mk wh;clear xh wh;replace Zh:=eq_true Zh;replace Yh:=eq_true Yh)))
   go_loopg [7,9] k (fun kq v7 v9 w'=>∃ (qx:List (ko)) (AJ:Int) (ak:Int),v7 = .int .i64 AJ∧v9 = .int .i64 ak∧ja (Oe.l0 kq qx AJ ((Ua Ra a1).f0) ak Ta Pa Oa Ma Ra=some (r1,r2))∧ja (kq ≤ k)∧ja (Kd.R GG 77 w' w.heap.size (fun _=>True) uK qx)∧ja (w'.heap[Da]? = some (.cells #[(.slice Eb Ta.length Db),.int .i64 Pa,.int .i64 Oa,.int .i64 Ma,(.slice (some Wh) Ra.length Zb)] 30 (0,0)))∧ja (Below w.heap.size w w'))
   case atStart=>exact ⟨(t102),(Ma),(0),(by first|rfl|(simp;done)|(simp [*];done)),(by first|rfl|(simp;done)|(simp [*];done)),H',⟨Nat.le_refl _⟩,⟨by (with_reducible repeat (first|apply Kd.Sd|apply Kd.ee|apply Kd.Ie));exact Xr.out⟩,⟨by (with_reducible repeat (first|refine Ga ?_ _|refine Ia ?_|refine Fa ?_ _));exact za.out⟩,⟨by repeat (first|(with_reducible first|exact HB.out|apply qa|apply ia|apply ua|refine Aa ?_ Wa.out)|exact HB.out)⟩⟩
   case round =>
    clear H'
    try clear c1
    try clear p1
    try clear q1
    try clear hx1
    try clear p2
    try clear c4
    try clear si
    try clear c5
    try clear Ok
    try clear tr
    try clear sr
    try clear nr
    try clear kr
    try clear jr
    try clear Ko
    try clear Jo
    try clear Io
    try clear Ho
    try clear Fo
    try clear Kq
    try clear Jq
    try clear Iq
    try clear Hq
    try clear Gq
    try clear Eo
    try clear Co
    try clear Bo
    try clear Ao
    try clear zo
    try clear ze
    try clear He
    try clear Ge
    try clear Fe
    try clear Ee
    try clear Zh
    try clear Yh
    (try clear HA)
    (try clear Ig)
    (try clear Hj)
    (try clear za)
    (try clear HB)
    obtain ⟨qx,AJ,ak,rfl,rfl,HA,Ig,Hj,za,HB⟩:=hrel
    cases gk with
    | zero=>exact absurd HA.out (by simp [Oe.l0])
    | succ k1 =>
     have H:=HA.out
     clear HA
     simp only [Oe.l0] at H
     by_cases aq:ak < (((Ua Ra a1).f0).length:Int)
     ·rw [if_pos aq] at H
      have mw:decide (ak < (((Ua Ra a1).f0).length:Int))=true:=decide_eq_true aq
      clear aq
      by_cases c11:0 ≤ ak
      ·rw [if_pos c11] at H
       have GA:decide (0 ≤ ak)=true:=decide_eq_true c11
       clear c11
       replace H:=Option.bind_eq_some_iff.mp H
       obtain ⟨⟨t107,t108⟩,B5,H⟩:=H
       replace H:(Oe.l0 k1 t108 t107 ((Ua Ra a1).f0) (wrap64 (ak + 1)) Ta Pa Oa Ma Ra)=some (r1,r2):=H
       have A12:=ja.mk B5
       clear B5
       have H':=ja.mk H
       clear H
       have uo:0 ≤ (ak:Int):=of_decide_eq_true (by first|(with_reducible assumption)|assumption)
       have oo:ak < (((Ua Ra a1).f0).length:Int):=of_decide_eq_true (by first|(with_reducible assumption)|assumption)
       obtain ⟨iu,yz,Qg,qh,oh,nh,mh,uj,tj⟩:=kf Fm.out ak uo oo
       cases yz
       replace Qg:=(HB.out.cell (World.block_lt_of_cell? w _ Qg)).trans Qg
       replace qh:=(HB.out.cell (World.block_lt_of_cell? w _ qh)).trans qh
       replace oh:=(HB.out.cell (World.block_lt_of_cell? w _ oh)).trans oh
       replace nh:=(HB.out.cell (World.block_lt_of_cell? w _ nh)).trans nh
       replace mh:=(HB.out.cell (World.block_lt_of_cell? w _ mh)).trans mh
       replace uj:=(HB.out.cell (World.block_lt_of_cell? w _ uj)).trans uj
       replace tj:=(HB.out.cell (World.block_lt_of_cell? w _ tj)).trans tj
       replace uo:=eq_true uo
       replace oo:=eq_true oo
       obtain ⟨rG,Xp,WT⟩:=Kd.Mf Hj.out
       subst WT
       go_wp2_with (first|(go_at_call 78;(with_reducible refine (Mc.calls k1 ((Ea ((Ua Ra a1).f0) ak).f0) ((Ea ((Ua Ra a1).f0) ak).f1) ((Ea ((Ua Ra a1).f0) ak).f2) ((Ea ((Ua Ra a1).f0) ak).f3) ((Ea ((Ua Ra a1).f0) ak).f4) ((Ea ((Ua Ra a1).f0) ak).f5) ((Ea ((Ua Ra a1).f0) ak).f6) (fun k_=>some k_=(.slice rG qx.length Xp:Value).ownBlock) (.slice rG qx.length Xp) qx AJ t107 t108 w _ ?side1 ?side2 A12.out).mono ?_);(case side1=>repeat (first|(with_reducible first|exact HB.out|apply qa|apply ia|apply ua|refine Aa ?_ Wa.out)|exact HB.out));(case side2=>exact Kd.Ut rfl Hj.out);rintro e rA ⟨rfl,hy0,hb,hkp⟩;have Qb:=ja.mk (Kd.gD rfl hy0 (fun k_ e_=>Hj.out.1 k_ e_));have uc:=ja.mk (Yf (by (with_reducible repeat (first|refine Ga ?_ _|refine Ia ?_|refine Fa ?_ _));exact za.out) hkp (fun hs_=>(fun e_=>(Kd.oE Hj.out za.out (by decide)) e_) hs_));have Qc:=ja.mk (hb);clear Hj za HB;have Hj:=Qb;have za:=uc;have HB:=Qc;clear Qb uc Qc;(try clear hb);(try clear hkp);(try clear hy0)))
       repeat (go_quiet (first|(go_at_call 78;(with_reducible refine (Mc.calls k1 ((Ea ((Ua Ra a1).f0) ak).f0) ((Ea ((Ua Ra a1).f0) ak).f1) ((Ea ((Ua Ra a1).f0) ak).f2) ((Ea ((Ua Ra a1).f0) ak).f3) ((Ea ((Ua Ra a1).f0) ak).f4) ((Ea ((Ua Ra a1).f0) ak).f5) ((Ea ((Ua Ra a1).f0) ak).f6) (fun k_=>some k_=(.slice rG qx.length Xp:Value).ownBlock) (.slice rG qx.length Xp) qx AJ t107 t108 w _ ?side1 ?side2 A12.out).mono ?_);(case side1=>repeat (first|(with_reducible first|exact HB.out|apply qa|apply ia|apply ua|refine Aa ?_ Wa.out)|exact HB.out));(case side2=>exact Kd.Ut rfl Hj.out);rintro e rA ⟨rfl,hy0,hb,hkp⟩;have Qb:=ja.mk (Kd.gD rfl hy0 (fun k_ e_=>Hj.out.1 k_ e_));have uc:=ja.mk (Yf (by (with_reducible repeat (first|refine Ga ?_ _|refine Ia ?_|refine Fa ?_ _));exact za.out) hkp (fun hs_=>(fun e_=>(Kd.oE Hj.out za.out (by decide)) e_) hs_));have Qc:=ja.mk (hb);clear Hj za HB;have Hj:=Qb;have za:=uc;have HB:=Qc;clear Qb uc Qc;(try clear hb);(try clear hkp);(try clear hy0)));try go_wp2_with (first|(go_at_call 78;(with_reducible refine (Mc.calls k1 ((Ea ((Ua Ra a1).f0) ak).f0) ((Ea ((Ua Ra a1).f0) ak).f1) ((Ea ((Ua Ra a1).f0) ak).f2) ((Ea ((Ua Ra a1).f0) ak).f3) ((Ea ((Ua Ra a1).f0) ak).f4) ((Ea ((Ua Ra a1).f0) ak).f5) ((Ea ((Ua Ra a1).f0) ak).f6) (fun k_=>some k_=(.slice rG qx.length Xp:Value).ownBlock) (.slice rG qx.length Xp) qx AJ t107 t108 w _ ?side1 ?side2 A12.out).mono ?_);(case side1=>repeat (first|(with_reducible first|exact HB.out|apply qa|apply ia|apply ua|refine Aa ?_ Wa.out)|exact HB.out));(case side2=>exact Kd.Ut rfl Hj.out);rintro e rA ⟨rfl,hy0,hb,hkp⟩;have Qb:=ja.mk (Kd.gD rfl hy0 (fun k_ e_=>Hj.out.1 k_ e_));have uc:=ja.mk (Yf (by (with_reducible repeat (first|refine Ga ?_ _|refine Ia ?_|refine Fa ?_ _));exact za.out) hkp (fun hs_=>(fun e_=>(Kd.oE Hj.out za.out (by decide)) e_) hs_));have Qc:=ja.mk (hb);clear Hj za HB;have Hj:=Qb;have za:=uc;have HB:=Qc;clear Qb uc Qc;(try clear hb);(try clear hkp);(try clear hy0))))
       go_roundg k1
       case measure=>have:=Ig.out;omega
       case rel=>exact ⟨(t108),(t107),(wrap64 (ak + 1)),(by first|rfl|(simp;done)|(simp [*];done)),(by first|rfl|(simp;done)|(simp [*];done)),H',⟨by have:=Ig.out;omega⟩,⟨by (with_reducible repeat (first|apply Kd.Sd|apply Kd.ee|apply Kd.Ie));exact Hj.out⟩,⟨by (with_reducible repeat (first|refine Ga ?_ _|refine Ia ?_|refine Fa ?_ _));exact za.out⟩,⟨by repeat (first|(with_reducible first|exact HB.out|apply qa|apply ia|apply ua|refine Aa ?_ Wa.out)|exact HB.out)⟩⟩
      ·rw [if_neg c11] at H
       exact absurd H (by simp)
     ·rw [if_neg aq] at H
      have mw:decide (ak < (((Ua Ra a1).f0).length:Int))=false:=decide_eq_false aq
      clear aq
      simp only [Option.some.injEq,Prod.mk.injEq] at H
      obtain ⟨rfl,rfl⟩:=H
      have Uv:wr.cell? ⟨Da,0,none⟩=some (.slice Eb Ta.length Db):=(ga za.out 0).trans rfl
      have Tv:wr.cell? ⟨Da,1,none⟩=some (.int .i64 Pa):=(ga za.out 1).trans rfl
      have Sv:wr.cell? ⟨Da,2,none⟩=some (.int .i64 Oa):=(ga za.out 2).trans rfl
      have Rv:wr.cell? ⟨Da,3,none⟩=some (.int .i64 Ma):=(ga za.out 3).trans rfl
      have Hy:wr.cell? ⟨Da,4,none⟩=some (.slice (some Wh) Ra.length Zb):=(ga za.out 4).trans rfl
      have qv:=aa za.out 0
      have jv:=aa za.out 1
      have cv:=aa za.out 2
      have av:=aa za.out 3
      have ay:=aa za.out 4
      go_wp2
      repeat (go_quiet (fail);try go_wp2)
      go_ret2
      exact ⟨_,by first|rfl|(simp [La,Ka] <;> rfl)|(simp [*,La,Ka] <;> rfl),by (with_reducible repeat (first|apply Kd.Sd|apply Kd.ee|apply Kd.Ie));exact Hj.out,by repeat (first|(with_reducible first|exact HB.out|apply qa|apply ia|apply ua|refine Aa ?_ Wa.out)|exact HB.out)⟩
  ·rw [if_neg c5] at H
   exact absurd H (by simp)
 ·rw [if_neg c4] at H
  exact absurd H (by simp)
theorem BR {W w1:World} (hb:Below W.heap.size W w1):(∀ b o,b < W.heap.size→w1.cell? ⟨b,o,none⟩=W.cell? ⟨b,o,none⟩)∧(∀ b o,b < W.heap.size→w1.frozen? ⟨b,o,none⟩=W.frozen? ⟨b,o,none⟩) :=
 ⟨fun b o h=>hb.cell (p:=⟨b,o,none⟩) h,fun b o h=>hb.frozen (p:=⟨b,o,none⟩) h⟩
theorem gu {α:Type} {l:List α} {p:α→Bool} {k:Nat} {d:α} (hk:k < l.length) (h:(l.take k).any p=false) (hx:p (l.getD k d)=false):(l.take (k + 1)).any p=false:=by
 rw [List.take_succ_eq_append_getElem hk,List.any_append,h]
 simpa [List.getD_eq_getElem?_getD,List.getElem?_eq_getElem hk] using hx
theorem eJ {α:Type} {l:List α} {p:α→Bool} {k:Nat} {d:α} (hk:k < l.length) (hx:p (l.getD k d)=true):l.any p=true:=by
 rw [List.any_eq_true]
 exact ⟨l[k],List.getElem_mem hk,by simpa [List.getD_eq_getElem?_getD,List.getElem?_eq_getElem hk] using hx⟩
theorem cA (g:Nat) (lb:Array Value) (p:yf→Bool) (eg:∀ args w,(callFunc g args).run Try.prog w = .ok (.enter g args) w) (A0:Option Addr) (c0:Nat) (l0:List yf) (w:World) (hr0:Kd.C Uj w A0 l0.length l0) (hc0:l0.length ≤ c0)
  (hp:∀ (W:World) (x:yf),Below w.heap.size w W→Calls Try.prog g (#[(.agg #[.int .i64 x.f0,.int .i64 x.f1,.int .i64 x.f2,.int .i64 x.f3,.int .i64 x.f4,.int .i64 x.f5,.string x.f6])] ++ lb) W fun e w'=>e = .returned (.bool (p x))∧Below W.heap.size W w') :
  Calls Try.prog 124 #[.slice A0 l0.length c0,.func (.func g) #[] lb] w fun e w'=>(∃ i:Int,e = .returned (.int .i64 i)∧decide (0 ≤ i)=l0.any p)∧Below w.heap.size w w':=by
 have FN:=hr0.2.1
 have Bh:=ja.mk hr0
 have Rw:=ja.mk hc0
 have HP:=ja.mk hp
 clear hr0 hc0 hp
 go_enter Try.func124,Try.ntmps124
 go_wp2
 go_loopg [5,8] l0.length (fun gg _ s8 wr=>∃ kk:Nat,kk ≤ l0.length∧l0.length - kk ≤ gg∧s8 = .int .i64 kk∧ja (Below w.heap.size w wr)∧ja ((l0.take kk).any p=false))
 case atStart=>exact ⟨0,Nat.zero_le _,by omega,rfl,⟨Below.refl _ w⟩,⟨by simp⟩⟩
 case round =>
  (try clear BW)
  (try clear HA)
  obtain ⟨kk,hkk,hg,rfl,BW,HA⟩:=hrel
  by_cases hlt:kk < l0.length
  ·have p1:0 ≤ (kk:Int):=by omega
   have q1:(kk:Int) < (l0.length:Int):=by omega
   obtain ⟨ad,e1,hx0,hx1,Ek,jk,Dk,Um,zm⟩:=kf Bh.out (kk:Int) p1 q1
   cases e1
   simp only [Int.toNat_natCast] at hx0 hx1 Ek jk Dk Um zm
   replace hx0:=(BW.out.cell (World.block_lt_of_cell? w _ hx0)).trans hx0
   replace hx1:=(BW.out.cell (World.block_lt_of_cell? w _ hx1)).trans hx1
   replace Ek:=(BW.out.cell (World.block_lt_of_cell? w _ Ek)).trans Ek
   replace jk:=(BW.out.cell (World.block_lt_of_cell? w _ jk)).trans jk
   replace Dk:=(BW.out.cell (World.block_lt_of_cell? w _ Dk)).trans Dk
   replace Um:=(BW.out.cell (World.block_lt_of_cell? w _ Um)).trans Um
   replace zm:=(BW.out.cell (World.block_lt_of_cell? w _ zm)).trans zm
   have hcall:=HP.out wr (Ea l0 (kk:Int)) BW.out
   cases hq:p (Ea l0 (kk:Int)) with
   | true =>
    rw [hq] at hcall
    go_wp2_with (go_at_fn g;refine hcall.mono ?_;rintro e w1 ⟨rfl,hb1⟩)
    go_ret
    exact ⟨⟨_,rfl,by rw [eJ (d:=Ws) hlt hq];simp⟩,BW.out.trans (hb1.mono BW.out.size)⟩
   | false =>
    rw [hq] at hcall
    go_wp2_with (go_at_fn g;refine hcall.mono ?_;rintro e w1 ⟨rfl,hb1⟩)
    go_roundg (l0.length - (kk + 1))
    case measure=>omega
    case rel=>exact ⟨kk + 1,by omega,by omega,by go_num,⟨BW.out.trans (hb1.mono BW.out.size)⟩,⟨gu (d:=Ws) hlt HA.out hq⟩⟩
  ·have Dae:¬ (kk:Int) < (l0.length:Int):=by omega
   have he:kk=l0.length:=by omega
   subst he
   go_wp2
   go_ret
   exact ⟨⟨_,rfl,by have h_:=HA.out;rw [List.take_length] at h_;rw [h_];simp⟩,BW.out⟩
theorem ou (g:Nat) (lb:Array Value) (p:yf→Bool) (eg:∀ args w,(callFunc g args).run Try.prog w = .ok (.enter g args) w) (A0:Option Addr) (c0:Nat) (l0:List yf) (w:World) (hr0:Kd.C Uj w A0 l0.length l0) (hc0:l0.length ≤ c0)
  (hp:∀ (W:World) (x:yf),Below w.heap.size w W→Calls Try.prog g (#[(.agg #[.int .i64 x.f0,.int .i64 x.f1,.int .i64 x.f2,.int .i64 x.f3,.int .i64 x.f4,.int .i64 x.f5,.string x.f6])] ++ lb) W fun e w'=>e = .returned (.bool (p x))∧Below W.heap.size W w') :
  Calls Try.prog 116 #[.slice A0 l0.length c0,.func (.func g) #[] lb] w fun e w'=>e = .returned (.bool (l0.any p))∧Below w.heap.size w w':=by
 have HI:=ja.mk (cA g lb p eg A0 c0 l0 w hr0 hc0 hp)
 clear hr0 hc0 hp
 go_enter Try.func116,Try.ntmps116
 go_wp2_with (go_at_call 124;refine HI.out.mono ?_;rintro e w1 ⟨⟨i,rfl,hi⟩,hb1⟩;have HD:=ja.mk hi;clear hi)
 go_ret
 exact ⟨by rw [← HD.out];first|rfl|simp,hb1⟩
def Fb.l0:Nat→List ByteArray→ByteArray→Int→Int→Option (Int)
 | 0,_,_,_,_=>none
 | k + 1,x0,x1,x7,x8=>if x8 < x7 then (if 0 ≤ x8 then (if x8 < (x0.length:Int) then (if x1.toList=(xl ByteArray.empty x0 x8).toList then (some x8) else (Fb.l0 k x0 x1 x7 (wrap64 (x8 + 1)))) else (none)) else (none)) else (some (-1))
def Fb.f (k:Nat) (l0:List ByteArray) (a1:ByteArray):Option (Int):=Fb.l0 k l0 a1 (l0.length:Int) 0
theorem Fb.Qd:∀ k,(∀ y0 y1 y2 y3,Nb (Fb.l0 k y0 y1 y2 y3) (Fb.l0 (k + 1) y0 y1 y2 y3))
 | 0=>fun _ _ _ _ r h=>by simp [Fb.l0] at h
 | k + 1=>by
  have Ff:=Fb.Qd k
  ·intro y0 y1 y2 y3
   unfold Fb.l0
   repeat' first
   | (with_reducible exact Ff _ _ _ _)
   | (with_reducible exact Nb.refl _)
   | (with_reducible exact Nb.none _)
   | (with_reducible refine Nb.ite ?_ ?_)
   | (with_reducible refine Nb.bind ?_ (fun _=>?_))
   | exact Ff _ _ _ _
   | exact Nb.none _
   | refine Nb.ite ?_ ?_
   | refine Nb.bind ?_ (fun _=>?_)
theorem Fb.mono:∀ a0 a1 k,Nb (Fb.f k a0 a1) (Fb.f (k + 1) a0 a1):=by
 intro a0 a1 k
 have Ff:=Fb.Qd k
 unfold Fb.f
 repeat' first
   | (with_reducible exact Ff _ _ _ _)
   | (with_reducible exact Nb.refl _)
   | (with_reducible exact Nb.none _)
   | (with_reducible refine Nb.ite ?_ ?_)
   | (with_reducible refine Nb.bind ?_ (fun _=>?_))
   | exact Ff _ _ _ _
   | exact Nb.none _
   | refine Nb.ite ?_ ?_
   | refine Nb.bind ?_ (fun _=>?_)
theorem Fb.calls (k:Nat) (A0:Option Addr) (c0:Nat) (l0:List ByteArray) (a1:ByteArray) (r:Int) (w:World) (hr0:Kd.C Kd.string w A0 l0.length l0) (hc0:l0.length ≤ c0) (h:Fb.f k l0 a1=some r) :
  Calls Try.prog 141 #[.slice A0 l0.length c0,.string a1] w fun e w'=>e = .returned (.int .i64 r)∧jc w w':=by
 have Bh:=ja.mk hr0
 have Rw:=ja.mk hc0
 clear hr0 hc0
 have H:(Fb.l0 k l0 a1 (l0.length:Int) 0)=some r:=h
 clear h
 have H':=ja.mk H
 clear H
 go_enter Try.func141,Try.ntmps141
 go_wp2
 go_loopg [8] k (fun kq v8 w'=>∃ (Qo:Int),v8 = .int .i64 Qo∧ja (Fb.l0 kq l0 a1 (l0.length:Int) Qo=some r)∧ja (kq ≤ k)∧jc w w')
 case atStart=>exact ⟨(0),(by first|rfl|(simp;done)|(simp [*];done)),H',⟨Nat.le_refl _⟩,by repeat (first|exact jc.refl _|apply jc.step)⟩
 case round =>
  clear H'
  try clear c1
  try clear p2
  (try clear HA)
  (try clear Ig)
  obtain ⟨Qo,rfl,HA,Ig,⟨m1,rfl⟩⟩:=hrel
  cases gk with
  | zero=>exact absurd HA.out (by simp [Fb.l0])
  | succ k1 =>
   have H:=HA.out
   clear HA
   simp only [Fb.l0] at H
   by_cases c3:Qo < (l0.length:Int)
   ·rw [if_pos c3] at H
    have Jh:decide (Qo < (l0.length:Int))=true:=decide_eq_true c3
    clear c3
    by_cases c4:0 ≤ Qo
    ·rw [if_pos c4] at H
     have si:decide (0 ≤ Qo)=true:=decide_eq_true c4
     clear c4
     by_cases c5:Qo < (l0.length:Int)
     ·rw [if_pos c5] at H
      have Ok:decide (Qo < (l0.length:Int))=true:=decide_eq_true c5
      clear c5
      by_cases c6:a1.toList=(xl ByteArray.empty l0 Qo).toList
      ·rw [if_pos c6] at H
       have El:(a1.toList == (xl ByteArray.empty l0 Qo).toList)=true:=beq_iff_eq.mpr c6
       have Ts:(a1.toList != (xl ByteArray.empty l0 Qo).toList)=false:=bne_eq_false_iff_eq.mpr c6
       clear c6
       obtain rfl:=Option.some.inj H
       have Vd:0 ≤ (Qo:Int):=of_decide_eq_true (by first|(with_reducible assumption)|assumption)
       have Ud:Qo < (l0.length:Int):=of_decide_eq_true (by first|(with_reducible assumption)|assumption)
       obtain ⟨ic,Eg,Ob⟩:=Kd.Pt Bh.out Qo Vd Ud
       cases Eg
       replace Vd:=eq_true Vd
       replace Ud:=eq_true Ud
       go_wp2
       go_ret
       exact ⟨by first|rfl|(simp;done)|(simp [*];done),by repeat (first|exact jc.refl _|apply jc.step)⟩
      ·rw [if_neg c6] at H
       have El:(a1.toList == (xl ByteArray.empty l0 Qo).toList)=false:=beq_eq_false_iff_ne.mpr c6
       have Ts:(a1.toList != (xl ByteArray.empty l0 Qo).toList)=true:=bne_iff_ne.mpr c6
       have H':=ja.mk H
       clear H
       have Vd:0 ≤ (Qo:Int):=of_decide_eq_true (by first|(with_reducible assumption)|assumption)
       have Ud:Qo < (l0.length:Int):=of_decide_eq_true (by first|(with_reducible assumption)|assumption)
       obtain ⟨ic,Eg,Ob⟩:=Kd.Pt Bh.out Qo Vd Ud
       cases Eg
       replace Vd:=eq_true Vd
       replace Ud:=eq_true Ud
       go_wp2
       go_roundg k1
       case measure=>have:=Ig.out;omega
       case rel=>exact ⟨(wrap64 (Qo + 1)),(by first|rfl|(simp;done)|(simp [*];done)),H',⟨by have:=Ig.out;omega⟩,by repeat (first|exact jc.refl _|apply jc.step)⟩
     ·rw [if_neg c5] at H
      exact absurd H (by simp)
    ·rw [if_neg c4] at H
     exact absurd H (by simp)
   ·rw [if_neg c3] at H
    have Jh:decide (Qo < (l0.length:Int))=false:=decide_eq_false c3
    clear c3
    obtain rfl:=Option.some.inj H
    go_wp2
    go_ret
    exact ⟨by first|rfl|(simp;done)|(simp [*];done),by repeat (first|exact jc.refl _|apply jc.step)⟩
def Zc.f (k:Nat) (l0:List ByteArray) (a1:ByteArray):Option (Bool):=(Fb.f k l0 a1).bind fun t101=>(some (decide (t101 ≥ 0)))
theorem Zc.mono:∀ a0 a1 k,Nb (Zc.f k a0 a1) (Zc.f (k + 1) a0 a1):=by
 intro a0 a1 k
 unfold Zc.f
 repeat' first
   | (with_reducible exact Fb.mono _ _ _)
   | (with_reducible exact Nb.refl _)
   | (with_reducible exact Nb.none _)
   | (with_reducible refine Nb.ite ?_ ?_)
   | (with_reducible refine Nb.bind ?_ (fun _=>?_))
   | exact Fb.mono _ _ _
   | exact Nb.none _
   | refine Nb.ite ?_ ?_
   | refine Nb.bind ?_ (fun _=>?_)
theorem Zc.calls (k:Nat) (A0:Option Addr) (c0:Nat) (l0:List ByteArray) (a1:ByteArray) (r:Bool) (w:World) (hr0:Kd.C Kd.string w A0 l0.length l0) (hc0:l0.length ≤ c0) (h:Zc.f k l0 a1=some r) :
  Calls Try.prog 140 #[.slice A0 l0.length c0,.string a1] w fun e w'=>e = .returned (.bool r)∧jc w w':=by
 have Bh:=ja.mk hr0
 have Rw:=ja.mk hc0
 clear hr0 hc0
 have H:((Fb.f k l0 a1).bind fun t101=>(some (decide (t101 ≥ 0))))=some r:=h
 clear h
 replace H:=Option.bind_eq_some_iff.mp H
 obtain ⟨t101,tw,H⟩:=H
 replace H:(some (decide (t101 ≥ 0)))=some r:=H
 have A3:=ja.mk tw
 clear tw
 obtain rfl:=Option.some.inj H
 go_enter Try.func140,Try.ntmps140
 go_wp2_with (first|((with_reducible refine xb (f:=141) rfl ?_);refine qd (some 7) rfl rfl Try.func141 (by kernel_rfl) rfl #[.slice A0 l0.length c0,.string a1] rfl (by (try simp only [List.map_toArray,List.map_cons,List.map_nil]);first|done|rfl|(simp only [List.length_drop,List.length_take];rfl)) ?_;(with_reducible refine (Fb.calls k _ _ l0 a1 t101 _ ?side1 ?side2 A3.out).mono ?_);(case side1=>repeat (first|exact Bh.out|(with_reducible refine Kd.Lc ?_ _)|(with_reducible refine Kd.Jc ?_ _)|(with_reducible refine Kd.Ed ?_)));(case side2=>exact Rw.out);rintro e w' ⟨rfl,⟨nd,rfl⟩⟩;refine ⟨_,rfl,?_⟩))
 go_ret
 exact ⟨by first|rfl|(simp;done)|(simp [*];done),by repeat (first|exact jc.refl _|apply jc.step)⟩
def Ji.f (k:Nat) (a0:ByteArray):Option (Bool):=(Zc.f k (([(⟨#[61,61]⟩:ByteArray),(⟨#[60]⟩:ByteArray),(⟨#[38]⟩:ByteArray),(⟨#[43]⟩:ByteArray),(⟨#[45]⟩:ByteArray),(⟨#[42]⟩:ByteArray)]:List ByteArray)) a0).bind fun t104=>(some t104)
theorem Ji.mono:∀ a0 k,Nb (Ji.f k a0) (Ji.f (k + 1) a0):=by
 intro a0 k
 unfold Ji.f
 repeat' first
   | (with_reducible exact Zc.mono _ _ _)
   | (with_reducible exact Nb.refl _)
   | (with_reducible exact Nb.none _)
   | (with_reducible refine Nb.ite ?_ ?_)
   | (with_reducible refine Nb.bind ?_ (fun _=>?_))
   | exact Zc.mono _ _ _
   | exact Nb.none _
   | refine Nb.ite ?_ ?_
   | refine Nb.bind ?_ (fun _=>?_)
theorem Ji.calls (k:Nat) (a0:ByteArray) (r:Bool) (w:World) (h:Ji.f k a0=some r) :
  Calls Try.prog 136 #[.string a0] w fun e w'=>e = .returned (.bool r)∧Below w.heap.size w w':=by
 have HB:=ja.mk (Below.refl w.heap.size w)
 have H:((Zc.f k (([(⟨#[61,61]⟩:ByteArray),(⟨#[60]⟩:ByteArray),(⟨#[38]⟩:ByteArray),(⟨#[43]⟩:ByteArray),(⟨#[45]⟩:ByteArray),(⟨#[42]⟩:ByteArray)]:List ByteArray)) a0).bind fun t104=>(some t104))=some r:=h
 clear h
 obtain ⟨ef,hy101⟩:∃ y_:List ByteArray,y_=(([(⟨#[61,61]⟩:ByteArray),(⟨#[60]⟩:ByteArray),(⟨#[38]⟩:ByteArray),(⟨#[43]⟩:ByteArray),(⟨#[45]⟩:ByteArray),(⟨#[42]⟩:ByteArray)]:List ByteArray)):=⟨_,rfl⟩
 replace H:((Zc.f k ef a0).bind fun t104=>(some t104))=some r:=by first|(rw [hy101];with_reducible exact H)|(have Vh:=(Option.bind_some _ _).symm.trans H;rw [hy101];with_reducible exact Vh)|(have Vh:=(Option.bind_some _ _).symm.trans H;with_reducible exact Vh)|with_reducible exact H|(rw [hy101];exact H)|exact H
 have Yj:=ja.mk hy101
 clear hy101
 replace H:=Option.bind_eq_some_iff.mp H
 obtain ⟨t104,cN,H⟩:=H
 replace H:(some t104)=some r:=H
 have A2:=ja.mk cN
 clear cN
 obtain rfl:=Option.some.inj H
 go_enter Try.func136,Try.ntmps136
 go_wp2_with (first|((with_reducible refine Pb (N:=3) rfl ?_);refine Kd.JA Kd.string _ 9 ?hg (N:=3) ?hd (xs:=([(⟨#[61,61]⟩:ByteArray),(⟨#[60]⟩:ByteArray),(⟨#[38]⟩:ByteArray),(⟨#[43]⟩:ByteArray),(⟨#[45]⟩:ByteArray),(⟨#[42]⟩:ByteArray)]:List ByteArray)) (inner:=[.string (⟨#[61,61]⟩:ByteArray),.string (⟨#[60]⟩:ByteArray),.string (⟨#[38]⟩:ByteArray),.string (⟨#[43]⟩:ByteArray),.string (⟨#[45]⟩:ByteArray),.string (⟨#[42]⟩:ByteArray)]) (ok:=fun _=>True) (Xo:=fun _=>True) ?hr ?hp (fun _ hk=>hk) trivial (Below.refl _ _) (Nat.le_refl _) (by simp) ?_;(case hd=>rfl);(case hg=>rfl);(case hr=>first|(go_simp;done)|(go_simp;rfl));(case hp=>exact (Wf.one (show Kd.M Kd.string _ _ _ (⟨#[61,61]⟩:ByteArray) [.string (⟨#[61,61]⟩:ByteArray)] from rfl) (Wf.one (show Kd.M Kd.string _ _ _ (⟨#[60]⟩:ByteArray) [.string (⟨#[60]⟩:ByteArray)] from rfl) (Wf.one (show Kd.M Kd.string _ _ _ (⟨#[38]⟩:ByteArray) [.string (⟨#[38]⟩:ByteArray)] from rfl) (Wf.one (show Kd.M Kd.string _ _ _ (⟨#[43]⟩:ByteArray) [.string (⟨#[43]⟩:ByteArray)] from rfl) (Wf.one (show Kd.M Kd.string _ _ _ (⟨#[45]⟩:ByteArray) [.string (⟨#[45]⟩:ByteArray)] from rfl) (Wf.one (show Kd.M Kd.string _ _ _ (⟨#[42]⟩:ByteArray) [.string (⟨#[42]⟩:ByteArray)] from rfl) (Wf.none _ _))))))));intro vD w3 eA hb fF yo;clear fF yo;(first|rw [← Yj.out] at eA|(simp only [Int.reduceToNat] at eA;rw [← Yj.out] at eA));have Qb:=ja.mk (Kd.ri eA (Qa (by repeat (first|(with_reducible first|exact HB.out|apply qa|apply ia|apply ua)|exact HB.out))));have uc:=ja.mk (Na (by repeat (first|(with_reducible first|exact HB.out|apply qa|apply ia|apply ua)|exact HB.out)) hb);clear HB;have vq:=Qb;have HB:=uc;clear Qb uc hb eA;obtain ⟨Ao5,co5,YM⟩:=Kd.Mf vq.out;subst YM)|((with_reducible refine xb (f:=140) rfl ?_);refine qd (some 5) rfl rfl Try.func140 (by kernel_rfl) rfl #[.slice Ao5 ef.length co5,.string a0] rfl (by (try simp only [List.map_toArray,List.map_cons,List.map_nil]);first|done|rfl|(simp only [List.length_drop,List.length_take];rfl)) ?_;(with_reducible refine (Zc.calls k _ _ ef a0 t104 _ ?side1 ?side2 A2.out).mono ?_);(case side1=>repeat (first|exact (Kd.Fc vq.out).2.2|(with_reducible refine Kd.Lc ?_ _)|(with_reducible refine Kd.Jc ?_ _)|(with_reducible refine Kd.Ed ?_)));(case side2=>exact (Kd.Fc vq.out).2.1);rintro e w' ⟨rfl,⟨nd,rfl⟩⟩;refine ⟨_,rfl,?_⟩))
 go_ret
 exact ⟨by first|rfl|(simp [La,Ka] <;> rfl)|(simp [*,La,Ka] <;> rfl),by repeat (first|(with_reducible first|exact HB.out|apply qa|apply ia|apply ua)|exact HB.out)⟩
def Pg.f (a0:Int) (a1:Int) (a2:Int):Option (Bool):=if a0 ≥ a1 then (some (decide (a0 ≤ a2))) else (some false)
theorem Pg.calls (a0:Int) (a1:Int) (a2:Int) (r:Bool) (w:World) (h:Pg.f a0 a1 a2=some r) :
  Calls Try.prog 58 #[.int .i64 a0,.int .i64 a1,.int .i64 a2] w fun e w'=>e = .returned (.bool r)∧jc w w':=by
 have H:(if a0 ≥ a1 then (some (decide (a0 ≤ a2))) else (some false))=some r:=h
 clear h
 by_cases c4:a0 ≥ a1
 ·rw [if_pos c4] at H
  have si:decide (a1 ≤ a0)=true:=decide_eq_true c4
  clear c4
  obtain rfl:=Option.some.inj H
  go_enter Try.func58,Try.ntmps58
  go_wp2
  go_ret
  exact ⟨by first|rfl|(simp;done)|(simp [*];done),by repeat (first|exact jc.refl _|apply jc.step)⟩
 ·rw [if_neg c4] at H
  have si:decide (a1 ≤ a0)=false:=decide_eq_false c4
  clear c4
  obtain rfl:=Option.some.inj H
  go_enter Try.func58,Try.ntmps58
  go_wp2
  go_ret
  exact ⟨by first|rfl|(simp;done)|(simp [*];done),by repeat (first|exact jc.refl _|apply jc.step)⟩
theorem LD (g:Nat) (lb:Array Value) (p:Int→Bool) (eg:∀ args w,(callFunc g args).run Try.prog w = .ok (.enter g args) w) (A0:Option Addr) (c0:Nat) (l0:List Int) (w:World) (hr0:Kd.C (Kd.int .i64) w A0 l0.length l0) (hc0:l0.length ≤ c0)
  (hp:∀ (W:World) (x:Int),Below w.heap.size w W→Calls Try.prog g (#[(.int .i64 x)] ++ lb) W fun e w'=>e = .returned (.bool (p x))∧Below W.heap.size W w') :
  Calls Try.prog 130 #[.slice A0 l0.length c0,.func (.func g) #[] lb] w fun e w'=>(∃ i:Int,e = .returned (.int .i64 i)∧decide (0 ≤ i)=l0.any p)∧Below w.heap.size w w':=by
 have FN:=hr0.2.1
 have Bh:=ja.mk hr0
 have Rw:=ja.mk hc0
 have HP:=ja.mk hp
 clear hr0 hc0 hp
 go_enter Try.func130,Try.ntmps130
 go_wp2
 go_loopg [5,8] l0.length (fun gg _ s8 wr=>∃ kk:Nat,kk ≤ l0.length∧l0.length - kk ≤ gg∧s8 = .int .i64 kk∧ja (Below w.heap.size w wr)∧ja ((l0.take kk).any p=false))
 case atStart=>exact ⟨0,Nat.zero_le _,by omega,rfl,⟨Below.refl _ w⟩,⟨by simp⟩⟩
 case round =>
  (try clear BW)
  (try clear HA)
  obtain ⟨kk,hkk,hg,rfl,BW,HA⟩:=hrel
  by_cases hlt:kk < l0.length
  ·have p1:0 ≤ (kk:Int):=by omega
   have q1:(kk:Int) < (l0.length:Int):=by omega
   obtain ⟨ad,e1,hx0⟩:=Kd.bq Bh.out (kk:Int) p1 q1
   cases e1
   simp only [Int.toNat_natCast] at hx0
   replace hx0:=(BW.out.cell (World.block_lt_of_cell? w _ hx0)).trans hx0
   have hcall:=HP.out wr (rd l0 (kk:Int)) BW.out
   cases hq:p (rd l0 (kk:Int)) with
   | true =>
    rw [hq] at hcall
    go_wp2_with (go_at_fn g;refine hcall.mono ?_;rintro e w1 ⟨rfl,hb1⟩)
    go_ret
    exact ⟨⟨_,rfl,by rw [eJ (d:=0) hlt hq];simp⟩,BW.out.trans (hb1.mono BW.out.size)⟩
   | false =>
    rw [hq] at hcall
    go_wp2_with (go_at_fn g;refine hcall.mono ?_;rintro e w1 ⟨rfl,hb1⟩)
    go_roundg (l0.length - (kk + 1))
    case measure=>omega
    case rel=>exact ⟨kk + 1,by omega,by omega,by go_num,⟨BW.out.trans (hb1.mono BW.out.size)⟩,⟨gu (d:=0) hlt HA.out hq⟩⟩
  ·have Dae:¬ (kk:Int) < (l0.length:Int):=by omega
   have he:kk=l0.length:=by omega
   subst he
   go_wp2
   go_ret
   exact ⟨⟨_,rfl,by have h_:=HA.out;rw [List.take_length] at h_;rw [h_];simp⟩,BW.out⟩
theorem Fw (g:Nat) (lb:Array Value) (p:Int→Bool) (eg:∀ args w,(callFunc g args).run Try.prog w = .ok (.enter g args) w) (A0:Option Addr) (c0:Nat) (l0:List Int) (w:World) (hr0:Kd.C (Kd.int .i64) w A0 l0.length l0) (hc0:l0.length ≤ c0)
  (hp:∀ (W:World) (x:Int),Below w.heap.size w W→Calls Try.prog g (#[(.int .i64 x)] ++ lb) W fun e w'=>e = .returned (.bool (p x))∧Below W.heap.size W w') :
  Calls Try.prog 113 #[.slice A0 l0.length c0,.func (.func g) #[] lb] w fun e w'=>e = .returned (.bool (l0.any p))∧Below w.heap.size w w':=by
 have HI:=ja.mk (LD g lb p eg A0 c0 l0 w hr0 hc0 hp)
 clear hr0 hc0 hp
 go_enter Try.func113,Try.ntmps113
 go_wp2_with (go_at_call 130;refine HI.out.mono ?_;rintro e w1 ⟨⟨i,rfl,hi⟩,hb1⟩;have HD:=ja.mk hi;clear hi)
 go_ret
 exact ⟨by rw [← HD.out];first|rfl|simp,hb1⟩
def fk (a b c:Int):Bool:=decide (b ≤ a) && decide (a ≤ c)
theorem rj (a b c:Int) (w:World):Calls Try.prog 58 #[.int .i64 a,.int .i64 b,.int .i64 c] w fun e w'=>e = .returned (.bool (fk a b c))∧jc w w' :=
 Pg.calls a b c (fk a b c) w (by
  unfold Pg.f fk
  by_cases h:a ≥ b
  ·rw [if_pos h]
   have h':b ≤ a:=h
   simp [h']
  ·rw [if_neg h]
   have h':¬ b ≤ a:=h
   simp [h'])
def ku (l:List Int) (p v:Int):Bool:=fk (l.length:Int) 1 4 && !(l.any fun n=>!fk n 1 16) && fk p 0 (if v < 6 then v else 6) && decide (v ≤ 20)
theorem GD (W:World) (x:Int):Calls Try.prog 114 #[.int .i64 x] W fun e w'=>e = .returned (.bool (!fk x 1 16))∧Below W.heap.size W w':=by
 have HC:=ja.mk (rj x 1 16)
 generalize fk x 1 16=b at HC ⊢
 go_enter Try.func114,Try.ntmps114
 go_wp2_with (go_at_call 58;refine (HC.out _).mono ?_;rintro e w1 ⟨rfl,hb1⟩;have HD:=ja.mk hb1.below;clear hb1)
 go_ret
 exact ⟨rfl,HD.out⟩
theorem dD (p0 p1 p2 p3:Value) (A:Option Addr) (c:Nat) (w:World) :
  Calls Try.prog 115 #[.agg #[p0,p1,p2,p3],.slice A 0 c,.int .i64 0] w fun e w'=>e = .returned (.bool true)∧Below w.heap.size w w':=by
 go_enter Try.func115,Try.ntmps115
 go_wp2
 go_loop [25] (fun i=>i = .int .i64 0) (fun _=>0)
 case atStart=>exact rfl
 case round =>
  obtain rfl:=hrel
  go_wp2
  go_ret
  exact ⟨rfl,qa (qa (Below.refl _ _) _) _⟩
theorem aA (A0 A3:Option Addr) (c0 c3:Nat) (l0:List Int) (a1 a2:Int) (w:World) (hr0:Kd.C (Kd.int .i64) w A0 l0.length l0) (hc0:l0.length ≤ c0) :
  Calls Try.prog 89 #[.agg #[.slice A0 l0.length c0,.int .i64 a1,.int .i64 a2,.slice A3 0 c3]] w fun e w'=>e = .returned (.bool (ku l0 a1 a2))∧Below w.heap.size w w':=by
 have eg:=enters_of Try.func114 (by kernel_rfl) rfl
 have FN:=hr0.2.1
 have WU:=ja.mk (rj (l0.length:Int) 1 4)
 have yQ:=ja.mk (rj a1 0 (if a2 < 6 then a2 else 6))
 have HF:=ja.mk (fun (W:World) (hb:Below w.heap.size w W)=>Fw 114 #[] (fun n=>!fk n 1 16) eg A0 c0 l0 W (Kd.Mb hr0 hb) hc0 (fun W x _=>GD W x))
 clear hr0 hc0
 unfold ku
 by_cases h6:a2 < 6
 all_goals
  have hmin:min 6 a2=if a2 < 6 then a2 else 6:=by split <;> omega
  first|rw [if_pos h6] at yQ hmin ⊢|rw [if_neg h6] at yQ hmin ⊢
  cases hb1:fk (l0.length:Int) 1 4 with
  | false =>
   go_enter Try.func89,Try.ntmps89
   go_wp2_with (first|(go_at_call 58;refine (rj _ _ _ _).mono ?_;rintro e w1 ⟨rfl,⟨n,rfl⟩⟩))
   go_ret
   exact ⟨rfl,ia (qa (Below.refl _ _) _) _⟩
  | true =>
   cases hb2:(l0.any fun n=>!fk n 1 16) with
   | true =>
    rw [hb2] at HF
    go_enter Try.func89,Try.ntmps89
    go_wp2_with (first|(go_at_call 58;refine (rj _ _ _ _).mono ?_;rintro e w1 ⟨rfl,⟨n,rfl⟩⟩)|(go_at_call 113;refine (HF.out _ (ia (qa (Below.refl _ _) _) _)).mono ?_;rintro e w1 ⟨rfl,hb⟩;have HB:=ja.mk (Na (ia (qa (Below.refl _ _) _) _) hb);clear hb))
    go_ret
    exact ⟨rfl,HB.out⟩
   | false =>
    rw [hb2] at HF
    go_enter Try.func89,Try.ntmps89
    go_wp2_with (first|(go_at_call 58;(with_reducible refine (rj _ _ _ _).mono ?_);rintro e w1 ⟨rfl,⟨n,rfl⟩⟩)|(go_at_call 113;(with_reducible refine (HF.out _ (ia (qa (Below.refl _ _) _) _)).mono ?_);rintro e w1 ⟨rfl,hb⟩;have HB:=ja.mk (Na (ia (qa (Below.refl _ _) _) _) hb);obtain ⟨ZP,OO⟩:=BR hb;have UK:=hb.size;simp at UK;clear hb)|(go_at_call 115;(with_reducible refine (dD _ _ _ _ _ _ _).mono ?_);rintro e w2 ⟨rfl,hb⟩;have gq:=ja.mk (Na (ia HB.out _) hb);clear hb))
    all_goals
     go_ret
     first
      | exact ⟨by simp [*],gq.out⟩
      | exact ⟨by simp [*],ia HB.out _⟩
def jh.f (Ta:List Int) (Pa:Int) (Oa:Int) (XE:List (Lw)):Option Bool:=if XE.length=0 then some (ku Ta Pa Oa) else none
theorem jh.calls (Eb:Option Addr) (Db:Nat) (Ta:List Int) (Pa:Int) (Oa:Int) (bV:Option Addr) (nU:Nat) (XE:List (Lw)) (r:Bool) (w:World) (Kf:Kd.C (Kd.int .i64) w Eb Ta.length Ta) (Gf:Ta.length ≤ Db) (Dag:Kd.C Tad w bV XE.length XE) (Cai:XE.length ≤ nU) (h:jh.f Ta Pa Oa XE=some r) :
  Calls Try.prog 89 #[.agg #[.slice Eb Ta.length Db,.int .i64 Pa,.int .i64 Oa,.slice bV XE.length nU]] w fun e w'=>e = .returned (.bool r)∧Below w.heap.size w w':=by
 unfold jh.f at h
 split at h
 ·rename_i h0
  injection h with h
  subst h
  rw [h0]
  exact aA Eb bV Db nU Ta Pa Oa w Kf Gf
 ·cases h
theorem E1 (d:Nat) (w:World) (x0 y0:Int) (x1 y1:Int) (x2 y2:Int) (x3 y3:Int) (x4 y4:Int) (x5 y5:Int) (x6 y6:ByteArray) :
  (Op.equalIn (d + 2) 70 (.agg #[.int .i64 x0,.int .i64 x1,.int .i64 x2,.int .i64 x3,.int .i64 x4,.int .i64 x5,.string x6]) (.agg #[.int .i64 y0,.int .i64 y1,.int .i64 y2,.int .i64 y3,.int .i64 y4,.int .i64 y5,.string y6])).run Try.prog w = .ok (x0 == y0 && (x1 == y1 && (x2 == y2 && (x3 == y3 && (x4 == y4 && (x5 == y5 && (x6.toList == y6.toList))))))) w:=by
 refine VT Try.underlying70 (by kernel_rfl) ?_
 refine qq (by rfl) (by go_simp;rfl) (by go_simp;rfl) (by go_simp) ?_
 refine qq (by rfl) (by go_simp;rfl) (by go_simp;rfl) (by go_simp) ?_
 refine qq (by rfl) (by go_simp;rfl) (by go_simp;rfl) (by go_simp) ?_
 refine qq (by rfl) (by go_simp;rfl) (by go_simp;rfl) (by go_simp) ?_
 refine qq (by rfl) (by go_simp;rfl) (by go_simp;rfl) (by go_simp) ?_
 refine qq (by rfl) (by go_simp;rfl) (by go_simp;rfl) (by go_simp) ?_
 exact VL (by rfl) (by go_simp;rfl) (by go_simp;rfl) (by go_simp)
end Go.Proofs.Ytmifdccaajngcaa.P
end
