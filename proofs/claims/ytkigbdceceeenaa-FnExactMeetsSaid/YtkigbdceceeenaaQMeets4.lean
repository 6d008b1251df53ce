import Derived.Test.YtkigbdceceeenaaQMeets1
import Derived.Test.YtkigbdceceeenaaQMeets3
set_option maxHeartbeats 8000000
set_option maxRecDepth 100000
section
namespace Go.Proofs.Ytkigbdceceeenaa.P
open Go.RowKit Go.Proofs.Pa.Ub Go.Proofs.Pa.Sd Go.Proofs.Pa.Xe
set_option linter.unusedVariables false
set_option linter.unusedSimpArgs false
attribute [local go_sem] Jh Bi tj nk wh uh Ci Ai
mutual
def gb.l0:Nat→List (List Bool)→Int→List Int→Int→Int→Int→List (Re)→Option ((List (List Bool)))
 | 0,_,_,_,_,_,_,_=>none
 | k + 1,x3,x4,Cc,Tc,Ic,Gc,Wb=>if x4 < (Wb.length:Int) then (if 0 ≤ Gc then (if (Gc:Int).toNat ≤ 281474976710656 then (if x3.length < 5864062014805 then (gb.l0 k (x3 ++ [(List.replicate (Gc:Int).toNat false)]) (wrap64 (x4 + 1)) Cc Tc Ic Gc Wb) else (none)) else (none)) else (none)) else (gb.l1 k x3 true Cc Tc Ic Gc Wb)
def gb.l1:Nat→List (List Bool)→Bool→List Int→Int→Int→Int→List (Re)→Option ((List (List Bool)))
 | 0,_,_,_,_,_,_,_=>none
 | k + 1,x3,x5,Cc,Tc,Ic,Gc,Wb=>if x5=true then (gb.l2 k x3 false (wrap64 ((Wb.length:Int) - 1)) Cc Tc Ic Gc Wb) else (some x3)
def gb.l2:Nat→List (List Bool)→Bool→Int→List Int→Int→Int→Int→List (Re)→Option ((List (List Bool)))
 | 0,_,_,_,_,_,_,_,_=>none
 | k + 1,x3,x5,x6,Cc,Tc,Ic,Gc,Wb=>if x6 ≥ 0 then (if 0 ≤ x6 then (if x6 < (Wb.length:Int) then ((jk.f ((Ea Wb x6).f0) ((Ea Wb x6).f1) ((Ea Wb x6).f2) ((Ea Wb x6).f3) ((Ea Wb x6).f4)).bind fun t112=>(gb.l3 k x3 x5 x6 t112 0 Cc Tc Ic Gc Wb)) else (none)) else (none)) else (gb.l1 k x3 x5 Cc Tc Ic Gc Wb)
def gb.l3:Nat→List (List Bool)→Bool→Int→List Int→Int→List Int→Int→Int→Int→List (Re)→Option ((List (List Bool)))
 | 0,_,_,_,_,_,_,_,_,_,_=>none
 | k + 1,x3,x5,x6,x7,x8,Cc,Tc,Ic,Gc,Wb=>if x8 < (x7.length:Int) then (if 0 ≤ x8 then (if 0 ≤ (rd x7 x8) then (if (rd x7 x8) < (Wb.length:Int) then (if (rd x7 x8) < (x3.length:Int) then ((Mf.f k ((Ea Wb (rd x7 x8)).f0) ((Ea Wb (rd x7 x8)).f1) ((Ea Wb (rd x7 x8)).f2) ((Ea Wb (rd x7 x8)).f3) ((Ea Wb (rd x7 x8)).f4) (Pd x3 (rd x7 x8))).bind fun t119=>(gb.l4 k x3 x5 x6 x7 x8 t119 0 Cc Tc Ic Gc Wb)) else (none)) else (none)) else (none)) else (none)) else (gb.l2 k x3 x5 (wrap64 (x6 - 1)) Cc Tc Ic Gc Wb)
def gb.l4:Nat→List (List Bool)→Bool→Int→List Int→Int→List Bool→Int→List Int→Int→Int→Int→List (Re)→Option ((List (List Bool)))
 | 0,_,_,_,_,_,_,_,_,_,_,_,_=>none
 | k + 1,x3,x5,x6,x7,x8,x9,fV,Cc,Tc,Ic,Gc,Wb=>if fV < Gc then (if 0 ≤ fV then (if fV < (x9.length:Int) then (if lg false x9 fV=true then (if 0 ≤ x6 then (if x6 < (x3.length:Int) then (if fV < ((Pd x3 x6).length:Int) then (if (lg false (Pd x3 x6) fV=true) then (gb.l4 k x3 x5 x6 x7 x8 x9 (wrap64 (fV + 1)) Cc Tc Ic Gc Wb) else (gb.l4 k (x3.set (x6:Int).toNat ((Pd x3 x6).set (fV:Int).toNat true)) true x6 x7 x8 x9 (wrap64 (fV + 1)) Cc Tc Ic Gc Wb)) else (none)) else (none)) else (none)) else (gb.l4 k x3 x5 x6 x7 x8 x9 (wrap64 (fV + 1)) Cc Tc Ic Gc Wb)) else (none)) else (none)) else (gb.l3 k x3 x5 x6 x7 (wrap64 (x8 + 1)) Cc Tc Ic Gc Wb)
end
def gb.f (k:Nat) (Ra:List Int) (La:Int) (Ja:Int) (Ma:Int) (Aa:List (Re)):Option ((List (List Bool))):=gb.l0 k (([]:List (List Bool))) 0 Ra La Ja Ma Aa
def gb.T16:Bool × List (List Nat × List Nat):=(true,[([],[]),([0],[0]),([],[]),([],[]),([2,3],[2,3]),([4],[4]),([1,5],[1,5]),([6],[6]),([],[]),([],[]),([],[]),([9,10],[9,10]),([11],[11]),([8,12],[8,12]),([13],[13]),([7,14],[7,14]),([15,15,0,1,2,3,4,5,6,7,8,9,10,11,12,13,14,15],[15])])
def gb.B16:List Nat:=[0,1,0,0,12,28,63,127,0,0,0,1536,3584,7936,16128,32767,65535]
theorem gb.O_:Zn .any (opsOf Try.f41 16)=gb.T16:=by kernel_rfl
theorem gb.V7:vo gb.T16.2 gb.B16=true:=by kernel_rfl
theorem gb.calls (k:Nat) (Xa:Option Addr) (Ya:Nat) (Ra:List Int) (La:Int) (Ja:Int) (Ma:Int) (Mb:Option Addr) (Fb:Nat) (Aa:List (Re)) (r:List (List Bool)) (w:World) (Xd:Kd.C (Kd.int .i64) w Xa Ra.length Ra) (Vd:Ra.length ≤ Ya) (Ff:Kd.C Kp w Mb Aa.length Aa) (uf:Aa.length ≤ Fb) (h:gb.f k Ra La Ja Ma Aa=some r) :
  Calls Try.prog 41 #[.agg #[.slice Xa Ra.length Ya,.int .i64 La,.int .i64 Ja,.int .i64 Ma,.slice Mb Aa.length Fb]] w fun e w'=>∃ Hl:Value,e = .returned (Hl)∧Kd.S (Kd.slice 4 Kd.bool) 60 w' w.heap.size (fun _=>True) Hl r∧Below w.heap.size w w':=by
 have eE:=Try.underlying30;have YA:=Try.underlying59;have Ye:=ga.mk Xd;have gf:=ga.mk Vd;clear Xd Vd;have wg:=ga.mk Ff;have ei:=ga.mk uf;clear Ff uf;have HB:=ga.mk (Below.refl w.heap.size w);have H:(gb.l0 k (([]:List (List Bool))) 0 Ra La Ja Ma Aa)=some r:=h;clear h;obtain ⟨ld,tf⟩:∃ y_:List (List Bool),y_=(([]:List (List Bool))):=⟨_,rfl⟩;replace H:(gb.l0 k ld 0 Ra La Ja Ma Aa)=some r:=by first|(rw [tf];with_reducible exact H)|(have Md:=(Option.bind_some _ _).symm.trans H;rw [tf];with_reducible exact Md)|(have Md:=(Option.bind_some _ _).symm.trans H;with_reducible exact Md)|with_reducible exact H|(rw [tf];exact H)|exact H
 have Ch:=ga.mk tf;clear tf;have H':=ga.mk H;clear H;go_enter Try.func41,Try.ntmps41;go_wp2_with (first|((with_reducible refine qb (N:=1) rfl ?_);refine Gb ?hg (N:=1) ?hd (cs:=#[.slice Xa Ra.length Ya,.int .i64 La,.int .i64 Ja,.int .i64 Ma,.slice Mb Aa.length Fb]) (t:=30) ?hr ?_;(case hd=>rfl);(case hg=>rfl);(case hr=>first|(go_simp;done)|(go_simp;rfl));intro ya hg w2 Ob hb;have yb:=ga.mk (Qa (by repeat (first|(with_reducible first|exact HB.out|apply qa|apply ja|apply ta)|exact HB.out)) hb);have Ib:=ga.mk (Ob);have Nb:=ga.mk ((by rw [hg];exact (Ia (by repeat (first|(with_reducible first|exact HB.out|apply qa|apply ja|apply ta)|exact HB.out))):w.heap.size ≤ ya));have Dc:=ga.mk ((by rw [hg];exact (Ia (by repeat (first|(with_reducible first|exact HB.out|apply qa|apply ja|apply ta)|exact HB.out))):w.heap.size ≤ ya));clear HB;have HB:=yb;have oa:=Ib;have Nd:=Nb;have Ta:=Dc;clear yb Ib Nb Dc hb Ob hg)|((with_reducible refine qb (N:=11) rfl ?_);refine Kd.uP (Kd.slice 4 Kd.bool) _ 60 ?hg (N:=11) ?hd (xs:=([]:List (List Bool))) (inner:=[]) (ok:=fun _=>True) (Tg:=fun _=>True) ?hr ?hp (fun _ hk=>hk) trivial (Below.refl _ _) (Nat.le_refl _) (by simp) ?_;(case hd=>rfl);(case hg=>rfl);(case hr=>first|(go_simp;done)|(go_simp;rfl));(case hp=>exact (xd.none _ _));intro En w3 bA hb Al He;clear Al He;(first|rw [← Ch.out] at bA|(simp only [Int.reduceToNat] at bA;rw [← Ch.out] at bA));have yb:=ga.mk (Kd.Yo bA (Ia (by repeat (first|(with_reducible first|exact HB.out|apply qa|apply ja|apply ta|refine ua ?_ Ta.out)|exact HB.out))));have Ib:=ga.mk (Va (g:=ya) (o:=.cells #[.slice Xa Ra.length Ya,.int .i64 La,.int .i64 Ja,.int .i64 Ma,.slice Mb Aa.length Fb] 30 (0,0)) (by (with_reducible repeat (first|refine Ba ?_ _|refine Fa ?_|refine Ca ?_ _));exact oa.out) hb);have Nb:=ga.mk (Qa (by repeat (first|(with_reducible first|exact HB.out|apply qa|apply ja|apply ta|refine ua ?_ Ta.out)|exact HB.out)) hb);clear oa HB;have mg:=yb;have oa:=Ib;have HB:=Nb;clear yb Ib Nb hb bA))
 go_loopg [3,4] k (fun kq v3 v4 w'=>∃ (od:List (List Bool)) (Rc:Int),v4 = .int .i64 Rc∧ga (gb.l0 kq od Rc Ra La Ja Ma Aa=some r)∧ga (kq ≤ k)∧ga (Kd.S (Kd.slice 4 Kd.bool) 60 w' w.heap.size (fun _=>True) v3 od)∧ga (w'.heap[ya]? = some (.cells #[(.slice Xa Ra.length Ya),.int .i64 La,.int .i64 Ja,.int .i64 Ma,(.slice Mb Aa.length Fb)] 30 (0,0)))∧ga (Below w.heap.size w w'))
 case atStart=>exact ⟨(ld),(0),(by first|rfl|(simp;done)|(simp [*];done)),H',⟨Nat.le_refl _⟩,⟨by (with_reducible repeat (first|apply Kd.Xc|apply Kd.Wc|apply Kd.yd));exact mg.out⟩,⟨by (with_reducible repeat (first|refine Ba ?_ _|refine Fa ?_|refine Ca ?_ _));exact oa.out⟩,⟨by repeat (first|(with_reducible first|exact HB.out|apply qa|apply ja|apply ta|refine ua ?_ Ta.out)|exact HB.out)⟩⟩
 case round =>
  clear H'
  try clear p2
  try clear c4
  (try clear HA);(try clear Xf);(try clear Mc);(try clear oa);(try clear HB);obtain ⟨od,Rc,rfl,HA,Xf,Mc,oa,HB⟩:=hrel;cases gk with
  | zero=>exact absurd HA.out (by simp [gb.l0])
  | succ k1 =>
   have H:=HA.out;clear HA;simp only [gb.l0] at H
   by_cases c5:Rc < (Aa.length:Int)
   ·rw [if_pos c5] at H;have Ui:decide (Rc < (Aa.length:Int))=true:=decide_eq_true c5;clear c5
    by_cases c6:0 ≤ Ma
    ·rw [if_pos c6] at H;have zm:=eq_true c6;have dB:decide (0 ≤ Ma)=true:=decide_eq_true c6;clear c6
     by_cases c7:(Ma:Int).toNat ≤ 281474976710656
     ·rw [if_pos c7] at H;have Ek:=eq_true c7;have kr:decide ((Ma:Int).toNat ≤ 281474976710656)=true:=decide_eq_true c7;clear c7;obtain ⟨Od,lf⟩:∃ y_:List Bool,y_=(List.replicate (Ma:Int).toNat false):=⟨_,rfl⟩;replace H:(if od.length < 5864062014805 then (gb.l0 k1 (od ++ [Od]) (wrap64 (Rc + 1)) Ra La Ja Ma Aa) else (none))=some r:=by first|(rw [lf];with_reducible exact H)|(have Md:=(Option.bind_some _ _).symm.trans H;rw [lf];with_reducible exact Md)|(have Md:=(Option.bind_some _ _).symm.trans H;with_reducible exact Md)|with_reducible exact H|(rw [lf];exact H)|exact H
      have Dk:=ga.mk lf;clear lf
      by_cases c8:od.length < 5864062014805
      ·rw [if_pos c8] at H;have Lar:=ga.mk c8;clear c8;obtain ⟨Bg,kf⟩:∃ y_:List (List Bool),y_=(od ++ [Od]):=⟨_,rfl⟩;replace H:(gb.l0 k1 Bg (wrap64 (Rc + 1)) Ra La Ja Ma Aa)=some r:=by first|(rw [kf];with_reducible exact H)|(have Md:=(Option.bind_some _ _).symm.trans H;rw [kf];with_reducible exact Md)|(have Md:=(Option.bind_some _ _).symm.trans H;with_reducible exact Md)|with_reducible exact H|(rw [kf];exact H)|exact H
       have Hi:=ga.mk kf;clear kf;have H':=ga.mk H;clear H;have xm:wr.cell? ⟨ya,0,none⟩=some (.slice Xa Ra.length Ya):=(ia oa.out 0).trans rfl;have wm:wr.cell? ⟨ya,1,none⟩=some (.int .i64 La):=(ia oa.out 1).trans rfl;have vm:wr.cell? ⟨ya,2,none⟩=some (.int .i64 Ja):=(ia oa.out 2).trans rfl;have um:wr.cell? ⟨ya,3,none⟩=some (.int .i64 Ma):=(ia oa.out 3).trans rfl;have rm:wr.cell? ⟨ya,4,none⟩=some (.slice Mb Aa.length Fb):=(ia oa.out 4).trans rfl;have qm:=aa oa.out 0;have om:=aa oa.out 1;have mm:=aa oa.out 2;have jm:=aa oa.out 3;have gm:=aa oa.out 4;go_wp2_with (first|((with_reducible refine qb (N:=22) rfl ?_);refine Kd.Yw Kd.bool _ 4 rfl (N:=22) rfl 60 _ _ rfl Ma rfl rfl Try.underlying60 (.bool false) 1 Ew rfl (by decide) (by omega) false (ok:=fun _=>True) (Tg:=fun _=>True) rfl (fun _ hk=>hk) trivial (Ua) (Nat.le_trans (Nat.mul_le_mul_right _ (Ua:Ma.toNat ≤ 281474976710656)) (by omega)) (Below.refl _ _) (Nat.le_refl _) ?_;intro Oz Wq Wo hb Al He;clear Al He;(first|rw [← Dk.out] at Wo|(simp only [Int.reduceToNat] at Wo;rw [← Dk.out] at Wo));have yb:=ga.mk (Kd.yu (by (with_reducible repeat (first|apply Kd.Xc|apply Kd.Wc|apply Kd.yd));exact Mc.out) (Kd.ax Wo) hb);have Ib:=ga.mk (Kd.we Wo (Ia (by repeat (first|(with_reducible first|exact HB.out|apply qa|apply ja|apply ta|refine ua ?_ Ta.out)|exact HB.out))));have Nb:=ga.mk (Va (g:=ya) (o:=.cells #[.slice Xa Ra.length Ya,.int .i64 La,.int .i64 Ja,.int .i64 Ma,.slice Mb Aa.length Fb] 30 (0,0)) (by (with_reducible repeat (first|refine Ba ?_ _|refine Fa ?_|refine Ca ?_ _));exact oa.out) hb);have Dc:=ga.mk (Qa (by repeat (first|(with_reducible first|exact HB.out|apply qa|apply ja|apply ta|refine ua ?_ Ta.out)|exact HB.out)) hb);clear Mc oa HB;have Mc:=yb;have di:=Ib;have oa:=Nb;have HB:=Dc;clear yb Ib Nb Dc hb Wo;obtain ⟨gI,Bp,mL⟩:=Kd.Zd di.out;subst mL)|((with_reducible refine Ld (b:=.append) (xs:=#[.tmp 19,.tmp 23]) rfl ?_);at_builtin;refine Kd.tr (Kd.slice 4 Kd.bool) (w0:=w) w.heap.size rfl (.tmp 19) (.tmp 23) 55 60 (.slice none 0 0) 24 rfl Try.underlying55 YC rfl (by decide) (by omega) u3 od Od [.slice gI Od.length Bp] (fun _=>True) (fun k_=>some k_=(.slice gI Od.length Bp:Value).ownBlock) rfl rfl ?aP (fun k_ nW=>((Kd.Bd (Ot:=fun k_=>((fun _=>True)) k_∧some k_ ≠ (u3:Value).ownBlock) (Kd.Rn (di.out) (Kd.Bm Mc.out) (by decide)) (fun k_ hk=>⟨trivial,hk.2⟩))).1 k_ nW.symm) ?aF ?aO ?aB ?aS ?aL ?_;(case aP=>exact Kd.CP (Kd.Bd (Kd.Oq rfl (Kd.Bd (Ot:=fun k_=>((fun _=>True)) k_∧some k_ ≠ (u3:Value).ownBlock) (Kd.Rn (di.out) (Kd.Bm Mc.out) (by decide)) (fun k_ hk=>⟨trivial,hk.2⟩))) (fun _ h_=>h_)));(case aB=>exact (by repeat (first|(with_reducible first|exact HB.out|apply qa|apply ja|apply ta|refine ua ?_ Ta.out)|exact HB.out)));(case aF=>exact (fun _ _=>trivial));(case aO=>exact (by (with_reducible repeat (first|apply Kd.Xc|apply Kd.Wc|apply Kd.yd));exact Kd.Mg Mc.out (fun k_ hk=>⟨trivial,fun e_=>hk.2 e_⟩)));(case aS=>exact (Ia (by repeat (first|(with_reducible first|exact HB.out|apply qa|apply ja|apply ta|refine ua ?_ Ta.out)|exact HB.out))));(case aL=>have:=Lar.out;omega);intro ZD Ht ho hb hg hat;rw [← Hi.out] at ho;have yb:=ga.mk (td (g:=ya) (o:=.cells #[.slice Xa Ra.length Ya,.int .i64 La,.int .i64 Ja,.int .i64 Ma,.slice Mb Aa.length Fb] 30 (0,0)) (by (with_reducible repeat (first|refine Ba ?_ _|refine Fa ?_|refine Ca ?_ _));exact oa.out) hg (Kd.Z7 Mc.out oa.out (by decide)));have Ib:=ga.mk (hb);have Nb:=ga.mk (ho);clear oa HB Mc di;have oa:=yb;have HB:=Ib;have qi:=Nb;clear yb Ib Nb ho hb hg hat))
       go_roundg k1
       case measure=>have:=Xf.out;omega
       case rel=>exact ⟨(Bg),(wrap64 (Rc + 1)),(by first|rfl|(simp;done)|(simp [*];done)),H',⟨by have:=Xf.out;omega⟩,⟨by (with_reducible repeat (first|apply Kd.Xc|apply Kd.Wc|apply Kd.yd));exact qi.out⟩,⟨by (with_reducible repeat (first|refine Ba ?_ _|refine Fa ?_|refine Ca ?_ _));exact oa.out⟩,⟨by repeat (first|(with_reducible first|exact HB.out|apply qa|apply ja|apply ta|refine ua ?_ Ta.out)|exact HB.out)⟩⟩
      ·rw [if_neg c8] at H;exact absurd H (by simp)
     ·rw [if_neg c7] at H;exact absurd H (by simp)
    ·rw [if_neg c6] at H;exact absurd H (by simp)
   ·rw [if_neg c5] at H;have Ui:decide (Rc < (Aa.length:Int))=false:=decide_eq_false c5;clear c5;have H':=ga.mk H;clear H;have Nj:wr.cell? ⟨ya,0,none⟩=some (.slice Xa Ra.length Ya):=(ia oa.out 0).trans rfl;have Mj:wr.cell? ⟨ya,1,none⟩=some (.int .i64 La):=(ia oa.out 1).trans rfl;have Lj:wr.cell? ⟨ya,2,none⟩=some (.int .i64 Ja):=(ia oa.out 2).trans rfl;have Kj:wr.cell? ⟨ya,3,none⟩=some (.int .i64 Ma):=(ia oa.out 3).trans rfl;have Jj:wr.cell? ⟨ya,4,none⟩=some (.slice Mb Aa.length Fb):=(ia oa.out 4).trans rfl;have Gj:=aa oa.out 0;have Fj:=aa oa.out 1;have Ej:=aa oa.out 2;have Dj:=aa oa.out 3;have Cj:=aa oa.out 4;go_wp2
    go_loopg [5] k1 (fun kq v5 w'=>∃ (Mz:List (List Bool)) (Gm:Bool),v5 = .bool Gm∧ga (gb.l1 kq Mz Gm Ra La Ja Ma Aa=some r)∧ga (kq ≤ k1)∧ga (Kd.S (Kd.slice 4 Kd.bool) 60 w' w.heap.size (fun _=>True) u3 Mz)∧ga (w'.heap[ya]? = some (.cells #[(.slice Xa Ra.length Ya),.int .i64 La,.int .i64 Ja,.int .i64 Ma,(.slice Mb Aa.length Fb)] 30 (0,0)))∧ga (Below w.heap.size w w'))
    case atStart=>exact ⟨(od),(true),(by first|rfl|(simp;done)|(simp [*];done)),H',⟨Nat.le_refl _⟩,⟨by (with_reducible repeat (first|apply Kd.Xc|apply Kd.Wc|apply Kd.yd));exact Mc.out⟩,⟨by (with_reducible repeat (first|refine Ba ?_ _|refine Fa ?_|refine Ca ?_ _));exact oa.out⟩,⟨by repeat (first|(with_reducible first|exact HB.out|apply qa|apply ja|apply ta|refine ua ?_ Ta.out)|exact HB.out)⟩⟩
    case round =>
     clear H'
     try clear p2
     try clear c4
     try clear c5
     try clear Ui
     try clear c6
     try clear zm
     try clear dB
     try clear p6
     try clear c7
     try clear Ek
     try clear kr
     try clear c8
     try clear Nj
     try clear Mj
     try clear Lj
     try clear Kj
     try clear Jj
     try clear xm
     try clear wm
     try clear vm
     try clear um
     try clear rm
     try clear Gj
     try clear Fj
     try clear Ej
     try clear Dj
     try clear Cj
     try clear qm
     try clear om
     try clear mm
     try clear jm
     try clear gm
     try clear p2
     (try clear HA);(try clear Dr);(try clear Mc);(try clear oa);(try clear HB);obtain ⟨Mz,Gm,rfl,HA,Dr,Mc,oa,HB⟩:=hrel;cases gk with
     | zero=>exact absurd HA.out (by simp [gb.l1])
     | succ k2 =>
      have H:=HA.out;clear HA;simp only [gb.l1] at H
      by_cases yD:Gm=true
      ·subst yD;have H1:(gb.l2 k2 Mz false (wrap64 ((Aa.length:Int) - 1)) Ra La Ja Ma Aa)=some r:=by rw [if_pos rfl] at H;exact H
       clear H;have H:=H1;clear H1;have H':=ga.mk H;clear H;have zn:wr.cell? ⟨ya,0,none⟩=some (.slice Xa Ra.length Ya):=(ia oa.out 0).trans rfl;have vn:wr.cell? ⟨ya,1,none⟩=some (.int .i64 La):=(ia oa.out 1).trans rfl;have sn:wr.cell? ⟨ya,2,none⟩=some (.int .i64 Ja):=(ia oa.out 2).trans rfl;have qn:wr.cell? ⟨ya,3,none⟩=some (.int .i64 Ma):=(ia oa.out 3).trans rfl;have pn:wr.cell? ⟨ya,4,none⟩=some (.slice Mb Aa.length Fb):=(ia oa.out 4).trans rfl;have kn:=aa oa.out 0;have jn:=aa oa.out 1;have gn:=aa oa.out 2;have en:=aa oa.out 3;have dn:=aa oa.out 4;go_wp2
       go_loopg [5,6] k2 (fun kq v5 v6 w'=>∃ (iQ:List (List Bool)) (Ue:Bool) (Le:Int),v5 = .bool Ue∧v6 = .int .i64 Le∧ga (gb.l2 kq iQ Ue Le Ra La Ja Ma Aa=some r)∧ga (kq ≤ k2)∧ga (Kd.S (Kd.slice 4 Kd.bool) 60 w' w.heap.size (fun _=>True) u3 iQ)∧ga (w'.heap[ya]? = some (.cells #[(.slice Xa Ra.length Ya),.int .i64 La,.int .i64 Ja,.int .i64 Ma,(.slice Mb Aa.length Fb)] 30 (0,0)))∧ga (Below w.heap.size w w'))
       case atStart=>exact ⟨(Mz),(false),(wrap64 ((Aa.length:Int) - 1)),(by first|rfl|(simp;done)|(simp [*];done)),(by first|rfl|(simp;done)|(simp [*];done)),H',⟨Nat.le_refl _⟩,⟨by (with_reducible repeat (first|apply Kd.Xc|apply Kd.Wc|apply Kd.yd));exact Mc.out⟩,⟨by (with_reducible repeat (first|refine Ba ?_ _|refine Fa ?_|refine Ca ?_ _));exact oa.out⟩,⟨by repeat (first|(with_reducible first|exact HB.out|apply qa|apply ja|apply ta|refine ua ?_ Ta.out)|exact HB.out)⟩⟩
       case round =>
        clear H'
        try clear c1
        try clear p2
        try clear c4
        try clear c5
        try clear Ui
        try clear c6
        try clear zm
        try clear dB
        try clear p6
        try clear c7
        try clear Ek
        try clear kr
        try clear c8
        try clear yD
        try clear Nj
        try clear Mj
        try clear Lj
        try clear Kj
        try clear Jj
        try clear zn
        try clear vn
        try clear sn
        try clear qn
        try clear pn
        try clear xm
        try clear wm
        try clear vm
        try clear um
        try clear rm
        try clear Gj
        try clear Fj
        try clear Ej
        try clear Dj
        try clear Cj
        try clear kn
        try clear jn
        try clear gn
        try clear en
        try clear dn
        try clear qm
        try clear om
        try clear mm
        try clear jm
        try clear gm
        try clear p2
        try clear p6
        (try clear HA);(try clear tC);(try clear Mc);(try clear oa);(try clear HB);obtain ⟨iQ,Ue,Le,rfl,rfl,HA,tC,Mc,oa,HB⟩:=hrel;cases gk with
        | zero=>exact absurd HA.out (by simp [gb.l2])
        | succ k3 =>
         have H:=HA.out;clear HA;simp only [gb.l2] at H
         by_cases Qp:Le ≥ 0
         ·rw [if_pos Qp] at H;have Dp:decide (0 ≤ Le)=true:=decide_eq_true Qp;clear Qp
          by_cases Pp:0 ≤ Le
          ·rw [if_pos Pp] at H;have qo:decide (0 ≤ Le)=true:=decide_eq_true Pp;clear Pp
           by_cases Pn:Le < (Aa.length:Int)
           ·rw [if_pos Pn] at H;have vu:decide (Le < (Aa.length:Int))=true:=decide_eq_true Pn;clear Pn;replace H:=Option.bind_eq_some_iff.mp H;obtain ⟨t112,aV,H⟩:=H;replace H:(gb.l3 k3 iQ Ue Le t112 0 Ra La Ja Ma Aa)=some r:=H;have xI:=ga.mk aV;clear aV;have H':=ga.mk H;clear H;have cC:wr.cell? ⟨ya,0,none⟩=some (.slice Xa Ra.length Ya):=(ia oa.out 0).trans rfl;have bC:wr.cell? ⟨ya,1,none⟩=some (.int .i64 La):=(ia oa.out 1).trans rfl;have aC:wr.cell? ⟨ya,2,none⟩=some (.int .i64 Ja):=(ia oa.out 2).trans rfl;have ZB:wr.cell? ⟨ya,3,none⟩=some (.int .i64 Ma):=(ia oa.out 3).trans rfl;have YB:wr.cell? ⟨ya,4,none⟩=some (.slice Mb Aa.length Fb):=(ia oa.out 4).trans rfl;have CB:=aa oa.out 0;have BB:=aa oa.out 1;have AB:=aa oa.out 2;have zB:=aa oa.out 3;have yB:=aa oa.out 4;have RR:0 ≤ (Le:Int):=Ua;have NR:Le < (Aa.length:Int):=Ua;obtain ⟨vl,S9,L7,xar,mB,lB,kB,jB,iB,BM,GM⟩:=Vi wg.out Le RR NR;cases xar
            try replace mB:=Sa HB.out mB
            try replace lB:=Sa HB.out lB
            try replace kB:=Sa HB.out kB
            try replace jB:=Sa HB.out jB
            try replace iB:=Sa HB.out iB
            have oZ:=ga.mk GM;have CZ:=ga.mk BM;clear GM BM;replace RR:=eq_true RR;replace NR:=eq_true NR;go_wp2_with (first|((with_reducible refine mb (f:=72) rfl ?_);refine Fc (some 39) rfl rfl Try.func72 (by kernel_rfl) rfl #[.agg #[.slice S9 ((Ea Aa Le).f0).length L7,.int .i64 ((Ea Aa Le).f1),.int .i64 ((Ea Aa Le).f2),.int .i64 ((Ea Aa Le).f3),.int .i64 ((Ea Aa Le).f4)]] rfl (by (try simp only [List.map_toArray,List.map_cons,List.map_nil]);first|done|rfl|(simp only [List.length_drop,List.length_take];rfl)) ?_;(with_reducible refine (jk.calls _ _ ((Ea Aa Le).f0) ((Ea Aa Le).f1) ((Ea Aa Le).f2) ((Ea Aa Le).f3) ((Ea Aa Le).f4) t112 _ ?yc ?uc xI.out).mono ?_);(case yc=>repeat (first|exact (Kd.Jb oZ.out HB.out)|(with_reducible refine Kd.Rb ?_ _)|(with_reducible refine Kd.Qb ?_ _)|(with_reducible refine Kd.Yb ?_)));(case uc=>exact CZ.out);rintro e wE ⟨Nao,rfl,Vj,hb⟩;refine ⟨_,rfl,?_⟩;have yb:=ga.mk (Kd.Yd (by (with_reducible repeat (first|apply Kd.Xc|apply Kd.Wc|apply Kd.yd));exact Mc.out) hb);have Ib:=ga.mk (Kd.we Vj (Ia (by repeat (first|(with_reducible first|exact HB.out|apply qa|apply ja|apply ta|refine ua ?_ Ta.out)|exact HB.out))));have Nb:=ga.mk (Va (g:=ya) (o:=.cells #[.slice Xa Ra.length Ya,.int .i64 La,.int .i64 Ja,.int .i64 Ma,.slice (some vl) Aa.length Fb] 30 (0,0)) (by (with_reducible repeat (first|refine Ba ?_ _|refine Fa ?_|refine Ca ?_ _));exact oa.out) hb);have Dc:=ga.mk (Qa (by repeat (first|(with_reducible first|exact HB.out|apply qa|apply ja|apply ta|refine ua ?_ Ta.out)|exact HB.out)) hb);clear Mc oa HB;have Mc:=yb;have gag:=Ib;have oa:=Nb;have HB:=Dc;clear yb Ib Nb Dc;(try clear hb);(try clear bk);(try clear hk);(try clear hi);(try clear Vj)))
            go_loopg [5,8] k3 (fun kq v5 v8 w'=>∃ (ox:List (List Bool)) (gQ:Bool) (Kf:Int),v5 = .bool gQ∧v8 = .int .i64 Kf∧ga (gb.l3 kq ox gQ Le t112 Kf Ra La Ja Ma Aa=some r)∧ga (kq ≤ k3)∧ga (Kd.S (Kd.slice 4 Kd.bool) 60 w' w.heap.size (fun _=>True) u3 ox)∧ga (Kd.R (Kd.int .i64) 3 w' w.heap.size (fun _=>True) Nao t112)∧ga (w'.heap[ya]? = some (.cells #[(.slice Xa Ra.length Ya),.int .i64 La,.int .i64 Ja,.int .i64 Ma,(.slice (some vl) Aa.length Fb)] 30 (0,0)))∧ga (Below w.heap.size w w'))
            case atStart=>exact ⟨(iQ),(Ue),(0),(by first|rfl|(simp;done)|(simp [*];done)),(by first|rfl|(simp;done)|(simp [*];done)),H',⟨Nat.le_refl _⟩,⟨by (with_reducible repeat (first|apply Kd.Xc|apply Kd.Wc|apply Kd.yd));exact Mc.out⟩,⟨by (with_reducible repeat (first|apply Kd.Ab|apply Kd.zb|apply Kd.Pb));exact gag.out⟩,⟨by (with_reducible repeat (first|refine Ba ?_ _|refine Fa ?_|refine Ca ?_ _));exact oa.out⟩,⟨by repeat (first|(with_reducible first|exact HB.out|apply qa|apply ja|apply ta|refine ua ?_ Ta.out)|exact HB.out)⟩⟩
            case round =>
             clear H'
             try clear c1
             try clear p1
             try clear q1
             try clear hx1
             try clear p2
             try clear c4
             try clear c5
             try clear Ui
             try clear c6
             try clear zm
             try clear dB
             try clear p6
             try clear c7
             try clear Ek
             try clear kr
             try clear c8
             try clear oP
             try clear mI
             try clear lI
             try clear xS
             try clear yD
             try clear Qp
             try clear Dp
             try clear Pp
             try clear qo
             try clear Pn
             try clear vu
             try clear Nj
             try clear Mj
             try clear Lj
             try clear Kj
             try clear Jj
             try clear zn
             try clear vn
             try clear sn
             try clear qn
             try clear pn
             try clear cC
             try clear bC
             try clear aC
             try clear ZB
             try clear YB
             try clear xm
             try clear wm
             try clear vm
             try clear um
             try clear rm
             try clear Gj
             try clear Fj
             try clear Ej
             try clear Dj
             try clear Cj
             try clear kn
             try clear jn
             try clear gn
             try clear en
             try clear dn
             try clear CB
             try clear BB
             try clear AB
             try clear zB
             try clear yB
             try clear qm
             try clear om
             try clear mm
             try clear jm
             try clear gm
             try clear mB
             try clear lB
             try clear kB
             try clear jB
             try clear iB
             try clear RR
             try clear p2
             try clear p6
             try clear NR
             (try clear HA);(try clear UU);(try clear Mc);(try clear Jk);(try clear oa);(try clear HB);obtain ⟨ox,gQ,Kf,rfl,rfl,HA,UU,Mc,Jk,oa,HB⟩:=hrel;cases gk with
             | zero=>exact absurd HA.out (by simp [gb.l3])
             | succ k4 =>
              have H:=HA.out;clear HA;simp only [gb.l3] at H
              by_cases eB:Kf < (t112.length:Int)
              ·rw [if_pos eB] at H;have lP:decide (Kf < (t112.length:Int))=true:=decide_eq_true eB;clear eB
               by_cases YQ:0 ≤ Kf
               ·rw [if_pos YQ] at H;have Sae:decide (0 ≤ Kf)=true:=decide_eq_true YQ;clear YQ
                by_cases rI:0 ≤ (rd t112 Kf)
                ·rw [if_pos rI] at H;have iU:decide (0 ≤ (rd t112 Kf))=true:=decide_eq_true rI;clear rI
                 by_cases qR:(rd t112 Kf) < (Aa.length:Int)
                 ·rw [if_pos qR] at H;have Qae:decide ((rd t112 Kf) < (Aa.length:Int))=true:=decide_eq_true qR;clear qR
                  by_cases hU:(rd t112 Kf) < (ox.length:Int)
                  ·rw [if_pos hU] at H;have Pae:decide ((rd t112 Kf) < (ox.length:Int))=true:=decide_eq_true hU;clear hU;replace H:=Option.bind_eq_some_iff.mp H;obtain ⟨t119,cah,H⟩:=H;replace H:(gb.l4 k4 ox gQ Le t112 Kf t119 0 Ra La Ja Ma Aa)=some r:=H;have A28:=ga.mk cah;clear cah;have H':=ga.mk H;clear H;obtain ⟨Jas,kae,P6⟩:=Kd.Zd Jk.out;subst P6
                   try go_wp2
                   have yb:=ga.mk (Kd.yd Mc.out);have Ib:=ga.mk (Kd.Pb Jk.out);have Nb:=ga.mk (Fa oa.out);have Dc:=ga.mk (ta HB.out);clear Mc Jk oa HB;have Mc:=yb;have Jk:=Ib;have oa:=Nb;have HB:=Dc;clear yb Ib Nb Dc;have VV:0 ≤ (Kf:Int):=Ua;have QV:Kf < (t112.length:Int):=Ua;obtain ⟨qP,war,KF⟩:=Kd.Ik (Kd.Bc Jk.out).2.2 Kf VV QV;cases war;replace VV:=eq_true VV;replace QV:=eq_true QV;have TV:0 ≤ ((rd t112 Kf):Int):=Ua;have PV:(rd t112 Kf) < (Aa.length:Int):=Ua;obtain ⟨caf,dV,nU,uar,Px,Ox,Nx,Mx,Lx,zM,FM⟩:=Vi wg.out (rd t112 Kf) TV PV;have qM:=Lx;have rM:=Mx;have sM:=Nx;have uM:=Ox;have vM:=Px;obtain rfl:vl=caf:=(by injection uar)
                   try replace Px:=Sa HB.out Px
                   try replace Ox:=Sa HB.out Ox
                   try replace Nx:=Sa HB.out Nx
                   try replace Mx:=Sa HB.out Mx
                   try replace Lx:=Sa HB.out Lx
                   have LP:=ga.mk FM;have AZ:=ga.mk zM;clear FM zM;replace TV:=eq_true TV;replace PV:=eq_true PV;have SV:0 ≤ (Kf:Int):=Ua;have OV:Kf < (t112.length:Int):=Ua;obtain ⟨baf,tar,JF⟩:=Kd.Ik (Kd.Bc Jk.out).2.2 Kf SV OV;obtain rfl:qP=baf:=(by injection tar);replace SV:=eq_true SV;replace OV:=eq_true OV;obtain ⟨KaA,jae,gae⟩:=Kd.mh Mc.out;(first|subst gae|(injection gae with f1_ f2_ f3_;have f4_:=f1_.symm;have f5_:=f3_.symm;clear f1_ f2_ f3_;subst f4_;subst f5_));have PR:0 ≤ ((rd t112 Kf):Int):=Ua;have MR:(rd t112 Kf) < (ox.length:Int):=Ua;obtain ⟨UE,cV,mU,sar,Kx,yM,EM⟩:=Vq (Kd.Uc Mc.out).2.2 (rd t112 Kf) PR MR;cases sar;obtain ⟨Taw,j6,D6,KT⟩:=Kd.CD Mc.out [] (rd t112 Kf) PR (by first|exact MR|exact Ua|(have e_:=(Kd.Uc Mc.out).1;omega));obtain ⟨nah,rfl,FH⟩:=D6;have uy:=KT 0 _ rfl;rw [Nat.add_zero,show ((Kd.slice 4 Kd.bool)).sz=1 from rfl,Nat.mul_one] at uy;replace uy:=Option.some.inj (uy.symm.trans Kx);rw [uy] at FH;have Iz:=ga.mk (show Kd.R Kd.bool 4 _ _ _ _ (Pd ox (rd t112 Kf)) from FH);clear uy FH;have rC:=ga.mk Kx;clear KT j6;have yt:=ga.mk EM;have zZ:=ga.mk yM;clear EM yM;replace PR:=eq_true PR;replace MR:=eq_true MR;refine Km (n:=17) (S:=fun w'=>w'.cell? ⟨ya,0,none⟩=some (.slice Xa Ra.length Ya)∧w'.cell? ⟨ya,1,none⟩=some (.int .i64 La)∧w'.cell? ⟨ya,2,none⟩=some (.int .i64 Ja)∧w'.cell? ⟨ya,3,none⟩=some (.int .i64 Ma)∧w'.cell? ⟨ya,4,none⟩=some (.slice (some vl) Aa.length Fb)∧w'.cell? (qP.add (Kf).toNat)=some (.int .i64 (rd t112 Kf))∧w'.cell? (vl.add (((rd t112 Kf)).toNat * 5))=some (.slice dV ((Ea Aa (rd t112 Kf)).f0).length nU)∧w'.cell? ⟨(vl.add (((rd t112 Kf)).toNat * 5)).block,(vl.add (((rd t112 Kf)).toNat * 5)).off + 1,none⟩=some (.int .i64 ((Ea Aa (rd t112 Kf)).f1))∧w'.cell? ⟨(vl.add (((rd t112 Kf)).toNat * 5)).block,(vl.add (((rd t112 Kf)).toNat * 5)).off + 2,none⟩=some (.int .i64 ((Ea Aa (rd t112 Kf)).f2))∧w'.cell? ⟨(vl.add (((rd t112 Kf)).toNat * 5)).block,(vl.add (((rd t112 Kf)).toNat * 5)).off + 3,none⟩=some (.int .i64 ((Ea Aa (rd t112 Kf)).f3))∧w'.cell? ⟨(vl.add (((rd t112 Kf)).toNat * 5)).block,(vl.add (((rd t112 Kf)).toNat * 5)).off + 4,none⟩=some (.int .i64 ((Ea Aa (rd t112 Kf)).f4))∧w'.cell? (qP.add (Kf).toNat)=some (.int .i64 (rd t112 Kf))∧w'.cell? (UE.add ((rd t112 Kf)).toNat)=some (.slice cV (Pd ox (rd t112 Kf)).length mU)) (ds:=[]) #[false,false,false,false,false,false,false,false,false,false,false,false,false,false,false,false,false] (by kernel_rfl) rfl rfl ⟨(ia oa.out 0).trans rfl,(ia oa.out 1).trans rfl,(ia oa.out 2).trans rfl,(ia oa.out 3).trans rfl,(ia oa.out 4).trans rfl,KF,(Sa HB.out vM),(Sa HB.out uM),(Sa HB.out sM),(Sa HB.out rM),(Sa HB.out qM),JF,Kx⟩ (fun hHeld=>?_);refine jj gb.O_ gb.V7 (fun qg iw=>?_);generalize wr.drew=Nz at Mc Jk oa HB Iz LP yt rC KF Px Ox Nx Mx Lx JF Kx hHeld ⊢;refine zd (i:=0) (N:=some 46) (v:=?_) (a':=?_) #[true,false,false,false,false,false,false,false,false,false,false,false,false,false,false,false,false] rfl rfl (Sc qg.out (by kernel_rfl)) (fun _ _ _ h=>h) (Or.inl ⟨by rfl,?_⟩) ?_ ?_;rotate_left
                   ·intro w';go_simp;with_reducible rfl
                   rotate_left
                   ·simp only [Act.put,List.setIfInBounds_toArray,List.set_cons_zero,List.set_cons_succ,Zb,dc]
                    rfl
                   refine zd (i:=2) (N:=some 48) (v:=?_) (a':=?_) #[true,false,true,false,false,false,false,false,false,false,false,false,false,false,false,false,false] rfl rfl (Sc qg.out (by kernel_rfl)) (fun _ _ _ h=>h) (Or.inl ⟨by rfl,?_⟩) ?_ ?_;rotate_left
                   ·intro w';go_simp;with_reducible rfl
                   rotate_left
                   ·simp only [Act.put,List.setIfInBounds_toArray,List.set_cons_zero,List.set_cons_succ,Zb,dc]
                    rfl
                   refine zd (i:=3) (N:=some 49) (v:=?_) (a':=?_) #[true,false,true,true,false,false,false,false,false,false,false,false,false,false,false,false,false] rfl rfl (Sc qg.out (by kernel_rfl)) (fun _ _ _ h=>h) (Or.inl ⟨by rfl,?_⟩) ?_ ?_;rotate_left
                   ·intro w';go_simp;with_reducible rfl
                   rotate_left
                   ·simp only [Act.put,List.setIfInBounds_toArray,List.set_cons_zero,List.set_cons_succ,Zb,dc]
                    rfl
                   refine zd (i:=4) (N:=some 50) (v:=?_) (a':=?_) #[true,false,true,true,true,false,false,false,false,false,false,false,false,false,false,false,false] rfl rfl (Sc qg.out (by kernel_rfl)) (fun _ _ _ h=>h) (Or.inl ⟨by rfl,?_⟩) ?_ ?_;rotate_left
                   ·intro w';go_simp;with_reducible rfl
                   rotate_left
                   ·simp only [Act.put,List.setIfInBounds_toArray,List.set_cons_zero,List.set_cons_succ,Zb,dc]
                    rfl
                   refine zd (i:=8) (N:=some 54) (v:=?_) (a':=?_) #[true,false,true,true,true,false,false,false,true,false,false,false,false,false,false,false,false] rfl rfl (Sc qg.out (by kernel_rfl)) (fun _ _ _ h=>h) (Or.inl ⟨by rfl,?_⟩) ?_ ?_;rotate_left
                   ·intro w';go_simp;with_reducible rfl
                   rotate_left
                   ·simp only [Act.put,List.setIfInBounds_toArray,List.set_cons_zero,List.set_cons_succ,Zb,dc]
                    rfl
                   refine zd (i:=9) (N:=some 55) (v:=?_) (a':=?_) #[true,false,true,true,true,false,false,false,true,true,false,false,false,false,false,false,false] rfl rfl (Sc qg.out (by kernel_rfl)) (fun _ _ _ h=>h) (Or.inl ⟨by rfl,?_⟩) ?_ ?_;rotate_left
                   ·intro w';go_simp;with_reducible rfl
                   rotate_left
                   ·simp only [Act.put,List.setIfInBounds_toArray,List.set_cons_zero,List.set_cons_succ,Zb,dc]
                    rfl
                   refine zd (i:=10) (N:=some 56) (v:=?_) (a':=?_) #[true,false,true,true,true,false,false,false,true,true,true,false,false,false,false,false,false] rfl rfl (Sc qg.out (by kernel_rfl)) (fun _ _ _ h=>h) (Or.inl ⟨by rfl,?_⟩) ?_ ?_;rotate_left
                   ·intro w';go_simp;with_reducible rfl
                   rotate_left
                   ·simp only [Act.put,List.setIfInBounds_toArray,List.set_cons_zero,List.set_cons_succ,Zb,dc]
                    rfl
                   refine zd (i:=11) (N:=some 57) (v:=?_) (a':=?_) #[true,false,true,true,true,false,false,false,true,true,true,true,false,false,false,false,false] rfl rfl (Sc qg.out (by kernel_rfl)) (fun _ _ _ h=>h) (Or.inl ⟨by rfl,?_⟩) ?_ ?_;rotate_left
                   ·intro w';go_simp;with_reducible rfl
                   rotate_left
                   ·simp only [Act.put,List.setIfInBounds_toArray,List.set_cons_zero,List.set_cons_succ,Zb,dc]
                    rfl
                   refine Ug (i:=1) (N:=some 47) (v:=?_) (a':=?_) #[true,true,true,true,true,false,false,false,true,true,true,true,false,false,false,false,false] rfl rfl (Gf qg.out iw.out (by kernel_rfl)) (fun _ _ _ h=>h) (Or.inl ⟨by rfl,?_⟩) hHeld ?_ ?_;rotate_left
                   ·rintro w' ⟨s0,s1,s2,s3,s4,s5,s6,s7,s8,s9,YL,XL,WL⟩;go_simp;with_reducible rfl
                   rotate_left
                   ·simp only [Act.put,List.setIfInBounds_toArray,List.set_cons_zero,List.set_cons_succ,Zb,dc]
                    rfl
                   refine Ug (i:=5) (N:=some 51) (v:=?_) (a':=?_) #[true,true,true,true,true,true,false,false,true,true,true,true,false,false,false,false,false] rfl rfl (Gf qg.out iw.out (by kernel_rfl)) (fun _ _ _ h=>h) (Or.inl ⟨by rfl,?_⟩) hHeld ?_ ?_;rotate_left
                   ·rintro w' ⟨s0,s1,s2,s3,s4,s5,s6,s7,s8,s9,YL,XL,WL⟩;go_simp;with_reducible rfl
                   rotate_left
                   ·simp only [Act.put,List.setIfInBounds_toArray,List.set_cons_zero,List.set_cons_succ,Zb,dc]
                    rfl
                   refine zd (i:=6) (N:=some 52) (v:=?_) (a':=?_) #[true,true,true,true,true,true,true,false,true,true,true,true,false,false,false,false,false] rfl rfl (Sc qg.out (by kernel_rfl)) (fun _ _ _ h=>h) (Or.inl ⟨by rfl,?_⟩) ?_ ?_;rotate_left
                   ·intro w';go_simp;with_reducible rfl
                   rotate_left
                   ·simp only [Act.put,List.setIfInBounds_toArray,List.set_cons_zero,List.set_cons_succ,Zb,dc]
                    rfl
                   refine Ug (i:=7) (N:=some 53) (v:=?_) (a':=?_) #[true,true,true,true,true,true,true,true,true,true,true,true,false,false,false,false,false] rfl rfl (Gf qg.out iw.out (by kernel_rfl)) (fun _ _ _ h=>h) (Or.inl ⟨by rfl,?_⟩) hHeld ?_ ?_;rotate_left
                   ·rintro w' ⟨s0,s1,s2,s3,s4,s5,s6,s7,s8,s9,YL,XL,WL⟩;go_simp;with_reducible rfl
                   rotate_left
                   ·simp only [Act.put,List.setIfInBounds_toArray,List.set_cons_zero,List.set_cons_succ,Zb,dc]
                    rfl
                   refine Ug (i:=12) (N:=some 58) (v:=?_) (a':=?_) #[true,true,true,true,true,true,true,true,true,true,true,true,true,false,false,false,false] rfl rfl (Gf qg.out iw.out (by kernel_rfl)) (fun _ _ _ h=>h) (Or.inl ⟨by rfl,?_⟩) hHeld ?_ ?_;rotate_left
                   ·rintro w' ⟨s0,s1,s2,s3,s4,s5,s6,s7,s8,s9,YL,XL,WL⟩;go_simp;with_reducible rfl
                   rotate_left
                   ·simp only [Act.put,List.setIfInBounds_toArray,List.set_cons_zero,List.set_cons_succ,Zb,dc]
                    rfl
                   refine zd (i:=13) (N:=some 59) (v:=?_) (a':=?_) #[true,true,true,true,true,true,true,true,true,true,true,true,true,true,false,false,false] rfl rfl (Sc qg.out (by kernel_rfl)) (fun _ _ _ h=>h) (Or.inl ⟨by rfl,?_⟩) ?_ ?_;rotate_left
                   ·intro w';go_simp;with_reducible rfl
                   rotate_left
                   ·simp only [Act.put,List.setIfInBounds_toArray,List.set_cons_zero,List.set_cons_succ,Zb,dc]
                    rfl
                   refine Ug (i:=14) (N:=some 60) (v:=?_) (a':=?_) #[true,true,true,true,true,true,true,true,true,true,true,true,true,true,true,false,false] rfl rfl (Gf qg.out iw.out (by kernel_rfl)) (fun _ _ _ h=>h) (Or.inl ⟨by rfl,?_⟩) hHeld ?_ ?_;rotate_left
                   ·rintro w' ⟨s0,s1,s2,s3,s4,s5,s6,s7,s8,s9,YL,XL,WL⟩;go_simp;with_reducible rfl
                   rotate_left
                   ·simp only [Act.put,List.setIfInBounds_toArray,List.set_cons_zero,List.set_cons_succ,Zb,dc]
                    rfl
                   refine Qw (i:=15) (N:=some 61) #[true,true,true,true,true,true,true,true,true,true,true,true,true,true,true,true,false] rfl rfl (Mr qg.out (by kernel_rfl)) (by decide) (fun K hK=>?_);refine Et Try.func54 (by kernel_rfl) rfl #[.agg #[.slice dV ((Ea Aa (rd t112 Kf)).f0).length nU,.int .i64 ((Ea Aa (rd t112 Kf)).f1),.int .i64 ((Ea Aa (rd t112 Kf)).f2),.int .i64 ((Ea Aa (rd t112 Kf)).f3),.int .i64 ((Ea Aa (rd t112 Kf)).f4)],.slice cV (Pd ox (rd t112 Kf)).length mU] (by rfl) rfl rfl (by (try simp only [List.map_toArray,List.map_cons,List.map_nil]);first|done|rfl|(simp only [List.length_drop,List.length_take];rfl)) ?_;with_reducible refine (Mf.calls k4 _ _ ((Ea Aa (rd t112 Kf)).f0) ((Ea Aa (rd t112 Kf)).f1) ((Ea Aa (rd t112 Kf)).f2) ((Ea Aa (rd t112 Kf)).f3) ((Ea Aa (rd t112 Kf)).f4) _ _ (Pd ox (rd t112 Kf)) t119 _ ?yc ?uc ?Gd ?Ed A28.out).mono ?_
                   (case yc=>repeat (first|exact (Kd.Jb LP.out HB.out)|(with_reducible refine Kd.Rb ?_ _)|(with_reducible refine Kd.Qb ?_ _)|(with_reducible refine Kd.Yb ?_)))
                   (case uc=>exact AZ.out)
                   (case Gd=>repeat (first|exact (by repeat (first|(with_reducible exact yt.out)|(with_reducible refine Kd.Rb ?_ _)|(with_reducible refine Kd.Qb ?_ _)|(with_reducible refine Kd.Yb ?_)|exact yt.out))|(with_reducible refine Kd.Rb ?_ _)|(with_reducible refine Kd.Qb ?_ _)|(with_reducible refine Kd.Yb ?_)))
                   (case Ed=>exact zZ.out)
                   rintro e lR ⟨M_,rfl,Vj,hb⟩;have Xar:=(hb.cell (World.block_lt_of_cell? _ _ (hHeld.2.2.2.2.2.1))).trans (hHeld.2.2.2.2.2.1);have Saf:=(hb.cell (World.block_lt_of_cell? _ _ (hHeld.2.2.2.2.2.2.2.2.2.2.2.1))).trans (hHeld.2.2.2.2.2.2.2.2.2.2.2.1);have Raf:=(hb.cell (World.block_lt_of_cell? _ _ (hHeld.2.2.2.2.2.2.2.2.2.2.2.2))).trans (hHeld.2.2.2.2.2.2.2.2.2.2.2.2);refine ⟨_,rfl,?_⟩;have yb:=ga.mk (Kd.yu (by (with_reducible repeat (first|apply Kd.Xc|apply Kd.Wc|apply Kd.yd));exact Mc.out) (Kd.ax Vj) hb);have Ib:=ga.mk (Kd.pg (by (with_reducible repeat (first|apply Kd.Ab|apply Kd.zb|apply Kd.Pb));exact Jk.out) hb);have Nb:=ga.mk (Kd.ED (by (with_reducible repeat (first|apply Kd.Ab|apply Kd.zb|apply Kd.Pb));exact Iz.out) (Kd.ax Vj) hb);have Dc:=ga.mk (Kd.we (Kd.EU Vj (Kd.cZ (by (with_reducible repeat (first|apply Kd.Ab|apply Kd.zb|apply Kd.Pb));exact Iz.out))) (Ia (by repeat (first|(with_reducible first|exact HB.out|apply qa|apply ja|apply ta|refine ua ?_ Ta.out)|exact HB.out))));have Vf:=ga.mk (Va (g:=ya) (o:=.cells #[.slice Xa Ra.length Ya,.int .i64 La,.int .i64 Ja,.int .i64 Ma,.slice (some vl) Aa.length Fb] 30 (0,0)) (by (with_reducible repeat (first|refine Ba ?_ _|refine Fa ?_|refine Ca ?_ _));exact oa.out) hb);have Kg:=ga.mk (Kd.Jb (by repeat (first|(with_reducible exact yt.out)|(with_reducible refine Kd.Rb ?_ _)|(with_reducible refine Kd.Qb ?_ _)|(with_reducible refine Kd.Yb ?_)|exact yt.out)) hb);have Rg:=ga.mk (Zm hb rC.out);have LI:=ga.mk (Qa (by repeat (first|(with_reducible first|exact HB.out|apply qa|apply ja|apply ta|refine ua ?_ Ta.out)|exact HB.out)) hb);clear Mc Jk Iz oa yt rC HB;have Mc:=yb;have Jk:=Ib;have Iz:=Nb;have eag:=Dc;have oa:=Vf;have yt:=Kg;have rC:=Rg;have HB:=LI;clear yb Ib Nb Dc Vf Kg Rg LI;(try clear hb);(try clear bk);(try clear hk);(try clear hi);(try clear Vj);refine hK.out _ _ ⟨(ia oa.out 0).trans rfl,(ia oa.out 1).trans rfl,(ia oa.out 2).trans rfl,(ia oa.out 3).trans rfl,(ia oa.out 4).trans rfl,Xar,(Sa HB.out vM),(Sa HB.out uM),(Sa HB.out sM),(Sa HB.out rM),(Sa HB.out qM),Saf,Raf⟩ (fun hHeld=>?_);clear hK K;refine xp (a':=?_) ?_ ?_;rotate_left
                   ·show Act.put _ (some 61) _=_
                    simp only [Act.put,List.setIfInBounds_toArray,List.set_cons_zero,List.set_cons_succ,Zb,dc]
                    rfl
                   refine zd (i:=16) (N:=some 9) (v:=?_) (a':=?_) #[true,true,true,true,true,true,true,true,true,true,true,true,true,true,true,true,true] rfl rfl (Sc qg.out (by kernel_rfl)) (fun _ _ _ h=>h) (Or.inl ⟨by rfl,?_⟩) ?_ ?_;rotate_left
                   ·intro w';go_simp;with_reducible rfl
                   rotate_left
                   ·simp only [Act.put,List.setIfInBounds_toArray,List.set_cons_zero,List.set_cons_succ,Zb,dc]
                    rfl
                   refine jr (Cn qg.out (by kernel_rfl)) ?_
                   try go_wp2
                   go_loopg [5,10] k4 (fun kq v5 v10 w'=>∃ (Xg:List (List Bool)) (UA:Bool) (Wn:List Bool) (Te:Int),v5 = .bool UA∧v10 = .int .i64 Te∧ga (gb.l4 kq Xg UA Le t112 Kf Wn Te Ra La Ja Ma Aa=some r)∧ga (kq ≤ k4)∧ga (Kd.S (Kd.slice 4 Kd.bool) 60 w' w.heap.size (fun k_=>some k_ ≠ (M_:Value).ownBlock) (.slice (some UE) ox.length jae) Xg)∧ga (Kd.R (Kd.int .i64) 3 w' w.heap.size (fun _=>True) (.slice (some qP) t112.length kae) t112)∧ga (Kd.R Kd.bool 4 w' w.heap.size (fun _=>True) M_ Wn)∧ga (w'.heap[ya]? = some (.cells #[(.slice Xa Ra.length Ya),.int .i64 La,.int .i64 Ja,.int .i64 Ma,(.slice (some vl) Aa.length Fb)] 30 (0,0)))∧ga (Below w.heap.size w w'))
                   case atStart=>exact ⟨(ox),(gQ),(t119),(0),(by first|rfl|(simp;done)|(simp [*];done)),(by first|rfl|(simp;done)|(simp [*];done)),H',⟨Nat.le_refl _⟩,⟨by (with_reducible repeat (first|apply Kd.Xc|apply Kd.Wc|apply Kd.yd));exact Kd.Mg Mc.out (fun _ hk=>hk.2)⟩,⟨by (with_reducible repeat (first|apply Kd.Ab|apply Kd.zb|apply Kd.Pb));exact Jk.out⟩,⟨by (with_reducible repeat (first|apply Kd.Ab|apply Kd.zb|apply Kd.Pb));exact Kd.Bd eag.out (fun _ hk=>trivial)⟩,⟨by (with_reducible repeat (first|refine Ba ?_ _|refine Fa ?_|refine Ca ?_ _));exact oa.out⟩,⟨by repeat (first|(with_reducible first|exact HB.out|apply qa|apply ja|apply ta|refine ua ?_ Ta.out)|exact HB.out)⟩⟩
                   case round =>
                    clear H'
                    try clear c1
                    try clear p1
                    try clear q1
                    try clear hx1
                    try clear c2
                    try clear p2
                    try clear c4
                    try clear c5
                    try clear Ui
                    try clear c6
                    try clear zm
                    try clear dB
                    try clear p6
                    try clear c7
                    try clear Ek
                    try clear kr
                    try clear c8
                    try clear oP
                    try clear mI
                    try clear lI
                    try clear xS
                    try clear yD
                    try clear Qp
                    try clear Dp
                    try clear Pp
                    try clear qo
                    try clear Pn
                    try clear vu
                    try clear eB
                    try clear lP
                    try clear YQ
                    try clear Sae
                    try clear rI
                    try clear iU
                    try clear qR
                    try clear Qae
                    try clear hU
                    try clear Pae
                    try clear Nj
                    try clear Mj
                    try clear Lj
                    try clear Kj
                    try clear Jj
                    try clear zn
                    try clear vn
                    try clear sn
                    try clear qn
                    try clear pn
                    try clear cC
                    try clear bC
                    try clear aC
                    try clear ZB
                    try clear YB
                    try clear xm
                    try clear wm
                    try clear vm
                    try clear um
                    try clear rm
                    try clear Gj
                    try clear Fj
                    try clear Ej
                    try clear Dj
                    try clear Cj
                    try clear kn
                    try clear jn
                    try clear gn
                    try clear en
                    try clear dn
                    try clear CB
                    try clear BB
                    try clear AB
                    try clear zB
                    try clear yB
                    try clear qm
                    try clear om
                    try clear mm
                    try clear jm
                    try clear gm
                    try clear mB
                    try clear lB
                    try clear kB
                    try clear jB
                    try clear iB
                    try clear KF
                    try clear Px
                    try clear Ox
                    try clear Nx
                    try clear Mx
                    try clear Lx
                    try clear JF
                    try clear Kx
                    try clear p1
                    try clear mI
                    try clear RR
                    try clear VV
                    try clear TV
                    try clear SV
                    try clear PR
                    try clear p2
                    try clear p6
                    try clear q1
                    try clear lI
                    try clear NR
                    try clear QV
                    try clear PV
                    try clear OV
                    try clear MR
                    (try clear HA);(try clear tZ);(try clear Mc);(try clear Jk);(try clear Gz);(try clear oa);(try clear HB);obtain ⟨Xg,UA,Wn,Te,rfl,rfl,HA,tZ,Mc,Jk,Gz,oa,HB⟩:=hrel;have zj:=(Kd.Uc Mc.out).1;rw [zj] at Mc;(try simp only [zj]);(try simp only [zj] at oa);(try simp only [zj] at Jk);(try simp only [zj] at Gz);cases gk with
                    | zero=>exact absurd HA.out (by simp [gb.l4])
                    | succ k5 =>
                     have H:=HA.out;clear HA;simp only [gb.l4] at H
                     by_cases pR:Te < Ma
                     ·rw [if_pos pR] at H;have Lae:decide (Te < Ma)=true:=decide_eq_true pR;clear pR
                      by_cases DJ:0 ≤ Te
                      ·rw [if_pos DJ] at H;have I1:decide (0 ≤ Te)=true:=decide_eq_true DJ;clear DJ
                       by_cases qI:Te < (Wn.length:Int)
                       ·rw [if_pos qI] at H;have gU:decide (Te < (Wn.length:Int))=true:=decide_eq_true qI;clear qI;obtain ⟨Wae,OT⟩:∃ b_:Bool,b_=(lg false Wn Te):=⟨_,rfl⟩;replace H:(if Wae=true then (if 0 ≤ Le then (if Le < (Xg.length:Int) then (if Te < ((Pd Xg Le).length:Int) then (if (lg false (Pd Xg Le) Te=true) then (gb.l4 k5 Xg UA Le t112 Kf Wn (wrap64 (Te + 1)) Ra La Ja Ma Aa) else (gb.l4 k5 (Xg.set (Le:Int).toNat ((Pd Xg Le).set (Te:Int).toNat true)) true Le t112 Kf Wn (wrap64 (Te + 1)) Ra La Ja Ma Aa)) else (none)) else (none)) else (none)) else (gb.l4 k5 Xg UA Le t112 Kf Wn (wrap64 (Te + 1)) Ra La Ja Ma Aa))=some r:=by rw [← OT] at H;exact H
                        have LJ:=ga.mk OT;clear OT
                        by_cases c37:Wae=true
                        ·subst c37;have H1:(if 0 ≤ Le then (if Le < (Xg.length:Int) then (if Te < ((Pd Xg Le).length:Int) then (if (lg false (Pd Xg Le) Te=true) then (gb.l4 k5 Xg UA Le t112 Kf Wn (wrap64 (Te + 1)) Ra La Ja Ma Aa) else (gb.l4 k5 (Xg.set (Le:Int).toNat ((Pd Xg Le).set (Te:Int).toNat true)) true Le t112 Kf Wn (wrap64 (Te + 1)) Ra La Ja Ma Aa)) else (none)) else (none)) else (none))=some r:=by rw [if_pos rfl] at H;exact H
                         clear H;have H:=H1;clear H1
                         by_cases oR:0 ≤ Le
                         ·rw [if_pos oR] at H;have C1:decide (0 ≤ Le)=true:=decide_eq_true oR;clear oR
                          by_cases pV:Le < (Xg.length:Int)
                          ·rw [if_pos pV] at H;have Waw:decide (Le < (Xg.length:Int))=true:=decide_eq_true pV;clear pV
                           by_cases c40:Te < ((Pd Xg Le).length:Int)
                           ·rw [if_pos c40] at H;have Vaw:decide (Te < ((Pd Xg Le).length:Int))=true:=decide_eq_true c40;clear c40;obtain ⟨Vae,NT⟩:∃ b_:Bool,b_=(lg false (Pd Xg Le) Te):=⟨_,rfl⟩;replace H:(if (Vae=true) then (gb.l4 k5 Xg UA Le t112 Kf Wn (wrap64 (Te + 1)) Ra La Ja Ma Aa) else (gb.l4 k5 (Xg.set (Le:Int).toNat ((Pd Xg Le).set (Te:Int).toNat true)) true Le t112 Kf Wn (wrap64 (Te + 1)) Ra La Ja Ma Aa))=some r:=by rw [← NT] at H;exact H
                            have BP:=ga.mk NT;clear NT
                            by_cases c42:(Vae=true)
                            ·subst c42;have H1:(gb.l4 k5 Xg UA Le t112 Kf Wn (wrap64 (Te + 1)) Ra La Ja Ma Aa)=some r:=by rw [if_pos rfl] at H;exact H
                             clear H;have H:=H1;clear H1;have H':=ga.mk H;clear H;have XN:wr.cell? ⟨ya,0,none⟩=some (.slice Xa Ra.length Ya):=(ia oa.out 0).trans rfl;have WN:wr.cell? ⟨ya,1,none⟩=some (.int .i64 La):=(ia oa.out 1).trans rfl;have VN:wr.cell? ⟨ya,2,none⟩=some (.int .i64 Ja):=(ia oa.out 2).trans rfl;have UN:wr.cell? ⟨ya,3,none⟩=some (.int .i64 Ma):=(ia oa.out 3).trans rfl;have TN:wr.cell? ⟨ya,4,none⟩=some (.slice (some vl) Aa.length Fb):=(ia oa.out 4).trans rfl;have PM:=aa oa.out 0;have OM:=aa oa.out 1;have NM:=aa oa.out 2;have MM:=aa oa.out 3;have LM:=aa oa.out 4;obtain ⟨JaA,laz,har⟩:=Kd.Zd Gz.out;subst har;have OC:0 ≤ (Te:Int):=Ua;have NC:Te < (Wn.length:Int):=Ua;obtain ⟨sU,aU,Nr⟩:=Kd.Rj (Kd.Bc Gz.out).2.2 Te OC NC;(try rw [← LJ.out] at Nr);(try rw [← BP.out] at Nr);cases aU;replace OC:=eq_true OC;replace NC:=eq_true NC;have sF:0 ≤ (Le:Int):=Ua;have pF:Le < (Xg.length:Int):=Ua;obtain ⟨rU,Q9,tL,R6,Mu,yy,Dy⟩:=Vq (Kd.Uc Mc.out).2.2 Le sF pF;obtain rfl:UE=rU:=(by injection R6);obtain ⟨oae,OK,RK,fD⟩:=Kd.CD Mc.out [] Le sF (by first|exact pF|exact Ua|(have e_:=(Kd.Uc Mc.out).1;omega));obtain ⟨DV,rfl,ct⟩:=RK;have Yl:=fD 0 _ rfl;rw [Nat.add_zero,show ((Kd.slice 4 Kd.bool)).sz=1 from rfl,Nat.mul_one] at Yl;replace Yl:=Option.some.inj (Yl.symm.trans Mu);rw [Yl] at ct;have TP:=ga.mk (show Kd.R Kd.bool 4 _ _ _ _ (Pd Xg Le) from ct);clear Yl ct;have jZ:=ga.mk Mu;clear fD OK;have Dz:=ga.mk Dy;have yZ:=ga.mk yy;clear Dy yy;replace sF:=eq_true sF;replace pF:=eq_true pF;have tK:0 ≤ (Te:Int):=Ua;have nK:Te < ((Pd Xg Le).length:Int):=Ua;obtain ⟨aaf,Q6,Lu⟩:=Kd.Rj (by repeat (first|(with_reducible exact Dz.out)|(with_reducible refine Kd.Rb ?_ _)|(with_reducible refine Kd.Qb ?_ _)|(with_reducible refine Kd.Yb ?_)|exact Dz.out)) Te tK nK;(try rw [← LJ.out] at Lu);(try rw [← BP.out] at Lu);cases Q6;replace tK:=eq_true tK;replace nK:=eq_true nK;go_wp2;(try simp only [← zj])
                             go_roundg k5
                             case measure=>have:=Xf.out;have:=Dr.out;have:=tC.out;have:=UU.out;have:=tZ.out;omega
                             case rel=>exact ⟨(Xg),(UA),(Wn),(wrap64 (Te + 1)),(by first|rfl|(simp;done)|(simp [*];done)),(by first|rfl|(simp;done)|(simp [*];done)),H',⟨by have:=Xf.out;have:=Dr.out;have:=tC.out;have:=UU.out;have:=tZ.out;omega⟩,⟨by (try simp only [zj]);(with_reducible repeat (first|apply Kd.Xc|apply Kd.Wc|apply Kd.yd));exact Mc.out⟩,⟨by (try simp only [zj]);(with_reducible repeat (first|apply Kd.Ab|apply Kd.zb|apply Kd.Pb));exact Jk.out⟩,⟨by (try simp only [zj]);(with_reducible repeat (first|apply Kd.Ab|apply Kd.zb|apply Kd.Pb));exact Gz.out⟩,⟨by (try simp only [zj]);(with_reducible repeat (first|refine Ba ?_ _|refine Fa ?_|refine Ca ?_ _));exact oa.out⟩,⟨by repeat (first|(with_reducible first|exact HB.out|apply qa|apply ja|apply ta|refine ua ?_ Ta.out)|exact HB.out)⟩⟩
                            ·replace c42:=Bool.eq_false_iff.mpr c42;subst c42;have H1:(gb.l4 k5 (Xg.set (Le:Int).toNat ((Pd Xg Le).set (Te:Int).toNat true)) true Le t112 Kf Wn (wrap64 (Te + 1)) Ra La Ja Ma Aa)=some r:=by rw [if_neg (show ¬ (false=true) by decide)] at H;exact H
                             clear H;have H:=H1;clear H1;obtain ⟨R3,SI⟩:∃ y_:List Bool,y_=((Pd Xg Le).set (Te:Int).toNat true):=⟨_,rfl⟩;replace H:(gb.l4 k5 (Xg.set (Le:Int).toNat R3) true Le t112 Kf Wn (wrap64 (Te + 1)) Ra La Ja Ma Aa)=some r:=by first|(rw [SI];with_reducible exact H)|(have Md:=(Option.bind_some _ _).symm.trans H;rw [SI];with_reducible exact Md)|(have Md:=(Option.bind_some _ _).symm.trans H;with_reducible exact Md)|with_reducible exact H|(rw [SI];exact H)|exact H
                             have laf:=ga.mk SI;clear SI;obtain ⟨Q3,RI⟩:∃ y_:List (List Bool),y_=(Xg.set (Le:Int).toNat R3):=⟨_,rfl⟩;replace H:(gb.l4 k5 Q3 true Le t112 Kf Wn (wrap64 (Te + 1)) Ra La Ja Ma Aa)=some r:=by first|(rw [RI];with_reducible exact H)|(have Md:=(Option.bind_some _ _).symm.trans H;rw [RI];with_reducible exact Md)|(have Md:=(Option.bind_some _ _).symm.trans H;with_reducible exact Md)|with_reducible exact H|(rw [RI];exact H)|exact H
                             have kaf:=ga.mk RI;clear RI;have H':=ga.mk H;clear H;have XX:wr.cell? ⟨ya,0,none⟩=some (.slice Xa Ra.length Ya):=(ia oa.out 0).trans rfl;have WX:wr.cell? ⟨ya,1,none⟩=some (.int .i64 La):=(ia oa.out 1).trans rfl;have VX:wr.cell? ⟨ya,2,none⟩=some (.int .i64 Ja):=(ia oa.out 2).trans rfl;have UX:wr.cell? ⟨ya,3,none⟩=some (.int .i64 Ma):=(ia oa.out 3).trans rfl;have SX:wr.cell? ⟨ya,4,none⟩=some (.slice (some vl) Aa.length Fb):=(ia oa.out 4).trans rfl;have MW:=aa oa.out 0;have LW:=aa oa.out 1;have KW:=aa oa.out 2;have JW:=aa oa.out 3;have IW:=aa oa.out 4;obtain ⟨IaA,Aar,gar⟩:=Kd.Zd Gz.out;subst gar;have OC:0 ≤ (Te:Int):=Ua;have NC:Te < (Wn.length:Int):=Ua;obtain ⟨sU,aU,Nr⟩:=Kd.Rj (Kd.Bc Gz.out).2.2 Te OC NC;(try rw [← LJ.out] at Nr);(try rw [← BP.out] at Nr);cases aU;replace OC:=eq_true OC;replace NC:=eq_true NC;have sF:0 ≤ (Le:Int):=Ua;have pF:Le < (Xg.length:Int):=Ua;obtain ⟨rU,Q9,tL,R6,Mu,yy,Dy⟩:=Vq (Kd.Uc Mc.out).2.2 Le sF pF;obtain rfl:UE=rU:=(by injection R6);obtain ⟨oae,OK,RK,fD⟩:=Kd.CD Mc.out [] Le sF (by first|exact pF|exact Ua|(have e_:=(Kd.Uc Mc.out).1;omega));obtain ⟨DV,rfl,ct⟩:=RK;have Yl:=fD 0 _ rfl;rw [Nat.add_zero,show ((Kd.slice 4 Kd.bool)).sz=1 from rfl,Nat.mul_one] at Yl;replace Yl:=Option.some.inj (Yl.symm.trans Mu);rw [Yl] at ct;have TP:=ga.mk (show Kd.R Kd.bool 4 _ _ _ _ (Pd Xg Le) from ct);clear Yl ct;have jZ:=ga.mk Mu;clear fD OK;have Dz:=ga.mk Dy;have yZ:=ga.mk yy;clear Dy yy;replace sF:=eq_true sF;replace pF:=eq_true pF;have tK:0 ≤ (Te:Int):=Ua;have nK:Te < ((Pd Xg Le).length:Int):=Ua;obtain ⟨aaf,Q6,Lu⟩:=Kd.Rj (by repeat (first|(with_reducible exact Dz.out)|(with_reducible refine Kd.Rb ?_ _)|(with_reducible refine Kd.Qb ?_ _)|(with_reducible refine Kd.Yb ?_)|exact Dz.out)) Te tK nK;(try rw [← LJ.out] at Lu);(try rw [← BP.out] at Lu);cases Q6;replace tK:=eq_true tK;replace nK:=eq_true nK;have RV:0 ≤ (Le:Int):=Ua;have NV:Le < (Xg.length:Int):=Ua;obtain ⟨Zae,Nas,Har,rar,GF,xM,DM⟩:=Vq (Kd.Uc Mc.out).2.2 Le RV NV;obtain rfl:UE=Zae:=(by injection rar);obtain ⟨Saw,b6,C6,JT⟩:=Kd.CD Mc.out [] Le RV (by first|exact NV|exact Ua|(have e_:=(Kd.Uc Mc.out).1;omega));obtain ⟨mah,rfl,EH⟩:=C6;have sy:=JT 0 _ rfl;rw [Nat.add_zero,show ((Kd.slice 4 Kd.bool)).sz=1 from rfl,Nat.mul_one] at sy;replace sy:=Option.some.inj (sy.symm.trans GF);rw [sy] at EH;have jw:=ga.mk (show Kd.R Kd.bool 4 _ _ _ _ (Pd Xg Le) from EH);clear sy EH;have iZ:=ga.mk GF;clear JT b6;have oao:=ga.mk DM;have yao:=ga.mk xM;clear DM xM;replace RV:=eq_true RV;replace NV:=eq_true NV;have Zk:=Option.some.inj (Mu.symm.trans GF);injection Zk with Zk ZA bB
                             subst Zk;subst bB;clear ZA;have p45:0 ≤ (Te:Int):=Ua;have q45:(Te:Int) < (((Pd Xg Le).length:Int):Int):=Ua;obtain ⟨PY,kaz,fae,Xad,Taq,paz,Bag⟩:=Kd.Cm jw.out (by omega);(first|cases fae|(injection fae with Zk ZA bB;(first|subst Zk|(injection Zk with Zk;subst Zk));subst bB;clear ZA));have Das:=ga.mk Xad;have vaA:=ga.mk Bag;clear Xad Taq Bag;(first|simp only [add_plain] at Lu|skip);obtain ⟨jap,waq⟩:=Kd.zk false jw.out (Te:Int) p45 q45;replace p45:=eq_true p45;replace q45:=eq_true q45;have xap:(Le:Int) < (Xg.length:Int):=(by have h_:(Le:Int) < ((Xg.length:Int):Int):=Ua;first|exact h_|(have e_:=(Kd.Uc Mc.out).1;omega)|simpa only [List.length_set,List.length_set] using h_);obtain ⟨X_,uaz,Iad,Laq,W0,SZ,B1⟩:=Kd.zU Mc.out [] (Le:Int) (Ua) xap;obtain ⟨Kao,rfl,DH⟩:=Laq;have iW:=W0 0 _ rfl;rw [Nat.add_zero,show ((Kd.slice 4 Kd.bool)).sz=1 from rfl,Nat.mul_one] at iW;replace iW:=Option.some.inj (iW.symm.trans iZ.out);subst iW;clear W0 Iad;replace DH:=(show Kd.R Kd.bool 4 _ _ _ _ (Pd Xg Le) from DH);have U8:=Kd.Hp DH (Te:Int) true;go_wp2_with (first|((with_reducible refine Df (t:=4) (p:=87) rfl ?_);refine Oe (t:=4) (p:=87) (v:=?Cao) (w1:=(wr.setCell ⟨PY,(Te:Int).toNat,none⟩ (.bool true))) ?hg ?ho ?hn ?hr ?_;(case ho=>rfl);(case hg=>rfl);(case hn=>rfl);(case hr=>first|(go_simp;done)|(go_simp;rfl));intro L_ hw;have hg:wr.grownBy L_ (some PY):=(by rw [hw];exact U8.2);have GK:Kd.R Kd.bool 4 L_ w.heap.size X_ (.slice (some ⟨PY,0,none⟩) (Pd Xg Le).length tL) R3:=(by rw [hw,laf.out];exact U8.1);have Mn:Kd.S (Kd.slice 4 Kd.bool) 60 L_ w.heap.size (fun k_=>some k_ ≠ (.slice (some sU) Wn.length Aar:Value).ownBlock) (.slice (some UE) Xg.length jae) Q3:=(by rw [kaf.out];exact B1 hg (fun k_ e_=>by injection e_ with e_;subst e_;exact DH.1 _ rfl) (Kd.CP GK));have hm_:=Kd.Bd GK SZ;clear U8 B1;have yb:=ga.mk (Mn);have Ib:=ga.mk (Kd.gw (v:=(.slice (some ⟨PY,0,none⟩) (Pd Xg Le).length tL)) (by (with_reducible repeat (first|apply Kd.Ab|apply Kd.zb|apply Kd.Pb));exact Jk.out) (Kd.ew jw.out) (by decide) hg);have Nb:=ga.mk (Kd.GU (by (with_reducible repeat (first|apply Kd.Ab|apply Kd.zb|apply Kd.Pb));exact Gz.out) rfl hg ((jw.out.1 _ rfl).1));have Dc:=ga.mk (td (g:=ya) (o:=.cells #[.slice Xa Ra.length Ya,.int .i64 La,.int .i64 Ja,.int .i64 Ma,.slice (some vl) Aa.length Fb] 30 (0,0)) (by (with_reducible repeat (first|refine Ba ?_ _|refine Fa ?_|refine Ca ?_ _));exact oa.out) hg (Kd.Bl jw.out oa.out (by decide)));have Vf:=ga.mk ((by rw [hw];exact ua (HB.out) Das.out:Below w.heap.size w L_));have Kg:=ga.mk (hm_);have Rg:=ga.mk ((Kd.Bc hm_).2.1);clear Mc Jk Gz oa HB TP jw;have Mc:=yb;have Jk:=Ib;have Gz:=Nb;have oa:=Dc;have HB:=Vf;have uax:=Kg;have Eax:=Rg;clear yb Ib Nb Dc Vf Kg Rg hg hw Mn GK hm_ SZ));(try simp only [← zj])
                             go_roundg k5
                             case measure=>have:=Xf.out;have:=Dr.out;have:=tC.out;have:=UU.out;have:=tZ.out;omega
                             case rel=>exact ⟨(Q3),(true),(Wn),(wrap64 (Te + 1)),(by first|rfl|(simp;done)|(simp [*];done)),(by first|rfl|(simp;done)|(simp [*];done)),H',⟨by have:=Xf.out;have:=Dr.out;have:=tC.out;have:=UU.out;have:=tZ.out;omega⟩,⟨by (try simp only [zj]);(with_reducible repeat (first|apply Kd.Xc|apply Kd.Wc|apply Kd.yd));exact Mc.out⟩,⟨by (try simp only [zj]);(with_reducible repeat (first|apply Kd.Ab|apply Kd.zb|apply Kd.Pb));exact Jk.out⟩,⟨by (try simp only [zj]);(with_reducible repeat (first|apply Kd.Ab|apply Kd.zb|apply Kd.Pb));exact Gz.out⟩,⟨by (try simp only [zj]);(with_reducible repeat (first|refine Ba ?_ _|refine Fa ?_|refine Ca ?_ _));exact oa.out⟩,⟨by repeat (first|(with_reducible first|exact HB.out|apply qa|apply ja|apply ta|refine ua ?_ Ta.out)|exact HB.out)⟩⟩
                           ·rw [if_neg c40] at H;exact absurd H (by simp)
                          ·rw [if_neg pV] at H;exact absurd H (by simp)
                         ·rw [if_neg oR] at H;exact absurd H (by simp)
                        ·replace c37:=Bool.eq_false_iff.mpr c37;subst c37;have H1:(gb.l4 k5 Xg UA Le t112 Kf Wn (wrap64 (Te + 1)) Ra La Ja Ma Aa)=some r:=by rw [if_neg (show ¬ (false=true) by decide)] at H;exact H
                         clear H;have H:=H1;clear H1;have H':=ga.mk H;clear H;have KX:wr.cell? ⟨ya,0,none⟩=some (.slice Xa Ra.length Ya):=(ia oa.out 0).trans rfl;have JX:wr.cell? ⟨ya,1,none⟩=some (.int .i64 La):=(ia oa.out 1).trans rfl;have IX:wr.cell? ⟨ya,2,none⟩=some (.int .i64 Ja):=(ia oa.out 2).trans rfl;have GX:wr.cell? ⟨ya,3,none⟩=some (.int .i64 Ma):=(ia oa.out 3).trans rfl;have FX:wr.cell? ⟨ya,4,none⟩=some (.slice (some vl) Aa.length Fb):=(ia oa.out 4).trans rfl;have xW:=aa oa.out 0;have wW:=aa oa.out 1;have vW:=aa oa.out 2;have uW:=aa oa.out 3;have tW:=aa oa.out 4;obtain ⟨GaA,jaz,ear⟩:=Kd.Zd Gz.out;subst ear;have OC:0 ≤ (Te:Int):=Ua;have NC:Te < (Wn.length:Int):=Ua;obtain ⟨sU,aU,Nr⟩:=Kd.Rj (Kd.Bc Gz.out).2.2 Te OC NC;(try rw [← LJ.out] at Nr);cases aU;replace OC:=eq_true OC;replace NC:=eq_true NC;go_wp2;(try simp only [← zj])
                         go_roundg k5
                         case measure=>have:=Xf.out;have:=Dr.out;have:=tC.out;have:=UU.out;have:=tZ.out;omega
                         case rel=>exact ⟨(Xg),(UA),(Wn),(wrap64 (Te + 1)),(by first|rfl|(simp;done)|(simp [*];done)),(by first|rfl|(simp;done)|(simp [*];done)),H',⟨by have:=Xf.out;have:=Dr.out;have:=tC.out;have:=UU.out;have:=tZ.out;omega⟩,⟨by (try simp only [zj]);(with_reducible repeat (first|apply Kd.Xc|apply Kd.Wc|apply Kd.yd));exact Mc.out⟩,⟨by (try simp only [zj]);(with_reducible repeat (first|apply Kd.Ab|apply Kd.zb|apply Kd.Pb));exact Jk.out⟩,⟨by (try simp only [zj]);(with_reducible repeat (first|apply Kd.Ab|apply Kd.zb|apply Kd.Pb));exact Gz.out⟩,⟨by (try simp only [zj]);(with_reducible repeat (first|refine Ba ?_ _|refine Fa ?_|refine Ca ?_ _));exact oa.out⟩,⟨by repeat (first|(with_reducible first|exact HB.out|apply qa|apply ja|apply ta|refine ua ?_ Ta.out)|exact HB.out)⟩⟩
                       ·rw [if_neg qI] at H;exact absurd H (by simp)
                      ·rw [if_neg DJ] at H;exact absurd H (by simp)
                     ·rw [if_neg pR] at H;have Lae:decide (Te < Ma)=false:=decide_eq_false pR;clear pR;have H':=ga.mk H;clear H;have SG:wr.cell? ⟨ya,0,none⟩=some (.slice Xa Ra.length Ya):=(ia oa.out 0).trans rfl;have RG:wr.cell? ⟨ya,1,none⟩=some (.int .i64 La):=(ia oa.out 1).trans rfl;have QG:wr.cell? ⟨ya,2,none⟩=some (.int .i64 Ja):=(ia oa.out 2).trans rfl;have PG:wr.cell? ⟨ya,3,none⟩=some (.int .i64 Ma):=(ia oa.out 3).trans rfl;have OG:wr.cell? ⟨ya,4,none⟩=some (.slice (some vl) Aa.length Fb):=(ia oa.out 4).trans rfl;have VF:=aa oa.out 0;have UF:=aa oa.out 1;have SF:=aa oa.out 2;have RF:=aa oa.out 3;have QF:=aa oa.out 4;go_wp2;(try simp only [← zj])
                      go_roundg k5
                      case measure=>have:=Xf.out;have:=Dr.out;have:=tC.out;have:=UU.out;have:=tZ.out;omega
                      case rel=>exact ⟨(Xg),(UA),(wrap64 (Kf + 1)),(by first|rfl|(simp;done)|(simp [*];done)),(by first|rfl|(simp;done)|(simp [*];done)),H',⟨by have:=Xf.out;have:=Dr.out;have:=tC.out;have:=UU.out;have:=tZ.out;omega⟩,⟨by (try simp only [zj]);(with_reducible repeat (first|apply Kd.Xc|apply Kd.Wc|apply Kd.yd));exact Kd.Mg Mc.out (fun _ hk=>trivial)⟩,⟨by (try simp only [zj]);(with_reducible repeat (first|apply Kd.Ab|apply Kd.zb|apply Kd.Pb));exact Jk.out⟩,⟨by (try simp only [zj]);(with_reducible repeat (first|refine Ba ?_ _|refine Fa ?_|refine Ca ?_ _));exact oa.out⟩,⟨by repeat (first|(with_reducible first|exact HB.out|apply qa|apply ja|apply ta|refine ua ?_ Ta.out)|exact HB.out)⟩⟩
                  ·rw [if_neg hU] at H;exact absurd H (by simp)
                 ·rw [if_neg qR] at H;exact absurd H (by simp)
                ·rw [if_neg rI] at H;exact absurd H (by simp)
               ·rw [if_neg YQ] at H;exact absurd H (by simp)
              ·rw [if_neg eB] at H;have lP:decide (Kf < (t112.length:Int))=false:=decide_eq_false eB;clear eB;have H':=ga.mk H;clear H;obtain ⟨FaA,iaz,dar⟩:=Kd.Zd Jk.out;subst dar;go_wp2
               go_roundg k4
               case measure=>have:=Xf.out;have:=Dr.out;have:=tC.out;have:=UU.out;omega
               case rel=>exact ⟨(ox),(gQ),(wrap64 (Le - 1)),(by first|rfl|(simp;done)|(simp [*];done)),(by first|rfl|(simp;done)|(simp [*];done)),H',⟨by have:=Xf.out;have:=Dr.out;have:=tC.out;have:=UU.out;omega⟩,⟨by (with_reducible repeat (first|apply Kd.Xc|apply Kd.Wc|apply Kd.yd));exact Mc.out⟩,⟨by (with_reducible repeat (first|refine Ba ?_ _|refine Fa ?_|refine Ca ?_ _));exact oa.out⟩,⟨by repeat (first|(with_reducible first|exact HB.out|apply qa|apply ja|apply ta|refine ua ?_ Ta.out)|exact HB.out)⟩⟩
           ·rw [if_neg Pn] at H;exact absurd H (by simp)
          ·rw [if_neg Pp] at H;exact absurd H (by simp)
         ·rw [if_neg Qp] at H;have Dp:decide (0 ≤ Le)=false:=decide_eq_false Qp;clear Qp;have H':=ga.mk H;clear H;go_wp2
          go_roundg k3
          case measure=>have:=Xf.out;have:=Dr.out;have:=tC.out;omega
          case rel=>exact ⟨(iQ),(Ue),(by first|rfl|(simp;done)|(simp [*];done)),H',⟨by have:=Xf.out;have:=Dr.out;have:=tC.out;omega⟩,⟨by (with_reducible repeat (first|apply Kd.Xc|apply Kd.Wc|apply Kd.yd));exact Mc.out⟩,⟨by (with_reducible repeat (first|refine Ba ?_ _|refine Fa ?_|refine Ca ?_ _));exact oa.out⟩,⟨by repeat (first|(with_reducible first|exact HB.out|apply qa|apply ja|apply ta|refine ua ?_ Ta.out)|exact HB.out)⟩⟩
      ·replace yD:=Bool.eq_false_iff.mpr yD;subst yD;have H1:(some Mz)=some r:=by rw [if_neg (show ¬ (false=true) by decide)] at H;exact H
       clear H;have H:=H1;clear H1;obtain rfl:=Option.some.inj H;go_wp2;go_ret;exact ⟨_,by first|rfl|(simp [Oa,Na] <;> rfl)|(simp [*,Oa,Na] <;> rfl),by (with_reducible repeat (first|apply Kd.Xc|apply Kd.Wc|apply Kd.yd));exact Mc.out,by repeat (first|(with_reducible first|exact HB.out|apply qa|apply ja|apply ta|refine ua ?_ Ta.out)|exact HB.out)⟩
def Kh.f (l0:List Int) (a1:Int):Option (Int):=if (wrap64 (a1 - (l0.length:Int))) < 0 then (some (-1)) else (some (wrap64 (a1 - (l0.length:Int))))
theorem Kh.calls (A0:Option Addr) (c0:Nat) (l0:List Int) (a1:Int) (r:Int) (w:World) (Ck:Kd.C (Kd.int .i64) w A0 l0.length l0) (hc0:l0.length ≤ c0) (h:Kh.f l0 a1=some r) :
  Calls Try.prog 38 #[.slice A0 l0.length c0,.int .i64 a1] w fun e w'=>e = .returned (.int .i64 r)∧ec w w':=by
 have fl:=ga.mk Ck;have dI:=ga.mk hc0;clear Ck hc0;have H:(if (wrap64 (a1 - (l0.length:Int))) < 0 then (some (-1)) else (some (wrap64 (a1 - (l0.length:Int)))))=some r:=h;clear h
 by_cases c3:(wrap64 (a1 - (l0.length:Int))) < 0
 ·rw [if_pos c3] at H;have Vg:decide ((wrap64 (a1 - (l0.length:Int))) < 0)=true:=decide_eq_true c3;clear c3;obtain rfl:=Option.some.inj H;go_enter Try.func38,Try.ntmps38;go_wp2;go_ret;exact ⟨by first|rfl|(simp;done)|(simp [*];done),by repeat (first|exact ec.refl _|apply ec.step)⟩
 ·rw [if_neg c3] at H;have Vg:decide ((wrap64 (a1 - (l0.length:Int))) < 0)=false:=decide_eq_false c3;clear c3;obtain rfl:=Option.some.inj H;go_enter Try.func38,Try.ntmps38;go_wp2;go_ret;exact ⟨by first|rfl|(simp;done)|(simp [*];done),by repeat (first|exact ec.refl _|apply ec.step)⟩
def Mi.f (Eb:Int) (La:Int) (Ja:Int) (Ma:Int) (xb:Int) (jc:Int) (fc:ByteArray) (a1:Int):Option (Int):=if (wrap64 (a1 - (fc.size:Int))) < 0 then (some (-1)) else (some (wrap64 (a1 - (fc.size:Int))))
theorem Mi.calls (Eb:Int) (La:Int) (Ja:Int) (Ma:Int) (xb:Int) (jc:Int) (fc:ByteArray) (a1:Int) (r:Int) (w:World) (h:Mi.f Eb La Ja Ma xb jc fc a1=some r) :
  Calls Try.prog 112 #[.agg #[.int .i64 Eb,.int .i64 La,.int .i64 Ja,.int .i64 Ma,.int .i64 xb,.int .i64 jc,.string fc],.int .i64 a1] w fun e w'=>e = .returned (.int .i64 r)∧Below w.heap.size w w':=by
 have GS:=Try.underlying124;have HB:=ga.mk (Below.refl w.heap.size w);have H:(if (wrap64 (a1 - (fc.size:Int))) < 0 then (some (-1)) else (some (wrap64 (a1 - (fc.size:Int)))))=some r:=h;clear h
 by_cases c3:(wrap64 (a1 - (fc.size:Int))) < 0
 ·rw [if_pos c3] at H;have Vg:decide ((wrap64 (a1 - (fc.size:Int))) < 0)=true:=decide_eq_true c3;clear c3;obtain rfl:=Option.some.inj H;go_enter Try.func112,Try.ntmps112;go_wp2_with (first|((with_reducible refine qb (N:=2) rfl ?_);refine Gb ?hg (N:=2) ?hd (cs:=#[.int .i64 Eb,.int .i64 La,.int .i64 Ja,.int .i64 Ma,.int .i64 xb,.int .i64 jc,.string fc]) (t:=124) ?hr ?_;(case hd=>rfl);(case hg=>rfl);(case hr=>first|(go_simp;done)|(go_simp;rfl));intro ya hg w4 Ob hb;have yb:=ga.mk (Qa (by repeat (first|(with_reducible first|exact HB.out|apply qa|apply ja|apply ta)|exact HB.out)) hb);have Ib:=ga.mk (Ob);have Nb:=ga.mk ((by rw [hg];exact (Ia (by repeat (first|(with_reducible first|exact HB.out|apply qa|apply ja|apply ta)|exact HB.out))):w.heap.size ≤ ya));have Dc:=ga.mk ((by rw [hg];exact (Ia (by repeat (first|(with_reducible first|exact HB.out|apply qa|apply ja|apply ta)|exact HB.out))):w.heap.size ≤ ya));clear HB;have HB:=yb;have oa:=Ib;have Nd:=Nb;have Ta:=Dc;clear yb Ib Nb Dc hb Ob hg;have wT:w4.cell? ⟨ya,0,none⟩=some (.int .i64 Eb):=(ia oa.out 0).trans rfl;have vT:w4.cell? ⟨ya,1,none⟩=some (.int .i64 La):=(ia oa.out 1).trans rfl;have uT:w4.cell? ⟨ya,2,none⟩=some (.int .i64 Ja):=(ia oa.out 2).trans rfl;have tT:w4.cell? ⟨ya,3,none⟩=some (.int .i64 Ma):=(ia oa.out 3).trans rfl;have rT:w4.cell? ⟨ya,4,none⟩=some (.int .i64 xb):=(ia oa.out 4).trans rfl;have Caq:w4.cell? ⟨ya,5,none⟩=some (.int .i64 jc):=(ia oa.out 5).trans rfl;have Baq:w4.cell? ⟨ya,6,none⟩=some (.string fc):=(ia oa.out 6).trans rfl;have gT:=aa oa.out 0;have fT:=aa oa.out 1;have eT:=aa oa.out 2;have bT:=aa oa.out 3;have aT:=aa oa.out 4;have saq:=aa oa.out 5;have raq:=aa oa.out 6));go_ret;exact ⟨by first|rfl|(simp [Oa,Na] <;> rfl)|(simp [*,Oa,Na] <;> rfl),by repeat (first|(with_reducible first|exact HB.out|apply qa|apply ja|apply ta|refine ua ?_ Ta.out)|exact HB.out)⟩
 ·rw [if_neg c3] at H;have Vg:decide ((wrap64 (a1 - (fc.size:Int))) < 0)=false:=decide_eq_false c3;clear c3;obtain rfl:=Option.some.inj H;go_enter Try.func112,Try.ntmps112;go_wp2_with (first|((with_reducible refine qb (N:=2) rfl ?_);refine Gb ?hg (N:=2) ?hd (cs:=#[.int .i64 Eb,.int .i64 La,.int .i64 Ja,.int .i64 Ma,.int .i64 xb,.int .i64 jc,.string fc]) (t:=124) ?hr ?_;(case hd=>rfl);(case hg=>rfl);(case hr=>first|(go_simp;done)|(go_simp;rfl));intro ya hg w6 Ob hb;have yb:=ga.mk (Qa (by repeat (first|(with_reducible first|exact HB.out|apply qa|apply ja|apply ta)|exact HB.out)) hb);have Ib:=ga.mk (Ob);have Nb:=ga.mk ((by rw [hg];exact (Ia (by repeat (first|(with_reducible first|exact HB.out|apply qa|apply ja|apply ta)|exact HB.out))):w.heap.size ≤ ya));have Dc:=ga.mk ((by rw [hg];exact (Ia (by repeat (first|(with_reducible first|exact HB.out|apply qa|apply ja|apply ta)|exact HB.out))):w.heap.size ≤ ya));clear HB;have HB:=yb;have oa:=Ib;have Nd:=Nb;have Ta:=Dc;clear yb Ib Nb Dc hb Ob hg;have Ms:w6.cell? ⟨ya,0,none⟩=some (.int .i64 Eb):=(ia oa.out 0).trans rfl;have Ls:w6.cell? ⟨ya,1,none⟩=some (.int .i64 La):=(ia oa.out 1).trans rfl;have Ks:w6.cell? ⟨ya,2,none⟩=some (.int .i64 Ja):=(ia oa.out 2).trans rfl;have Js:w6.cell? ⟨ya,3,none⟩=some (.int .i64 Ma):=(ia oa.out 3).trans rfl;have Hs:w6.cell? ⟨ya,4,none⟩=some (.int .i64 xb):=(ia oa.out 4).trans rfl;have NG:w6.cell? ⟨ya,5,none⟩=some (.int .i64 jc):=(ia oa.out 5).trans rfl;have MG:w6.cell? ⟨ya,6,none⟩=some (.string fc):=(ia oa.out 6).trans rfl;have Ur:=aa oa.out 0;have Tr:=aa oa.out 1;have Sr:=aa oa.out 2;have Qr:=aa oa.out 3;have Pr:=aa oa.out 4;have PF:=aa oa.out 5;have NF:=aa oa.out 6));go_ret;exact ⟨by first|rfl|(simp [Oa,Na] <;> rfl)|(simp [*,Oa,Na] <;> rfl),by repeat (first|(with_reducible first|exact HB.out|apply qa|apply ja|apply ta|refine ua ?_ Ta.out)|exact HB.out)⟩
def Qd.l0:Nat→List (Qn)→Int→Int→Option (Int)
 | 0,_,_,_=>none
 | k + 1,x0,x1,x5=>if x5 < (x0.length:Int) then (if 0 ≤ x5 then ((Mi.f ((Jc x0 x5).f0) ((Jc x0 x5).f1) ((Jc x0 x5).f2) ((Jc x0 x5).f3) ((Jc x0 x5).f4) ((Jc x0 x5).f5) ((Jc x0 x5).f6) x1).bind fun t102=>(if t102 < 0 then (some (-1)) else (Qd.l0 k x0 t102 (wrap64 (x5 + 1))))) else (none)) else (some x1)
def Qd.f (k:Nat) (l0:List (Qn)) (a1:Int):Option (Int):=if (wrap64 (a1 - (l0.length:Int))) < 0 then (some (-1)) else (Qd.l0 k l0 (wrap64 (a1 - (l0.length:Int))) 0)
theorem Qd.calls (k:Nat) (A0:Option Addr) (c0:Nat) (l0:List (Qn)) (a1:Int) (r:Int) (w:World) (Ck:Kd.C WC w A0 l0.length l0) (hc0:l0.length ≤ c0) (h:Qd.f k l0 a1=some r) :
  Calls Try.prog 96 #[.slice A0 l0.length c0,.int .i64 a1] w fun e w'=>e = .returned (.int .i64 r)∧Below w.heap.size w w':=by
 have GS:=Try.underlying124;have fl:=ga.mk Ck;have dI:=ga.mk hc0;clear Ck hc0;have HB:=ga.mk (Below.refl w.heap.size w);have H:(if (wrap64 (a1 - (l0.length:Int))) < 0 then (some (-1)) else (Qd.l0 k l0 (wrap64 (a1 - (l0.length:Int))) 0))=some r:=h;clear h
 by_cases c3:(wrap64 (a1 - (l0.length:Int))) < 0
 ·rw [if_pos c3] at H;have Vg:decide ((wrap64 (a1 - (l0.length:Int))) < 0)=true:=decide_eq_true c3;clear c3;obtain rfl:=Option.some.inj H;go_enter Try.func96,Try.ntmps96;go_wp2;go_ret;exact ⟨by first|rfl|(simp [Oa,Na] <;> rfl)|(simp [*,Oa,Na] <;> rfl),by repeat (first|(with_reducible first|exact HB.out|apply qa|apply ja|apply ta)|exact HB.out)⟩
 ·rw [if_neg c3] at H;have Vg:decide ((wrap64 (a1 - (l0.length:Int))) < 0)=false:=decide_eq_false c3;clear c3;have H':=ga.mk H;clear H;go_enter Try.func96,Try.ntmps96;go_wp2
  go_loopg [1,5] k (fun kq v1 v5 w'=>∃ (qe:Int) (Ga:Int),v1 = .int .i64 qe∧v5 = .int .i64 Ga∧ga (Qd.l0 kq l0 qe Ga=some r)∧ga (kq ≤ k)∧ga (Below w.heap.size w w'))
  case atStart=>exact ⟨(wrap64 (a1 - (l0.length:Int))),(0),(by first|rfl|(simp;done)|(simp [*];done)),(by first|rfl|(simp;done)|(simp [*];done)),H',⟨Nat.le_refl _⟩,⟨by repeat (first|(with_reducible first|exact HB.out|apply qa|apply ja|apply ta)|exact HB.out)⟩⟩
  case round =>
   clear H'
   try clear p2
   try clear c3
   try clear Vg
   (try clear HA);(try clear Xf);(try clear HB);obtain ⟨qe,Ga,rfl,rfl,HA,Xf,HB⟩:=hrel;cases gk with
   | zero=>exact absurd HA.out (by simp [Qd.l0])
   | succ k1 =>
    have H:=HA.out;clear HA;simp only [Qd.l0] at H
    by_cases c4:Ga < (l0.length:Int)
    ·rw [if_pos c4] at H;have cj:decide (Ga < (l0.length:Int))=true:=decide_eq_true c4;clear c4
     by_cases c5:0 ≤ Ga
     ·rw [if_pos c5] at H;have Ui:decide (0 ≤ Ga)=true:=decide_eq_true c5;clear c5;replace H:=Option.bind_eq_some_iff.mp H;obtain ⟨t102,N3,H⟩:=H;replace H:(if t102 < 0 then (some (-1)) else (Qd.l0 k1 l0 t102 (wrap64 (Ga + 1))))=some r:=H;have A6:=ga.mk N3;clear N3
      by_cases c7:t102 < 0
      ·rw [if_pos c7] at H;have Ek:decide (t102 < 0)=true:=decide_eq_true c7;clear c7;obtain rfl:=Option.some.inj H;have We:0 ≤ (Ga:Int):=Ua;have Ve:Ga < (l0.length:Int):=Ua;obtain ⟨Ae,ki,Td,Cf,Bf,Af,zf,Si,Ri⟩:=UH fl.out Ga We Ve;cases ki;replace Td:=Sa HB.out Td;replace Cf:=Sa HB.out Cf;replace Bf:=Sa HB.out Bf;replace Af:=Sa HB.out Af;replace zf:=Sa HB.out zf;replace Si:=Sa HB.out Si;replace Ri:=Sa HB.out Ri;replace We:=eq_true We;replace Ve:=eq_true Ve;go_wp2_with (first|((with_reducible refine mb (f:=112) rfl ?_);refine Fc (some 23) rfl rfl Try.func112 (by kernel_rfl) rfl #[.agg #[.int .i64 ((Jc l0 Ga).f0),.int .i64 ((Jc l0 Ga).f1),.int .i64 ((Jc l0 Ga).f2),.int .i64 ((Jc l0 Ga).f3),.int .i64 ((Jc l0 Ga).f4),.int .i64 ((Jc l0 Ga).f5),.string ((Jc l0 Ga).f6)],.int .i64 qe] rfl (by (try simp only [List.map_toArray,List.map_cons,List.map_nil]);first|done|rfl|(simp only [List.length_drop,List.length_take];rfl)) ?_;(with_reducible refine (Mi.calls ((Jc l0 Ga).f0) ((Jc l0 Ga).f1) ((Jc l0 Ga).f2) ((Jc l0 Ga).f3) ((Jc l0 Ga).f4) ((Jc l0 Ga).f5) ((Jc l0 Ga).f6) qe t102 _ A6.out).mono ?_);rintro e w8 ⟨rfl,hb⟩;refine ⟨_,rfl,?_⟩;have yb:=ga.mk (Qa (by repeat (first|(with_reducible first|exact HB.out|apply qa|apply ja|apply ta)|exact HB.out)) hb);clear HB;have HB:=yb;clear yb;(try clear hb);(try clear bk);(try clear hk);(try clear hi)));go_ret;exact ⟨by first|rfl|(simp [Oa,Na] <;> rfl)|(simp [*,Oa,Na] <;> rfl),by repeat (first|(with_reducible first|exact HB.out|apply qa|apply ja|apply ta)|exact HB.out)⟩
      ·rw [if_neg c7] at H;have Ek:decide (t102 < 0)=false:=decide_eq_false c7;clear c7;have H':=ga.mk H;clear H;have We:0 ≤ (Ga:Int):=Ua;have Ve:Ga < (l0.length:Int):=Ua;obtain ⟨Ae,ki,Td,Cf,Bf,Af,zf,Si,Ri⟩:=UH fl.out Ga We Ve;cases ki;replace Td:=Sa HB.out Td;replace Cf:=Sa HB.out Cf;replace Bf:=Sa HB.out Bf;replace Af:=Sa HB.out Af;replace zf:=Sa HB.out zf;replace Si:=Sa HB.out Si;replace Ri:=Sa HB.out Ri;replace We:=eq_true We;replace Ve:=eq_true Ve;go_wp2_with (first|((with_reducible refine mb (f:=112) rfl ?_);refine Fc (some 23) rfl rfl Try.func112 (by kernel_rfl) rfl #[.agg #[.int .i64 ((Jc l0 Ga).f0),.int .i64 ((Jc l0 Ga).f1),.int .i64 ((Jc l0 Ga).f2),.int .i64 ((Jc l0 Ga).f3),.int .i64 ((Jc l0 Ga).f4),.int .i64 ((Jc l0 Ga).f5),.string ((Jc l0 Ga).f6)],.int .i64 qe] rfl (by (try simp only [List.map_toArray,List.map_cons,List.map_nil]);first|done|rfl|(simp only [List.length_drop,List.length_take];rfl)) ?_;(with_reducible refine (Mi.calls ((Jc l0 Ga).f0) ((Jc l0 Ga).f1) ((Jc l0 Ga).f2) ((Jc l0 Ga).f3) ((Jc l0 Ga).f4) ((Jc l0 Ga).f5) ((Jc l0 Ga).f6) qe t102 _ A6.out).mono ?_);rintro e w9 ⟨rfl,hb⟩;refine ⟨_,rfl,?_⟩;have yb:=ga.mk (Qa (by repeat (first|(with_reducible first|exact HB.out|apply qa|apply ja|apply ta)|exact HB.out)) hb);clear HB;have HB:=yb;clear yb;(try clear hb);(try clear bk);(try clear hk);(try clear hi)))
       go_roundg k1
       case measure=>have:=Xf.out;omega
       case rel=>exact ⟨(t102),(wrap64 (Ga + 1)),(by first|rfl|(simp;done)|(simp [*];done)),(by first|rfl|(simp;done)|(simp [*];done)),H',⟨by have:=Xf.out;omega⟩,⟨by repeat (first|(with_reducible first|exact HB.out|apply qa|apply ja|apply ta)|exact HB.out)⟩⟩
     ·rw [if_neg c5] at H;exact absurd H (by simp)
    ·rw [if_neg c4] at H;have cj:decide (Ga < (l0.length:Int))=false:=decide_eq_false c4;clear c4;obtain rfl:=Option.some.inj H;go_wp2;go_ret;exact ⟨by first|rfl|(simp [Oa,Na] <;> rfl)|(simp [*,Oa,Na] <;> rfl),by repeat (first|(with_reducible first|exact HB.out|apply qa|apply ja|apply ta)|exact HB.out)⟩
def Ni.f (k:Nat) (Ra:List (Qn)) (La:Int) (Ja:Int) (Ma:Int) (xb:Int) (a1:Int):Option (Int):=(Qd.f k Ra a1).bind fun t102=>(if t102 < 0 then (some (-1)) else (some t102))
theorem Ni.calls (k:Nat) (Xa:Option Addr) (Ya:Nat) (Ra:List (Qn)) (La:Int) (Ja:Int) (Ma:Int) (xb:Int) (a1:Int) (r:Int) (w:World) (Xd:Kd.C WC w Xa Ra.length Ra) (Vd:Ra.length ≤ Ya) (h:Ni.f k Ra La Ja Ma xb a1=some r) :
  Calls Try.prog 70 #[.agg #[.slice Xa Ra.length Ya,.int .i64 La,.int .i64 Ja,.int .i64 Ma,.int .i64 xb],.int .i64 a1] w fun e w'=>e = .returned (.int .i64 r)∧Below w.heap.size w w':=by
 have B5:=Try.underlying86;have Ye:=ga.mk Xd;have gf:=ga.mk Vd;clear Xd Vd;have HB:=ga.mk (Below.refl w.heap.size w);have H:((Qd.f k Ra a1).bind fun t102=>(if t102 < 0 then (some (-1)) else (some t102)))=some r:=h;clear h;replace H:=Option.bind_eq_some_iff.mp H;obtain ⟨t102,jx,H⟩:=H;replace H:(if t102 < 0 then (some (-1)) else (some t102))=some r:=H;have A3:=ga.mk jx;clear jx
 by_cases c4:t102 < 0
 ·rw [if_pos c4] at H;have cj:decide (t102 < 0)=true:=decide_eq_true c4;clear c4;obtain rfl:=Option.some.inj H;go_enter Try.func70,Try.ntmps70;go_wp2_with (first|((with_reducible refine qb (N:=2) rfl ?_);refine Gb ?hg (N:=2) ?hd (cs:=#[.slice Xa Ra.length Ya,.int .i64 La,.int .i64 Ja,.int .i64 Ma,.int .i64 xb]) (t:=86) ?hr ?_;(case hd=>rfl);(case hg=>rfl);(case hr=>first|(go_simp;done)|(go_simp;rfl));intro ya hg w5 Ob hb;have yb:=ga.mk (Qa (by repeat (first|(with_reducible first|exact HB.out|apply qa|apply ja|apply ta)|exact HB.out)) hb);have Ib:=ga.mk (Ob);have Nb:=ga.mk ((by rw [hg];exact (Ia (by repeat (first|(with_reducible first|exact HB.out|apply qa|apply ja|apply ta)|exact HB.out))):w.heap.size ≤ ya));have Dc:=ga.mk ((by rw [hg];exact (Ia (by repeat (first|(with_reducible first|exact HB.out|apply qa|apply ja|apply ta)|exact HB.out))):w.heap.size ≤ ya));clear HB;have HB:=yb;have oa:=Ib;have Nd:=Nb;have Ta:=Dc;clear yb Ib Nb Dc hb Ob hg;have Vm:w5.cell? ⟨ya,0,none⟩=some (.slice Xa Ra.length Ya):=(ia oa.out 0).trans rfl;have Um:w5.cell? ⟨ya,1,none⟩=some (.int .i64 La):=(ia oa.out 1).trans rfl;have Sm:w5.cell? ⟨ya,2,none⟩=some (.int .i64 Ja):=(ia oa.out 2).trans rfl;have Rm:w5.cell? ⟨ya,3,none⟩=some (.int .i64 Ma):=(ia oa.out 3).trans rfl;have Qm:w5.cell? ⟨ya,4,none⟩=some (.int .i64 xb):=(ia oa.out 4).trans rfl;have Pm:=aa oa.out 0;have Om:=aa oa.out 1;have Nm:=aa oa.out 2;have Mm:=aa oa.out 3;have Lm:=aa oa.out 4)|((with_reducible refine mb (f:=96) rfl ?_);refine Fc (some 8) rfl rfl Try.func96 (by kernel_rfl) rfl #[.slice Xa Ra.length Ya,.int .i64 a1] rfl (by (try simp only [List.map_toArray,List.map_cons,List.map_nil]);first|done|rfl|(simp only [List.length_drop,List.length_take];rfl)) ?_;(with_reducible refine (Qd.calls k _ _ Ra a1 t102 _ ?yc ?uc A3.out).mono ?_);(case yc=>repeat (first|exact (Kd.Jb Ye.out HB.out)|(with_reducible refine Kd.Rb ?_ _)|(with_reducible refine Kd.Qb ?_ _)|(with_reducible refine Kd.Yb ?_)));(case uc=>exact gf.out);rintro e w7 ⟨rfl,hb⟩;refine ⟨_,rfl,?_⟩;have yb:=ga.mk (Va (g:=ya) (o:=.cells #[.slice Xa Ra.length Ya,.int .i64 La,.int .i64 Ja,.int .i64 Ma,.int .i64 xb] 86 (0,0)) (by (with_reducible repeat (first|refine Ba ?_ _|refine Fa ?_|refine Ca ?_ _));exact oa.out) hb);have Ib:=ga.mk (Qa (by repeat (first|(with_reducible first|exact HB.out|apply qa|apply ja|apply ta|refine ua ?_ Ta.out)|exact HB.out)) hb);clear oa HB;have oa:=yb;have HB:=Ib;clear yb Ib;(try clear hb);(try clear bk);(try clear hk);(try clear hi)));go_ret;exact ⟨by first|rfl|(simp [Oa,Na] <;> rfl)|(simp [*,Oa,Na] <;> rfl),by repeat (first|(with_reducible first|exact HB.out|apply qa|apply ja|apply ta|refine ua ?_ Ta.out)|exact HB.out)⟩
 ·rw [if_neg c4] at H;have cj:decide (t102 < 0)=false:=decide_eq_false c4;clear c4;obtain rfl:=Option.some.inj H;go_enter Try.func70,Try.ntmps70;go_wp2_with (first|((with_reducible refine qb (N:=2) rfl ?_);refine Gb ?hg (N:=2) ?hd (cs:=#[.slice Xa Ra.length Ya,.int .i64 La,.int .i64 Ja,.int .i64 Ma,.int .i64 xb]) (t:=86) ?hr ?_;(case hd=>rfl);(case hg=>rfl);(case hr=>first|(go_simp;done)|(go_simp;rfl));intro ya hg w8 Ob hb;have yb:=ga.mk (Qa (by repeat (first|(with_reducible first|exact HB.out|apply qa|apply ja|apply ta)|exact HB.out)) hb);have Ib:=ga.mk (Ob);have Nb:=ga.mk ((by rw [hg];exact (Ia (by repeat (first|(with_reducible first|exact HB.out|apply qa|apply ja|apply ta)|exact HB.out))):w.heap.size ≤ ya));have Dc:=ga.mk ((by rw [hg];exact (Ia (by repeat (first|(with_reducible first|exact HB.out|apply qa|apply ja|apply ta)|exact HB.out))):w.heap.size ≤ ya));clear HB;have HB:=yb;have oa:=Ib;have Nd:=Nb;have Ta:=Dc;clear yb Ib Nb Dc hb Ob hg;have xm:w8.cell? ⟨ya,0,none⟩=some (.slice Xa Ra.length Ya):=(ia oa.out 0).trans rfl;have wm:w8.cell? ⟨ya,1,none⟩=some (.int .i64 La):=(ia oa.out 1).trans rfl;have vm:w8.cell? ⟨ya,2,none⟩=some (.int .i64 Ja):=(ia oa.out 2).trans rfl;have um:w8.cell? ⟨ya,3,none⟩=some (.int .i64 Ma):=(ia oa.out 3).trans rfl;have rm:w8.cell? ⟨ya,4,none⟩=some (.int .i64 xb):=(ia oa.out 4).trans rfl;have qm:=aa oa.out 0;have om:=aa oa.out 1;have mm:=aa oa.out 2;have jm:=aa oa.out 3;have gm:=aa oa.out 4)|((with_reducible refine mb (f:=96) rfl ?_);refine Fc (some 8) rfl rfl Try.func96 (by kernel_rfl) rfl #[.slice Xa Ra.length Ya,.int .i64 a1] rfl (by (try simp only [List.map_toArray,List.map_cons,List.map_nil]);first|done|rfl|(simp only [List.length_drop,List.length_take];rfl)) ?_;(with_reducible refine (Qd.calls k _ _ Ra a1 t102 _ ?yc ?uc A3.out).mono ?_);(case yc=>repeat (first|exact (Kd.Jb Ye.out HB.out)|(with_reducible refine Kd.Rb ?_ _)|(with_reducible refine Kd.Qb ?_ _)|(with_reducible refine Kd.Yb ?_)));(case uc=>exact gf.out);rintro e Wq ⟨rfl,hb⟩;refine ⟨_,rfl,?_⟩;have yb:=ga.mk (Va (g:=ya) (o:=.cells #[.slice Xa Ra.length Ya,.int .i64 La,.int .i64 Ja,.int .i64 Ma,.int .i64 xb] 86 (0,0)) (by (with_reducible repeat (first|refine Ba ?_ _|refine Fa ?_|refine Ca ?_ _));exact oa.out) hb);have Ib:=ga.mk (Qa (by repeat (first|(with_reducible first|exact HB.out|apply qa|apply ja|apply ta|refine ua ?_ Ta.out)|exact HB.out)) hb);clear oa HB;have oa:=yb;have HB:=Ib;clear yb Ib;(try clear hb);(try clear bk);(try clear hk);(try clear hi)));go_ret;exact ⟨by first|rfl|(simp [Oa,Na] <;> rfl)|(simp [*,Oa,Na] <;> rfl),by repeat (first|(with_reducible first|exact HB.out|apply qa|apply ja|apply ta|refine ua ?_ Ta.out)|exact HB.out)⟩
def Dd.l0:Nat→List (Xw)→Int→Int→Option (Int)
 | 0,_,_,_=>none
 | k + 1,x0,x1,x5=>if x5 < (x0.length:Int) then (if 0 ≤ x5 then ((Ni.f k ((xe x0 x5).f0) ((xe x0 x5).f1) ((xe x0 x5).f2) ((xe x0 x5).f3) ((xe x0 x5).f4) x1).bind fun t102=>(if t102 < 0 then (some (-1)) else (Dd.l0 k x0 t102 (wrap64 (x5 + 1))))) else (none)) else (some x1)
def Dd.f (k:Nat) (l0:List (Xw)) (a1:Int):Option (Int):=if (wrap64 (a1 - (l0.length:Int))) < 0 then (some (-1)) else (Dd.l0 k l0 (wrap64 (a1 - (l0.length:Int))) 0)
theorem Dd.calls (k:Nat) (A0:Option Addr) (c0:Nat) (l0:List (Xw)) (a1:Int) (r:Int) (w:World) (Ck:Kd.C jS w A0 l0.length l0) (hc0:l0.length ≤ c0) (h:Dd.f k l0 a1=some r) :
  Calls Try.prog 39 #[.slice A0 l0.length c0,.int .i64 a1] w fun e w'=>e = .returned (.int .i64 r)∧Below w.heap.size w w':=by
 have B5:=Try.underlying86;have fl:=ga.mk Ck;have dI:=ga.mk hc0;clear Ck hc0;have HB:=ga.mk (Below.refl w.heap.size w);have H:(if (wrap64 (a1 - (l0.length:Int))) < 0 then (some (-1)) else (Dd.l0 k l0 (wrap64 (a1 - (l0.length:Int))) 0))=some r:=h;clear h
 by_cases c3:(wrap64 (a1 - (l0.length:Int))) < 0
 ·rw [if_pos c3] at H;have Vg:decide ((wrap64 (a1 - (l0.length:Int))) < 0)=true:=decide_eq_true c3;clear c3;obtain rfl:=Option.some.inj H;go_enter Try.func39,Try.ntmps39;go_wp2;go_ret;exact ⟨by first|rfl|(simp [Oa,Na] <;> rfl)|(simp [*,Oa,Na] <;> rfl),by repeat (first|(with_reducible first|exact HB.out|apply qa|apply ja|apply ta)|exact HB.out)⟩
 ·rw [if_neg c3] at H;have Vg:decide ((wrap64 (a1 - (l0.length:Int))) < 0)=false:=decide_eq_false c3;clear c3;have H':=ga.mk H;clear H;go_enter Try.func39,Try.ntmps39;go_wp2
  go_loopg [1,5] k (fun kq v1 v5 w'=>∃ (qe:Int) (Ga:Int),v1 = .int .i64 qe∧v5 = .int .i64 Ga∧ga (Dd.l0 kq l0 qe Ga=some r)∧ga (kq ≤ k)∧ga (Below w.heap.size w w'))
  case atStart=>exact ⟨(wrap64 (a1 - (l0.length:Int))),(0),(by first|rfl|(simp;done)|(simp [*];done)),(by first|rfl|(simp;done)|(simp [*];done)),H',⟨Nat.le_refl _⟩,⟨by repeat (first|(with_reducible first|exact HB.out|apply qa|apply ja|apply ta)|exact HB.out)⟩⟩
  case round =>
   clear H'
   try clear p2
   try clear c3
   try clear Vg
   (try clear HA);(try clear Xf);(try clear HB);obtain ⟨qe,Ga,rfl,rfl,HA,Xf,HB⟩:=hrel;cases gk with
   | zero=>exact absurd HA.out (by simp [Dd.l0])
   | succ k1 =>
    have H:=HA.out;clear HA;simp only [Dd.l0] at H
    by_cases c4:Ga < (l0.length:Int)
    ·rw [if_pos c4] at H;have cj:decide (Ga < (l0.length:Int))=true:=decide_eq_true c4;clear c4
     by_cases c5:0 ≤ Ga
     ·rw [if_pos c5] at H;have Ui:decide (0 ≤ Ga)=true:=decide_eq_true c5;clear c5;replace H:=Option.bind_eq_some_iff.mp H;obtain ⟨t102,N3,H⟩:=H;replace H:(if t102 < 0 then (some (-1)) else (Dd.l0 k1 l0 t102 (wrap64 (Ga + 1))))=some r:=H;have A6:=ga.mk N3;clear N3
      by_cases c7:t102 < 0
      ·rw [if_pos c7] at H;have Ek:decide (t102 < 0)=true:=decide_eq_true c7;clear c7;obtain rfl:=Option.some.inj H;have We:0 ≤ (Ga:Int):=Ua;have Ve:Ga < (l0.length:Int):=Ua;obtain ⟨Ae,gl,cl,ki,Td,Cf,Bf,Af,zf,Fg,Gg⟩:=DL fl.out Ga We Ve;cases ki;replace Td:=Sa HB.out Td;replace Cf:=Sa HB.out Cf;replace Bf:=Sa HB.out Bf;replace Af:=Sa HB.out Af;replace zf:=Sa HB.out zf;have Og:=ga.mk Gg;have oh:=ga.mk Fg;clear Gg Fg;replace We:=eq_true We;replace Ve:=eq_true Ve;go_wp2_with (first|((with_reducible refine mb (f:=70) rfl ?_);refine Fc (some 23) rfl rfl Try.func70 (by kernel_rfl) rfl #[.agg #[.slice gl ((xe l0 Ga).f0).length cl,.int .i64 ((xe l0 Ga).f1),.int .i64 ((xe l0 Ga).f2),.int .i64 ((xe l0 Ga).f3),.int .i64 ((xe l0 Ga).f4)],.int .i64 qe] rfl (by (try simp only [List.map_toArray,List.map_cons,List.map_nil]);first|done|rfl|(simp only [List.length_drop,List.length_take];rfl)) ?_;(with_reducible refine (Ni.calls k1 _ _ ((xe l0 Ga).f0) ((xe l0 Ga).f1) ((xe l0 Ga).f2) ((xe l0 Ga).f3) ((xe l0 Ga).f4) qe t102 _ ?yc ?uc A6.out).mono ?_);(case yc=>repeat (first|exact (Kd.Jb Og.out HB.out)|(with_reducible refine Kd.Rb ?_ _)|(with_reducible refine Kd.Qb ?_ _)|(with_reducible refine Kd.Yb ?_)));(case uc=>exact oh.out);rintro e w8 ⟨rfl,hb⟩;refine ⟨_,rfl,?_⟩;have yb:=ga.mk (Qa (by repeat (first|(with_reducible first|exact HB.out|apply qa|apply ja|apply ta)|exact HB.out)) hb);clear HB;have HB:=yb;clear yb;(try clear hb);(try clear bk);(try clear hk);(try clear hi)));go_ret;exact ⟨by first|rfl|(simp [Oa,Na] <;> rfl)|(simp [*,Oa,Na] <;> rfl),by repeat (first|(with_reducible first|exact HB.out|apply qa|apply ja|apply ta)|exact HB.out)⟩
      ·rw [if_neg c7] at H;have Ek:decide (t102 < 0)=false:=decide_eq_false c7;clear c7;have H':=ga.mk H;clear H;have We:0 ≤ (Ga:Int):=Ua;have Ve:Ga < (l0.length:Int):=Ua;obtain ⟨Ae,gl,cl,ki,Td,Cf,Bf,Af,zf,Fg,Gg⟩:=DL fl.out Ga We Ve;cases ki;replace Td:=Sa HB.out Td;replace Cf:=Sa HB.out Cf;replace Bf:=Sa HB.out Bf;replace Af:=Sa HB.out Af;replace zf:=Sa HB.out zf;have Og:=ga.mk Gg;have oh:=ga.mk Fg;clear Gg Fg;replace We:=eq_true We;replace Ve:=eq_true Ve;go_wp2_with (first|((with_reducible refine mb (f:=70) rfl ?_);refine Fc (some 23) rfl rfl Try.func70 (by kernel_rfl) rfl #[.agg #[.slice gl ((xe l0 Ga).f0).length cl,.int .i64 ((xe l0 Ga).f1),.int .i64 ((xe l0 Ga).f2),.int .i64 ((xe l0 Ga).f3),.int .i64 ((xe l0 Ga).f4)],.int .i64 qe] rfl (by (try simp only [List.map_toArray,List.map_cons,List.map_nil]);first|done|rfl|(simp only [List.length_drop,List.length_take];rfl)) ?_;(with_reducible refine (Ni.calls k1 _ _ ((xe l0 Ga).f0) ((xe l0 Ga).f1) ((xe l0 Ga).f2) ((xe l0 Ga).f3) ((xe l0 Ga).f4) qe t102 _ ?yc ?uc A6.out).mono ?_);(case yc=>repeat (first|exact (Kd.Jb Og.out HB.out)|(with_reducible refine Kd.Rb ?_ _)|(with_reducible refine Kd.Qb ?_ _)|(with_reducible refine Kd.Yb ?_)));(case uc=>exact oh.out);rintro e w9 ⟨rfl,hb⟩;refine ⟨_,rfl,?_⟩;have yb:=ga.mk (Qa (by repeat (first|(with_reducible first|exact HB.out|apply qa|apply ja|apply ta)|exact HB.out)) hb);clear HB;have HB:=yb;clear yb;(try clear hb);(try clear bk);(try clear hk);(try clear hi)))
       go_roundg k1
       case measure=>have:=Xf.out;omega
       case rel=>exact ⟨(t102),(wrap64 (Ga + 1)),(by first|rfl|(simp;done)|(simp [*];done)),(by first|rfl|(simp;done)|(simp [*];done)),H',⟨by have:=Xf.out;omega⟩,⟨by repeat (first|(with_reducible first|exact HB.out|apply qa|apply ja|apply ta)|exact HB.out)⟩⟩
     ·rw [if_neg c5] at H;exact absurd H (by simp)
    ·rw [if_neg c4] at H;have cj:decide (Ga < (l0.length:Int))=false:=decide_eq_false c4;clear c4;obtain rfl:=Option.some.inj H;go_wp2;go_ret;exact ⟨by first|rfl|(simp [Oa,Na] <;> rfl)|(simp [*,Oa,Na] <;> rfl),by repeat (first|(with_reducible first|exact HB.out|apply qa|apply ja|apply ta)|exact HB.out)⟩
def Lh.f (k:Nat) (Ra:List Int) (La:Int) (Ja:Int) (Ma:Int) (Aa:List (Xw)) (a1:Int):Option (Int):=(Kh.f Ra a1).bind fun t102=>(if t102 < 0 then (some (-1)) else ((Dd.f k Aa t102).bind fun t103=>(if t103 < 0 then (some (-1)) else (some t103))))
theorem Lh.calls (k:Nat) (Xa:Option Addr) (Ya:Nat) (Ra:List Int) (La:Int) (Ja:Int) (Ma:Int) (Mb:Option Addr) (Fb:Nat) (Aa:List (Xw)) (a1:Int) (r:Int) (w:World) (Xd:Kd.C (Kd.int .i64) w Xa Ra.length Ra) (Vd:Ra.length ≤ Ya) (Ff:Kd.C jS w Mb Aa.length Aa) (uf:Aa.length ≤ Fb) (h:Lh.f k Ra La Ja Ma Aa a1=some r) :
  Calls Try.prog 10 #[.agg #[.slice Xa Ra.length Ya,.int .i64 La,.int .i64 Ja,.int .i64 Ma,.slice Mb Aa.length Fb],.int .i64 a1] w fun e w'=>e = .returned (.int .i64 r)∧Below w.heap.size w w':=by
 have rap:=Try.underlying25;have Ye:=ga.mk Xd;have gf:=ga.mk Vd;clear Xd Vd;have wg:=ga.mk Ff;have ei:=ga.mk uf;clear Ff uf;have HB:=ga.mk (Below.refl w.heap.size w);have H:((Kh.f Ra a1).bind fun t102=>(if t102 < 0 then (some (-1)) else ((Dd.f k Aa t102).bind fun t103=>(if t103 < 0 then (some (-1)) else (some t103)))))=some r:=h;clear h;replace H:=Option.bind_eq_some_iff.mp H;obtain ⟨t102,jx,H⟩:=H;replace H:(if t102 < 0 then (some (-1)) else ((Dd.f k Aa t102).bind fun t103=>(if t103 < 0 then (some (-1)) else (some t103))))=some r:=H;have A3:=ga.mk jx;clear jx
 by_cases c4:t102 < 0
 ·rw [if_pos c4] at H;have cj:decide (t102 < 0)=true:=decide_eq_true c4;clear c4;obtain rfl:=Option.some.inj H;go_enter Try.func10,Try.ntmps10;go_wp2_with (first|((with_reducible refine qb (N:=2) rfl ?_);refine Gb ?hg (N:=2) ?hd (cs:=#[.slice Xa Ra.length Ya,.int .i64 La,.int .i64 Ja,.int .i64 Ma,.slice Mb Aa.length Fb]) (t:=25) ?hr ?_;(case hd=>rfl);(case hg=>rfl);(case hr=>first|(go_simp;done)|(go_simp;rfl));intro ya hg w5 Ob hb;have yb:=ga.mk (Qa (by repeat (first|(with_reducible first|exact HB.out|apply qa|apply ja|apply ta)|exact HB.out)) hb);have Ib:=ga.mk (Ob);have Nb:=ga.mk ((by rw [hg];exact (Ia (by repeat (first|(with_reducible first|exact HB.out|apply qa|apply ja|apply ta)|exact HB.out))):w.heap.size ≤ ya));have Dc:=ga.mk ((by rw [hg];exact (Ia (by repeat (first|(with_reducible first|exact HB.out|apply qa|apply ja|apply ta)|exact HB.out))):w.heap.size ≤ ya));clear HB;have HB:=yb;have oa:=Ib;have Nd:=Nb;have Ta:=Dc;clear yb Ib Nb Dc hb Ob hg;have Vm:w5.cell? ⟨ya,0,none⟩=some (.slice Xa Ra.length Ya):=(ia oa.out 0).trans rfl;have Um:w5.cell? ⟨ya,1,none⟩=some (.int .i64 La):=(ia oa.out 1).trans rfl;have Sm:w5.cell? ⟨ya,2,none⟩=some (.int .i64 Ja):=(ia oa.out 2).trans rfl;have Rm:w5.cell? ⟨ya,3,none⟩=some (.int .i64 Ma):=(ia oa.out 3).trans rfl;have Qm:w5.cell? ⟨ya,4,none⟩=some (.slice Mb Aa.length Fb):=(ia oa.out 4).trans rfl;have Pm:=aa oa.out 0;have Om:=aa oa.out 1;have Nm:=aa oa.out 2;have Mm:=aa oa.out 3;have Lm:=aa oa.out 4)|((with_reducible refine mb (f:=38) rfl ?_);refine Fc (some 8) rfl rfl Try.func38 (by kernel_rfl) rfl #[.slice Xa Ra.length Ya,.int .i64 a1] rfl (by (try simp only [List.map_toArray,List.map_cons,List.map_nil]);first|done|rfl|(simp only [List.length_drop,List.length_take];rfl)) ?_;(with_reducible refine (Kh.calls _ _ Ra a1 t102 _ ?yc ?uc A3.out).mono ?_);(case yc=>repeat (first|exact (Kd.Jb Ye.out HB.out)|(with_reducible refine Kd.Rb ?_ _)|(with_reducible refine Kd.Qb ?_ _)|(with_reducible refine Kd.Yb ?_)));(case uc=>exact gf.out);rintro e w' ⟨rfl,⟨nd,rfl⟩⟩;refine ⟨_,rfl,?_⟩));go_ret;exact ⟨by first|rfl|(simp [Oa,Na] <;> rfl)|(simp [*,Oa,Na] <;> rfl),by repeat (first|(with_reducible first|exact HB.out|apply qa|apply ja|apply ta|refine ua ?_ Ta.out)|exact HB.out)⟩
 ·rw [if_neg c4] at H;have cj:decide (t102 < 0)=false:=decide_eq_false c4;clear c4;replace H:=Option.bind_eq_some_iff.mp H;obtain ⟨t103,cK,H⟩:=H;replace H:(if t103 < 0 then (some (-1)) else (some t103))=some r:=H;have A7:=ga.mk cK;clear cK
  by_cases c8:t103 < 0
  ·rw [if_pos c8] at H;have Uq:decide (t103 < 0)=true:=decide_eq_true c8;clear c8;obtain rfl:=Option.some.inj H;go_enter Try.func10,Try.ntmps10;go_wp2_with (first|((with_reducible refine qb (N:=2) rfl ?_);refine Gb ?hg (N:=2) ?hd (cs:=#[.slice Xa Ra.length Ya,.int .i64 La,.int .i64 Ja,.int .i64 Ma,.slice Mb Aa.length Fb]) (t:=25) ?hr ?_;(case hd=>rfl);(case hg=>rfl);(case hr=>first|(go_simp;done)|(go_simp;rfl));intro ya hg w9 Ob hb;have yb:=ga.mk (Qa (by repeat (first|(with_reducible first|exact HB.out|apply qa|apply ja|apply ta)|exact HB.out)) hb);have Ib:=ga.mk (Ob);have Nb:=ga.mk ((by rw [hg];exact (Ia (by repeat (first|(with_reducible first|exact HB.out|apply qa|apply ja|apply ta)|exact HB.out))):w.heap.size ≤ ya));have Dc:=ga.mk ((by rw [hg];exact (Ia (by repeat (first|(with_reducible first|exact HB.out|apply qa|apply ja|apply ta)|exact HB.out))):w.heap.size ≤ ya));clear HB;have HB:=yb;have oa:=Ib;have Nd:=Nb;have Ta:=Dc;clear yb Ib Nb Dc hb Ob hg;have Yh:w9.cell? ⟨ya,0,none⟩=some (.slice Xa Ra.length Ya):=(ia oa.out 0).trans rfl;have Xh:w9.cell? ⟨ya,1,none⟩=some (.int .i64 La):=(ia oa.out 1).trans rfl;have Wh:w9.cell? ⟨ya,2,none⟩=some (.int .i64 Ja):=(ia oa.out 2).trans rfl;have Vh:w9.cell? ⟨ya,3,none⟩=some (.int .i64 Ma):=(ia oa.out 3).trans rfl;have Uh:w9.cell? ⟨ya,4,none⟩=some (.slice Mb Aa.length Fb):=(ia oa.out 4).trans rfl;have Th:=aa oa.out 0;have Sh:=aa oa.out 1;have Rh:=aa oa.out 2;have Qh:=aa oa.out 3;have Ph:=aa oa.out 4)|((with_reducible refine mb (f:=38) rfl ?_);refine Fc (some 8) rfl rfl Try.func38 (by kernel_rfl) rfl #[.slice Xa Ra.length Ya,.int .i64 a1] rfl (by (try simp only [List.map_toArray,List.map_cons,List.map_nil]);first|done|rfl|(simp only [List.length_drop,List.length_take];rfl)) ?_;(with_reducible refine (Kh.calls _ _ Ra a1 t102 _ ?yc ?uc A3.out).mono ?_);(case yc=>repeat (first|exact (Kd.Jb Ye.out HB.out)|(with_reducible refine Kd.Rb ?_ _)|(with_reducible refine Kd.Qb ?_ _)|(with_reducible refine Kd.Yb ?_)));(case uc=>exact gf.out);rintro e w' ⟨rfl,⟨nd,rfl⟩⟩;refine ⟨_,rfl,?_⟩)|((with_reducible refine mb (f:=39) rfl ?_);refine Fc (some 14) rfl rfl Try.func39 (by kernel_rfl) rfl #[.slice Mb Aa.length Fb,.int .i64 t102] rfl (by (try simp only [List.map_toArray,List.map_cons,List.map_nil]);first|done|rfl|(simp only [List.length_drop,List.length_take];rfl)) ?_;(with_reducible refine (Dd.calls k _ _ Aa t102 t103 _ ?yc ?uc A7.out).mono ?_);(case yc=>repeat (first|exact (Kd.Jb wg.out (by repeat (first|(with_reducible first|exact HB.out|apply qa|apply ja|apply ta|refine ua ?_ Ta.out)|exact HB.out)))|(with_reducible refine Kd.Rb ?_ _)|(with_reducible refine Kd.Qb ?_ _)|(with_reducible refine Kd.Yb ?_)));(case uc=>exact ei.out);rintro e Zi ⟨rfl,hb⟩;refine ⟨_,rfl,?_⟩;have yb:=ga.mk (Va (g:=ya) (o:=.cells #[.slice Xa Ra.length Ya,.int .i64 La,.int .i64 Ja,.int .i64 Ma,.slice Mb Aa.length Fb] 25 (0,0)) (by (with_reducible repeat (first|refine Ba ?_ _|refine Fa ?_|refine Ca ?_ _));exact oa.out) hb);have Ib:=ga.mk (Qa (by repeat (first|(with_reducible first|exact HB.out|apply qa|apply ja|apply ta|refine ua ?_ Ta.out)|exact HB.out)) hb);clear oa HB;have oa:=yb;have HB:=Ib;clear yb Ib;(try clear hb);(try clear bk);(try clear hk);(try clear hi)));go_ret;exact ⟨by first|rfl|(simp [Oa,Na] <;> rfl)|(simp [*,Oa,Na] <;> rfl),by repeat (first|(with_reducible first|exact HB.out|apply qa|apply ja|apply ta|refine ua ?_ Ta.out)|exact HB.out)⟩
  ·rw [if_neg c8] at H;have Uq:decide (t103 < 0)=false:=decide_eq_false c8;clear c8;obtain rfl:=Option.some.inj H;go_enter Try.func10,Try.ntmps10;go_wp2_with (first|((with_reducible refine qb (N:=2) rfl ?_);refine Gb ?hg (N:=2) ?hd (cs:=#[.slice Xa Ra.length Ya,.int .i64 La,.int .i64 Ja,.int .i64 Ma,.slice Mb Aa.length Fb]) (t:=25) ?hr ?_;(case hd=>rfl);(case hg=>rfl);(case hr=>first|(go_simp;done)|(go_simp;rfl));intro ya hg Ht Ob hb;have yb:=ga.mk (Qa (by repeat (first|(with_reducible first|exact HB.out|apply qa|apply ja|apply ta)|exact HB.out)) hb);have Ib:=ga.mk (Ob);have Nb:=ga.mk ((by rw [hg];exact (Ia (by repeat (first|(with_reducible first|exact HB.out|apply qa|apply ja|apply ta)|exact HB.out))):w.heap.size ≤ ya));have Dc:=ga.mk ((by rw [hg];exact (Ia (by repeat (first|(with_reducible first|exact HB.out|apply qa|apply ja|apply ta)|exact HB.out))):w.heap.size ≤ ya));clear HB;have HB:=yb;have oa:=Ib;have Nd:=Nb;have Ta:=Dc;clear yb Ib Nb Dc hb Ob hg;have Gq:Ht.cell? ⟨ya,0,none⟩=some (.slice Xa Ra.length Ya):=(ia oa.out 0).trans rfl;have Fq:Ht.cell? ⟨ya,1,none⟩=some (.int .i64 La):=(ia oa.out 1).trans rfl;have Dq:Ht.cell? ⟨ya,2,none⟩=some (.int .i64 Ja):=(ia oa.out 2).trans rfl;have Cq:Ht.cell? ⟨ya,3,none⟩=some (.int .i64 Ma):=(ia oa.out 3).trans rfl;have Bq:Ht.cell? ⟨ya,4,none⟩=some (.slice Mb Aa.length Fb):=(ia oa.out 4).trans rfl;have mq:=aa oa.out 0;have lq:=aa oa.out 1;have jq:=aa oa.out 2;have iq:=aa oa.out 3;have gq:=aa oa.out 4)|((with_reducible refine mb (f:=38) rfl ?_);refine Fc (some 8) rfl rfl Try.func38 (by kernel_rfl) rfl #[.slice Xa Ra.length Ya,.int .i64 a1] rfl (by (try simp only [List.map_toArray,List.map_cons,List.map_nil]);first|done|rfl|(simp only [List.length_drop,List.length_take];rfl)) ?_;(with_reducible refine (Kh.calls _ _ Ra a1 t102 _ ?yc ?uc A3.out).mono ?_);(case yc=>repeat (first|exact (Kd.Jb Ye.out HB.out)|(with_reducible refine Kd.Rb ?_ _)|(with_reducible refine Kd.Qb ?_ _)|(with_reducible refine Kd.Yb ?_)));(case uc=>exact gf.out);rintro e w' ⟨rfl,⟨nd,rfl⟩⟩;refine ⟨_,rfl,?_⟩)|((with_reducible refine mb (f:=39) rfl ?_);refine Fc (some 14) rfl rfl Try.func39 (by kernel_rfl) rfl #[.slice Mb Aa.length Fb,.int .i64 t102] rfl (by (try simp only [List.map_toArray,List.map_cons,List.map_nil]);first|done|rfl|(simp only [List.length_drop,List.length_take];rfl)) ?_;(with_reducible refine (Dd.calls k _ _ Aa t102 t103 _ ?yc ?uc A7.out).mono ?_);(case yc=>repeat (first|exact (Kd.Jb wg.out (by repeat (first|(with_reducible first|exact HB.out|apply qa|apply ja|apply ta|refine ua ?_ Ta.out)|exact HB.out)))|(with_reducible refine Kd.Rb ?_ _)|(with_reducible refine Kd.Qb ?_ _)|(with_reducible refine Kd.Yb ?_)));(case uc=>exact ei.out);rintro e Mw ⟨rfl,hb⟩;refine ⟨_,rfl,?_⟩;have yb:=ga.mk (Va (g:=ya) (o:=.cells #[.slice Xa Ra.length Ya,.int .i64 La,.int .i64 Ja,.int .i64 Ma,.slice Mb Aa.length Fb] 25 (0,0)) (by (with_reducible repeat (first|refine Ba ?_ _|refine Fa ?_|refine Ca ?_ _));exact oa.out) hb);have Ib:=ga.mk (Qa (by repeat (first|(with_reducible first|exact HB.out|apply qa|apply ja|apply ta|refine ua ?_ Ta.out)|exact HB.out)) hb);clear oa HB;have oa:=yb;have HB:=Ib;clear yb Ib;(try clear hb);(try clear bk);(try clear hk);(try clear hi)));go_ret;exact ⟨by first|rfl|(simp [Oa,Na] <;> rfl)|(simp [*,Oa,Na] <;> rfl),by repeat (first|(with_reducible first|exact HB.out|apply qa|apply ja|apply ta|refine ua ?_ Ta.out)|exact HB.out)⟩
end Go.Proofs.Ytkigbdceceeenaa.P
end
