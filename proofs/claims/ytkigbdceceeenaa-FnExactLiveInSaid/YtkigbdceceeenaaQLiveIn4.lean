import Derived.Test.YtkigbdceceeenaaQLiveIn1
import Derived.Test.YtkigbdceceeenaaQLiveIn3
import Derived.Test.YtkigbdceceeenaaQLiveIn2
import Derived.Shelf.Abstract
set_option maxHeartbeats 8000000
set_option maxRecDepth 100000
section
namespace Go.Proofs.Ytkigbdceceeenaa.P
open Go.RowKit Go.Proofs.Sa.Wb Go.Proofs.Sa.je Go.Proofs.Sa.Qf
set_option linter.unusedVariables false
set_option linter.unusedSimpArgs false
attribute [local go_sem] ei ai Tj Sj Yg Xg di Zh
mutual
def Ya.l0:Nat→List (List Bool)→Int→List Int→Int→Int→Int→List (We)→Option ((List (List Bool)))
 | 0,_,_,_,_,_,_,_=>none
 | k + 1,x3,x4,jc,Ec,tc,oc,Rb=>if x4 < (Rb.length:Int) then (if 0 ≤ oc then (if (oc:Int).toNat ≤ 281474976710656 then (if x3.length < 5864062014805 then (Ya.l0 k (x3 ++ [(List.replicate (oc:Int).toNat false)]) (wrap64 (x4 + 1)) jc Ec tc oc Rb) else (none)) else (none)) else (none)) else (Ya.l1 k x3 true jc Ec tc oc Rb)
def Ya.l1:Nat→List (List Bool)→Bool→List Int→Int→Int→Int→List (We)→Option ((List (List Bool)))
 | 0,_,_,_,_,_,_,_=>none
 | k + 1,x3,x5,jc,Ec,tc,oc,Rb=>if x5=true then (Ya.l2 k x3 false (wrap64 ((Rb.length:Int) - 1)) jc Ec tc oc Rb) else (some x3)
def Ya.l2:Nat→List (List Bool)→Bool→Int→List Int→Int→Int→Int→List (We)→Option ((List (List Bool)))
 | 0,_,_,_,_,_,_,_,_=>none
 | k + 1,x3,x5,x6,jc,Ec,tc,oc,Rb=>if x6 ≥ 0 then (if 0 ≤ x6 then (if x6 < (Rb.length:Int) then ((Aj.f ((Oa Rb x6).f0) ((Oa Rb x6).f1) ((Oa Rb x6).f2) ((Oa Rb x6).f3) ((Oa Rb x6).f4)).bind fun t112=>(Ya.l3 k x3 x5 x6 t112 0 jc Ec tc oc Rb)) else (none)) else (none)) else (Ya.l1 k x3 x5 jc Ec tc oc Rb)
def Ya.l3:Nat→List (List Bool)→Bool→Int→List Int→Int→List Int→Int→Int→Int→List (We)→Option ((List (List Bool)))
 | 0,_,_,_,_,_,_,_,_,_,_=>none
 | k + 1,x3,x5,x6,x7,x8,jc,Ec,tc,oc,Rb=>if x8 < (x7.length:Int) then (if 0 ≤ x8 then (if 0 ≤ (rd x7 x8) then (if (rd x7 x8) < (Rb.length:Int) then (if (rd x7 x8) < (x3.length:Int) then ((xe.f k ((Oa Rb (rd x7 x8)).f0) ((Oa Rb (rd x7 x8)).f1) ((Oa Rb (rd x7 x8)).f2) ((Oa Rb (rd x7 x8)).f3) ((Oa Rb (rd x7 x8)).f4) (Rd x3 (rd x7 x8))).bind fun t119=>(Ya.l4 k x3 x5 x6 x7 x8 t119 0 jc Ec tc oc Rb)) else (none)) else (none)) else (none)) else (none)) else (Ya.l2 k x3 x5 (wrap64 (x6 - 1)) jc Ec tc oc Rb)
def Ya.l4:Nat→List (List Bool)→Bool→Int→List Int→Int→List Bool→Int→List Int→Int→Int→Int→List (We)→Option ((List (List Bool)))
 | 0,_,_,_,_,_,_,_,_,_,_,_,_=>none
 | k + 1,x3,x5,x6,x7,x8,x9,RR,jc,Ec,tc,oc,Rb=>if RR < oc then (if 0 ≤ RR then (if RR < (x9.length:Int) then (if Rf false x9 RR=true then (if 0 ≤ x6 then (if x6 < (x3.length:Int) then (if RR < ((Rd x3 x6).length:Int) then (if (Rf false (Rd x3 x6) RR=true) then (Ya.l4 k x3 x5 x6 x7 x8 x9 (wrap64 (RR + 1)) jc Ec tc oc Rb) else (Ya.l4 k (x3.set (x6:Int).toNat ((Rd x3 x6).set (RR:Int).toNat true)) true x6 x7 x8 x9 (wrap64 (RR + 1)) jc Ec tc oc Rb)) else (none)) else (none)) else (none)) else (Ya.l4 k x3 x5 x6 x7 x8 x9 (wrap64 (RR + 1)) jc Ec tc oc Rb)) else (none)) else (none)) else (Ya.l3 k x3 x5 x6 x7 (wrap64 (x8 + 1)) jc Ec tc oc Rb)
end
def Ya.f (k:Nat) (Ra:List Int) (La:Int) (Ja:Int) (Ia:Int) (Fa:List (We)):Option ((List (List Bool))):=Ya.l0 k (([]:List (List Bool))) 0 Ra La Ja Ia Fa
def Ya.T16:Bool × List (List Nat × List Nat):=(true,[([],[]),([0],[0]),([],[]),([],[]),([2,3],[2,3]),([4],[4]),([1,5],[1,5]),([6],[6]),([],[]),([],[]),([],[]),([9,10],[9,10]),([11],[11]),([8,12],[8,12]),([13],[13]),([7,14],[7,14]),([15,15,0,1,2,3,4,5,6,7,8,9,10,11,12,13,14,15],[15])])
def Ya.B16:List Nat:=[0,1,0,0,12,28,63,127,0,0,0,1536,3584,7936,16128,32767,65535]
theorem Ya.Y3:Lm .any (opsOf Try.f41 16)=Ya.T16:=by kernel_rfl
theorem Ya.V0:rm Ya.T16.2 Ya.B16=true:=by kernel_rfl
theorem Ya.calls (k:Nat) (Za:Option Addr) (gb:Nat) (Ra:List Int) (La:Int) (Ja:Int) (Ia:Int) (Vb:Option Addr) (Lb:Nat) (Fa:List (We)) (r:List (List Bool)) (w:World) (Zd:Kd.C (Kd.int .i64) w Za Ra.length Ra) (Xd:Ra.length ≤ gb) (Tf:Kd.C Kp w Vb Fa.length Fa) (Kf:Fa.length ≤ Lb) (h:Ya.f k Ra La Ja Ia Fa=some r) :
  Calls Try.prog 41 #[.agg #[.slice Za Ra.length gb,.int .i64 La,.int .i64 Ja,.int .i64 Ia,.slice Vb Fa.length Lb]] w fun e w'=>∃ Km:Value,e = .returned (Km)∧Kd.S (Kd.slice 4 Kd.bool) 60 w' w.heap.size (fun _=>True) Km r∧Below w.heap.size w w':=by
 have vC:=Try.underlying30;have gy:=Try.underlying59;have He:=ja.mk Zd;have Me:=ja.mk Xd;clear Zd Xd;have Uf:=ja.mk Tf;have Ug:=ja.mk Kf;clear Tf Kf;have HB:=ja.mk (Below.refl w.heap.size w);have H:(Ya.l0 k (([]:List (List Bool))) 0 Ra La Ja Ia Fa)=some r:=h;clear h;obtain ⟨Uc,Re⟩:∃ y_:List (List Bool),y_=(([]:List (List Bool))):=⟨_,rfl⟩;replace H:(Ya.l0 k Uc 0 Ra La Ja Ia Fa)=some r:=by first|(rw [Re];with_reducible exact H)|(have Gd:=(Option.bind_some _ _).symm.trans H;rw [Re];with_reducible exact Gd)|(have Gd:=(Option.bind_some _ _).symm.trans H;with_reducible exact Gd)|with_reducible exact H|(rw [Re];exact H)|exact H
 have yh:=ja.mk Re;clear Re;have H':=ja.mk H;clear H;go_enter Try.func41,Try.ntmps41;go_wp2_with (first|((with_reducible refine xb (N:=1) rfl ?_);refine Fb ?hg (N:=1) ?hd (cs:=#[.slice Za Ra.length gb,.int .i64 La,.int .i64 Ja,.int .i64 Ia,.slice Vb Fa.length Lb]) (t:=30) ?hr ?_;(case hd=>rfl);(case hg=>rfl);(case hr=>first|(go_simp;done)|(go_simp;rfl));intro ya hg w2 Pb hb;have Bb:=ja.mk (Qa (by repeat (first|(with_reducible first|exact HB.out|apply qa|apply ia|apply ta)|exact HB.out)) hb);have Gb:=ja.mk (Pb);have Nb:=ja.mk ((by rw [hg];exact (Ka (by repeat (first|(with_reducible first|exact HB.out|apply qa|apply ia|apply ta)|exact HB.out))):w.heap.size ≤ ya));have Dc:=ja.mk ((by rw [hg];exact (Ka (by repeat (first|(with_reducible first|exact HB.out|apply qa|apply ia|apply ta)|exact HB.out))):w.heap.size ≤ ya));clear HB;have HB:=Bb;have oa:=Gb;have Ad:=Nb;have Ta:=Dc;clear Bb Gb Nb Dc hb Pb hg)|((with_reducible refine xb (N:=11) rfl ?_);refine Kd.Baa (Kd.slice 4 Kd.bool) _ 60 ?hg (N:=11) ?hd (xs:=([]:List (List Bool))) (inner:=[]) (ok:=fun _=>True) (Lh:=fun _=>True) ?hr ?hp (fun _ hk=>hk) trivial (Below.refl _ _) (Nat.le_refl _) (by simp) ?_;(case hd=>rfl);(case hg=>rfl);(case hr=>first|(go_simp;done)|(go_simp;rfl));(case hp=>exact (td.none _ _));intro Jm w3 jy hb om Le;clear om Le;(first|rw [← yh.out] at jy|(simp only [Int.reduceToNat] at jy;rw [← yh.out] at jy));have Bb:=ja.mk (Kd.fu jy (Ka (by repeat (first|(with_reducible first|exact HB.out|apply qa|apply ia|apply ta|refine ua ?_ Ta.out)|exact HB.out))));have Gb:=ja.mk (Va (g:=ya) (o:=.cells #[.slice Za Ra.length gb,.int .i64 La,.int .i64 Ja,.int .i64 Ia,.slice Vb Fa.length Lb] 30 (0,0)) (by (with_reducible repeat (first|refine Aa ?_ _|refine Da ?_|refine Ba ?_ _));exact oa.out) hb);have Nb:=ja.mk (Qa (by repeat (first|(with_reducible first|exact HB.out|apply qa|apply ia|apply ta|refine ua ?_ Ta.out)|exact HB.out)) hb);clear oa HB;have lg:=Bb;have oa:=Gb;have HB:=Nb;clear Bb Gb Nb hb jy))
 go_loopg [3,4] k (fun kq v3 v4 w'=>∃ (Od:List (List Bool)) (Sc:Int),v4 = .int .i64 Sc∧ja (Ya.l0 kq Od Sc Ra La Ja Ia Fa=some r)∧ja (kq ≤ k)∧ja (Kd.S (Kd.slice 4 Kd.bool) 60 w' w.heap.size (fun _=>True) v3 Od)∧ja (w'.heap[ya]? = some (.cells #[(.slice Za Ra.length gb),.int .i64 La,.int .i64 Ja,.int .i64 Ia,(.slice Vb Fa.length Lb)] 30 (0,0)))∧ja (Below w.heap.size w w'))
 case atStart=>exact ⟨(Uc),(0),(by first|rfl|(simp;done)|(simp [*];done)),H',⟨Nat.le_refl _⟩,⟨by (with_reducible repeat (first|apply Kd.Nf|apply Kd.Mf|apply Kd.pg));exact lg.out⟩,⟨by (with_reducible repeat (first|refine Aa ?_ _|refine Da ?_|refine Ba ?_ _));exact oa.out⟩,⟨by repeat (first|(with_reducible first|exact HB.out|apply qa|apply ia|apply ta|refine ua ?_ Ta.out)|exact HB.out)⟩⟩
 case round =>
  clear H'
  try clear p2
  try clear c4
  (try clear HA);(try clear qg);(try clear Wc);(try clear oa);(try clear HB);obtain ⟨Od,Sc,rfl,HA,qg,Wc,oa,HB⟩:=hrel;cases gk with
  | zero=>exact absurd HA.out (by simp [Ya.l0])
  | succ k1 =>
   have H:=HA.out;clear HA;simp only [Ya.l0] at H
   by_cases c5:Sc < (Fa.length:Int)
   ·rw [if_pos c5] at H;have ki:decide (Sc < (Fa.length:Int))=true:=decide_eq_true c5;clear c5
    by_cases c6:0 ≤ Ia
    ·rw [if_pos c6] at H;have Sm:=eq_true c6;have Bz:decide (0 ≤ Ia)=true:=decide_eq_true c6;clear c6
     by_cases c7:(Ia:Int).toNat ≤ 281474976710656
     ·rw [if_pos c7] at H;have Jj:=eq_true c7;have Pp:decide ((Ia:Int).toNat ≤ 281474976710656)=true:=decide_eq_true c7;clear c7;obtain ⟨xd,Qe⟩:∃ y_:List Bool,y_=(List.replicate (Ia:Int).toNat false):=⟨_,rfl⟩;replace H:(if Od.length < 5864062014805 then (Ya.l0 k1 (Od ++ [xd]) (wrap64 (Sc + 1)) Ra La Ja Ia Fa) else (none))=some r:=by first|(rw [Qe];with_reducible exact H)|(have Gd:=(Option.bind_some _ _).symm.trans H;rw [Qe];with_reducible exact Gd)|(have Gd:=(Option.bind_some _ _).symm.trans H;with_reducible exact Gd)|with_reducible exact H|(rw [Qe];exact H)|exact H
      have Hj:=ja.mk Qe;clear Qe
      by_cases c8:Od.length < 5864062014805
      ·rw [if_pos c8] at H;have kam:=ja.mk c8;clear c8;obtain ⟨cg,Pe⟩:∃ y_:List (List Bool),y_=(Od ++ [xd]):=⟨_,rfl⟩;replace H:(Ya.l0 k1 cg (wrap64 (Sc + 1)) Ra La Ja Ia Fa)=some r:=by first|(rw [Pe];with_reducible exact H)|(have Gd:=(Option.bind_some _ _).symm.trans H;rw [Pe];with_reducible exact Gd)|(have Gd:=(Option.bind_some _ _).symm.trans H;with_reducible exact Gd)|with_reducible exact H|(rw [Pe];exact H)|exact H
       have Jh:=ja.mk Pe;clear Pe;have H':=ja.mk H;clear H;have Hl:wr.cell? ⟨ya,0,none⟩=some (.slice Za Ra.length gb):=(ga oa.out 0).trans rfl;have Gl:wr.cell? ⟨ya,1,none⟩=some (.int .i64 La):=(ga oa.out 1).trans rfl;have Fl:wr.cell? ⟨ya,2,none⟩=some (.int .i64 Ja):=(ga oa.out 2).trans rfl;have El:wr.cell? ⟨ya,3,none⟩=some (.int .i64 Ia):=(ga oa.out 3).trans rfl;have Dl:wr.cell? ⟨ya,4,none⟩=some (.slice Vb Fa.length Lb):=(ga oa.out 4).trans rfl;have Zk:=aa oa.out 0;have Yk:=aa oa.out 1;have Xk:=aa oa.out 2;have Wk:=aa oa.out 3;have Vk:=aa oa.out 4;go_wp2_with (first|((with_reducible refine xb (N:=22) rfl ?_);refine Kd.Qy Kd.bool _ 4 rfl (N:=22) rfl 60 _ _ rfl Ia rfl rfl Try.underlying60 (.bool false) 1 Yy rfl (by decide) (by omega) false (ok:=fun _=>True) (Lh:=fun _=>True) rfl (fun _ hk=>hk) trivial (Ua) (Nat.le_trans (Nat.mul_le_mul_right _ (Ua:Ia.toNat ≤ 281474976710656)) (by omega)) (Below.refl _ _) (Nat.le_refl _) ?_;intro Ux aq Qn hb om Le;clear om Le;(first|rw [← Hj.out] at Qn|(simp only [Int.reduceToNat] at Qn;rw [← Hj.out] at Qn));have Bb:=ja.mk (Kd.Sr (by (with_reducible repeat (first|apply Kd.Nf|apply Kd.Mf|apply Kd.pg));exact Wc.out) (Kd.Tr Qn) hb);have Gb:=ja.mk (Kd.Dd Qn (Ka (by repeat (first|(with_reducible first|exact HB.out|apply qa|apply ia|apply ta|refine ua ?_ Ta.out)|exact HB.out))));have Nb:=ja.mk (Va (g:=ya) (o:=.cells #[.slice Za Ra.length gb,.int .i64 La,.int .i64 Ja,.int .i64 Ia,.slice Vb Fa.length Lb] 30 (0,0)) (by (with_reducible repeat (first|refine Aa ?_ _|refine Da ?_|refine Ba ?_ _));exact oa.out) hb);have Dc:=ja.mk (Qa (by repeat (first|(with_reducible first|exact HB.out|apply qa|apply ia|apply ta|refine ua ?_ Ta.out)|exact HB.out)) hb);clear Wc oa HB;have Wc:=Bb;have zh:=Gb;have oa:=Nb;have HB:=Dc;clear Bb Gb Nb Dc hb Qn;obtain ⟨MJ,Fp,GQ⟩:=Kd.Ud zh.out;subst GQ)|((with_reducible refine Md (b:=.append) (xs:=#[.tmp 19,.tmp 23]) rfl ?_);at_builtin;refine Kd.QB (Kd.slice 4 Kd.bool) (w0:=w) w.heap.size rfl (.tmp 19) (.tmp 23) 55 60 (.slice none 0 0) 24 rfl Try.underlying55 QI rfl (by decide) (by omega) u3 Od xd [.slice MJ xd.length Fp] (fun _=>True) (fun k_=>some k_=(.slice MJ xd.length Fp:Value).ownBlock) rfl rfl ?aP (fun k_ M5=>((Kd.ze (Eu:=fun k_=>((fun _=>True)) k_∧some k_ ≠ (u3:Value).ownBlock) (Kd.Hx (zh.out) (Kd.DA Wc.out) (by decide)) (fun k_ hk=>⟨trivial,hk.2⟩))).1 k_ M5.symm) ?aF ?aO ?aB ?aS ?aL ?_;(case aP=>exact Kd.nX (Kd.ze (Kd.gu rfl (Kd.ze (Eu:=fun k_=>((fun _=>True)) k_∧some k_ ≠ (u3:Value).ownBlock) (Kd.Hx (zh.out) (Kd.DA Wc.out) (by decide)) (fun k_ hk=>⟨trivial,hk.2⟩))) (fun _ h_=>h_)));(case aB=>exact (by repeat (first|(with_reducible first|exact HB.out|apply qa|apply ia|apply ta|refine ua ?_ Ta.out)|exact HB.out)));(case aF=>exact (fun _ _=>trivial));(case aO=>exact (by (with_reducible repeat (first|apply Kd.Nf|apply Kd.Mf|apply Kd.pg));exact Kd.uj Wc.out (fun k_ hk=>⟨trivial,fun e_=>hk.2 e_⟩)));(case aS=>exact (Ka (by repeat (first|(with_reducible first|exact HB.out|apply qa|apply ia|apply ta|refine ua ?_ Ta.out)|exact HB.out))));(case aL=>have:=kam.out;omega);intro RA dr ho hb hg hat;rw [← Jh.out] at ho;have Bb:=ja.mk (ud (g:=ya) (o:=.cells #[.slice Za Ra.length gb,.int .i64 La,.int .i64 Ja,.int .i64 Ia,.slice Vb Fa.length Lb] 30 (0,0)) (by (with_reducible repeat (first|refine Aa ?_ _|refine Da ?_|refine Ba ?_ _));exact oa.out) hg (Kd.iam Wc.out oa.out (by decide)));have Gb:=ja.mk (hb);have Nb:=ja.mk (ho);clear oa HB Wc zh;have oa:=Bb;have HB:=Gb;have wg:=Nb;clear Bb Gb Nb ho hb hg hat))
       go_roundg k1
       case measure=>have:=qg.out;omega
       case rel=>exact ⟨(cg),(wrap64 (Sc + 1)),(by first|rfl|(simp;done)|(simp [*];done)),H',⟨by have:=qg.out;omega⟩,⟨by (with_reducible repeat (first|apply Kd.Nf|apply Kd.Mf|apply Kd.pg));exact wg.out⟩,⟨by (with_reducible repeat (first|refine Aa ?_ _|refine Da ?_|refine Ba ?_ _));exact oa.out⟩,⟨by repeat (first|(with_reducible first|exact HB.out|apply qa|apply ia|apply ta|refine ua ?_ Ta.out)|exact HB.out)⟩⟩
      ·rw [if_neg c8] at H;exact absurd H (by simp)
     ·rw [if_neg c7] at H;exact absurd H (by simp)
    ·rw [if_neg c6] at H;exact absurd H (by simp)
   ·rw [if_neg c5] at H;have ki:decide (Sc < (Fa.length:Int))=false:=decide_eq_false c5;clear c5;have H':=ja.mk H;clear H;have fj:wr.cell? ⟨ya,0,none⟩=some (.slice Za Ra.length gb):=(ga oa.out 0).trans rfl;have ej:wr.cell? ⟨ya,1,none⟩=some (.int .i64 La):=(ga oa.out 1).trans rfl;have cj:wr.cell? ⟨ya,2,none⟩=some (.int .i64 Ja):=(ga oa.out 2).trans rfl;have aj:wr.cell? ⟨ya,3,none⟩=some (.int .i64 Ia):=(ga oa.out 3).trans rfl;have Zi:wr.cell? ⟨ya,4,none⟩=some (.slice Vb Fa.length Lb):=(ga oa.out 4).trans rfl;have Wi:=aa oa.out 0;have Vi:=aa oa.out 1;have Ui:=aa oa.out 2;have Ti:=aa oa.out 3;have Si:=aa oa.out 4;go_wp2
    go_loopg [5] k1 (fun kq v5 w'=>∃ (Sx:List (List Bool)) (Bh:Bool),v5 = .bool Bh∧ja (Ya.l1 kq Sx Bh Ra La Ja Ia Fa=some r)∧ja (kq ≤ k1)∧ja (Kd.S (Kd.slice 4 Kd.bool) 60 w' w.heap.size (fun _=>True) u3 Sx)∧ja (w'.heap[ya]? = some (.cells #[(.slice Za Ra.length gb),.int .i64 La,.int .i64 Ja,.int .i64 Ia,(.slice Vb Fa.length Lb)] 30 (0,0)))∧ja (Below w.heap.size w w'))
    case atStart=>exact ⟨(Od),(true),(by first|rfl|(simp;done)|(simp [*];done)),H',⟨Nat.le_refl _⟩,⟨by (with_reducible repeat (first|apply Kd.Nf|apply Kd.Mf|apply Kd.pg));exact Wc.out⟩,⟨by (with_reducible repeat (first|refine Aa ?_ _|refine Da ?_|refine Ba ?_ _));exact oa.out⟩,⟨by repeat (first|(with_reducible first|exact HB.out|apply qa|apply ia|apply ta|refine ua ?_ Ta.out)|exact HB.out)⟩⟩
    case round =>
     clear H'
     try clear p2
     try clear c4
     try clear c5
     try clear ki
     try clear c6
     try clear Sm
     try clear Bz
     try clear p6
     try clear c7
     try clear Jj
     try clear Pp
     try clear c8
     try clear fj
     try clear ej
     try clear cj
     try clear aj
     try clear Zi
     try clear Hl
     try clear Gl
     try clear Fl
     try clear El
     try clear Dl
     try clear Wi
     try clear Vi
     try clear Ui
     try clear Ti
     try clear Si
     try clear Zk
     try clear Yk
     try clear Xk
     try clear Wk
     try clear Vk
     try clear p2
     (try clear HA);(try clear Vr);(try clear Wc);(try clear oa);(try clear HB);obtain ⟨Sx,Bh,rfl,HA,Vr,Wc,oa,HB⟩:=hrel;cases gk with
     | zero=>exact absurd HA.out (by simp [Ya.l1])
     | succ k2 =>
      have H:=HA.out;clear HA;simp only [Ya.l1] at H
      by_cases CA:Bh=true
      ·subst CA;have H1:(Ya.l2 k2 Sx false (wrap64 ((Fa.length:Int) - 1)) Ra La Ja Ia Fa)=some r:=by rw [if_pos rfl] at H;exact H
       clear H;have H:=H1;clear H1;have H':=ja.mk H;clear H;have Gm:wr.cell? ⟨ya,0,none⟩=some (.slice Za Ra.length gb):=(ga oa.out 0).trans rfl;have Fm:wr.cell? ⟨ya,1,none⟩=some (.int .i64 La):=(ga oa.out 1).trans rfl;have Em:wr.cell? ⟨ya,2,none⟩=some (.int .i64 Ja):=(ga oa.out 2).trans rfl;have Dm:wr.cell? ⟨ya,3,none⟩=some (.int .i64 Ia):=(ga oa.out 3).trans rfl;have Cm:wr.cell? ⟨ya,4,none⟩=some (.slice Vb Fa.length Lb):=(ga oa.out 4).trans rfl;have Bm:=aa oa.out 0;have Am:=aa oa.out 1;have zm:=aa oa.out 2;have ym:=aa oa.out 3;have xm:=aa oa.out 4;go_wp2
       go_loopg [5,6] k2 (fun kq v5 v6 w'=>∃ (uN:List (List Bool)) (Ie:Bool) (Ae:Int),v5 = .bool Ie∧v6 = .int .i64 Ae∧ja (Ya.l2 kq uN Ie Ae Ra La Ja Ia Fa=some r)∧ja (kq ≤ k2)∧ja (Kd.S (Kd.slice 4 Kd.bool) 60 w' w.heap.size (fun _=>True) u3 uN)∧ja (w'.heap[ya]? = some (.cells #[(.slice Za Ra.length gb),.int .i64 La,.int .i64 Ja,.int .i64 Ia,(.slice Vb Fa.length Lb)] 30 (0,0)))∧ja (Below w.heap.size w w'))
       case atStart=>exact ⟨(Sx),(false),(wrap64 ((Fa.length:Int) - 1)),(by first|rfl|(simp;done)|(simp [*];done)),(by first|rfl|(simp;done)|(simp [*];done)),H',⟨Nat.le_refl _⟩,⟨by (with_reducible repeat (first|apply Kd.Nf|apply Kd.Mf|apply Kd.pg));exact Wc.out⟩,⟨by (with_reducible repeat (first|refine Aa ?_ _|refine Da ?_|refine Ba ?_ _));exact oa.out⟩,⟨by repeat (first|(with_reducible first|exact HB.out|apply qa|apply ia|apply ta|refine ua ?_ Ta.out)|exact HB.out)⟩⟩
       case round =>
        clear H'
        try clear c1
        try clear p2
        try clear c4
        try clear c5
        try clear ki
        try clear c6
        try clear Sm
        try clear Bz
        try clear p6
        try clear c7
        try clear Jj
        try clear Pp
        try clear c8
        try clear CA
        try clear fj
        try clear ej
        try clear cj
        try clear aj
        try clear Zi
        try clear Gm
        try clear Fm
        try clear Em
        try clear Dm
        try clear Cm
        try clear Hl
        try clear Gl
        try clear Fl
        try clear El
        try clear Dl
        try clear Wi
        try clear Vi
        try clear Ui
        try clear Ti
        try clear Si
        try clear Bm
        try clear Am
        try clear zm
        try clear ym
        try clear xm
        try clear Zk
        try clear Yk
        try clear Xk
        try clear Wk
        try clear Vk
        try clear p2
        try clear p6
        (try clear HA);(try clear bD);(try clear Wc);(try clear oa);(try clear HB);obtain ⟨uN,Ie,Ae,rfl,rfl,HA,bD,Wc,oa,HB⟩:=hrel;cases gk with
        | zero=>exact absurd HA.out (by simp [Ya.l2])
        | succ k3 =>
         have H:=HA.out;clear HA;simp only [Ya.l2] at H
         by_cases Qp:Ae ≥ 0
         ·rw [if_pos Qp] at H;have en:decide (0 ≤ Ae)=true:=decide_eq_true Qp;clear Qp
          by_cases Zp:0 ≤ Ae
          ·rw [if_pos Zp] at H;have Jo:decide (0 ≤ Ae)=true:=decide_eq_true Zp;clear Zp
           by_cases Xm:Ae < (Fa.length:Int)
           ·rw [if_pos Xm] at H;have er:decide (Ae < (Fa.length:Int))=true:=decide_eq_true Xm;clear Xm;replace H:=Option.bind_eq_some_iff.mp H;obtain ⟨t112,dI,H⟩:=H;replace H:(Ya.l3 k3 uN Ie Ae t112 0 Ra La Ja Ia Fa)=some r:=H;have sN:=ja.mk dI;clear dI;have H':=ja.mk H;clear H;have tA:wr.cell? ⟨ya,0,none⟩=some (.slice Za Ra.length gb):=(ga oa.out 0).trans rfl;have sA:wr.cell? ⟨ya,1,none⟩=some (.int .i64 La):=(ga oa.out 1).trans rfl;have rA:wr.cell? ⟨ya,2,none⟩=some (.int .i64 Ja):=(ga oa.out 2).trans rfl;have qA:wr.cell? ⟨ya,3,none⟩=some (.int .i64 Ia):=(ga oa.out 3).trans rfl;have oA:wr.cell? ⟨ya,4,none⟩=some (.slice Vb Fa.length Lb):=(ga oa.out 4).trans rfl;have Vz:=aa oa.out 0;have Uz:=aa oa.out 1;have Tz:=aa oa.out 2;have Sz:=aa oa.out 3;have Rz:=aa oa.out 4;have gB:0 ≤ (Ae:Int):=Ua;have eB:Ae < (Fa.length:Int):=Ua;obtain ⟨Gj,vG,fG,OZ,Xo,Gz,Fz,Ez,Dz,qw,vw⟩:=Bi Uf.out Ae gB eB;cases OZ
            try replace Xo:=Pa HB.out Xo
            try replace Gz:=Pa HB.out Gz
            try replace Fz:=Pa HB.out Fz
            try replace Ez:=Pa HB.out Ez
            try replace Dz:=Pa HB.out Dz
            have Ap:=ja.mk vw;have pG:=ja.mk qw;clear vw qw;replace gB:=eq_true gB;replace eB:=eq_true eB;go_wp2_with (first|((with_reducible refine qb (f:=72) rfl ?_);refine Mc (some 39) rfl rfl Try.func72 (by kernel_rfl) rfl #[.agg #[.slice vG ((Oa Fa Ae).f0).length fG,.int .i64 ((Oa Fa Ae).f1),.int .i64 ((Oa Fa Ae).f2),.int .i64 ((Oa Fa Ae).f3),.int .i64 ((Oa Fa Ae).f4)]] rfl (by (try simp only [List.map_toArray,List.map_cons,List.map_nil]);first|done|rfl|(simp only [List.length_drop,List.length_take];rfl)) ?_;(with_reducible refine (Aj.calls _ _ ((Oa Fa Ae).f0) ((Oa Fa Ae).f1) ((Oa Fa Ae).f2) ((Oa Fa Ae).f3) ((Oa Fa Ae).f4) t112 _ ?Jc ?Ic sN.out).mono ?_);(case Jc=>repeat (first|exact (Kd.Mb Ap.out HB.out)|(with_reducible refine Kd.Tb ?_ _)|(with_reducible refine Kd.Sb ?_ _)|(with_reducible refine Kd.qc ?_)));(case Ic=>exact pG.out);rintro e fC ⟨jY,rfl,ri,hb⟩;refine ⟨_,rfl,?_⟩;have Bb:=ja.mk (Kd.Vh (by (with_reducible repeat (first|apply Kd.Nf|apply Kd.Mf|apply Kd.pg));exact Wc.out) hb);have Gb:=ja.mk (Kd.Dd ri (Ka (by repeat (first|(with_reducible first|exact HB.out|apply qa|apply ia|apply ta|refine ua ?_ Ta.out)|exact HB.out))));have Nb:=ja.mk (Va (g:=ya) (o:=.cells #[.slice Za Ra.length gb,.int .i64 La,.int .i64 Ja,.int .i64 Ia,.slice (some Gj) Fa.length Lb] 30 (0,0)) (by (with_reducible repeat (first|refine Aa ?_ _|refine Da ?_|refine Ba ?_ _));exact oa.out) hb);have Dc:=ja.mk (Qa (by repeat (first|(with_reducible first|exact HB.out|apply qa|apply ia|apply ta|refine ua ?_ Ta.out)|exact HB.out)) hb);clear Wc oa HB;have Wc:=Bb;have BR:=Gb;have oa:=Nb;have HB:=Dc;clear Bb Gb Nb Dc;(try clear hb);(try clear si);(try clear hk);(try clear hi);(try clear ri)))
            go_loopg [5,8] k3 (fun kq v5 v8 w'=>∃ (av:List (List Bool)) (tN:Bool) (lf:Int),v5 = .bool tN∧v8 = .int .i64 lf∧ja (Ya.l3 kq av tN Ae t112 lf Ra La Ja Ia Fa=some r)∧ja (kq ≤ k3)∧ja (Kd.S (Kd.slice 4 Kd.bool) 60 w' w.heap.size (fun _=>True) u3 av)∧ja (Kd.R (Kd.int .i64) 3 w' w.heap.size (fun _=>True) jY t112)∧ja (w'.heap[ya]? = some (.cells #[(.slice Za Ra.length gb),.int .i64 La,.int .i64 Ja,.int .i64 Ia,(.slice (some Gj) Fa.length Lb)] 30 (0,0)))∧ja (Below w.heap.size w w'))
            case atStart=>exact ⟨(uN),(Ie),(0),(by first|rfl|(simp;done)|(simp [*];done)),(by first|rfl|(simp;done)|(simp [*];done)),H',⟨Nat.le_refl _⟩,⟨by (with_reducible repeat (first|apply Kd.Nf|apply Kd.Mf|apply Kd.pg));exact Wc.out⟩,⟨by (with_reducible repeat (first|apply Kd.zb|apply Kd.yb|apply Kd.Ib));exact BR.out⟩,⟨by (with_reducible repeat (first|refine Aa ?_ _|refine Da ?_|refine Ba ?_ _));exact oa.out⟩,⟨by repeat (first|(with_reducible first|exact HB.out|apply qa|apply ia|apply ta|refine ua ?_ Ta.out)|exact HB.out)⟩⟩
            case round =>
             clear H'
             try clear c1
             try clear p1
             try clear q1
             try clear hx1
             try clear p2
             try clear c4
             try clear c5
             try clear ki
             try clear c6
             try clear Sm
             try clear Bz
             try clear p6
             try clear c7
             try clear Jj
             try clear Pp
             try clear c8
             try clear QM
             try clear sD
             try clear oD
             try clear TN
             try clear CA
             try clear Qp
             try clear en
             try clear Zp
             try clear Jo
             try clear Xm
             try clear er
             try clear fj
             try clear ej
             try clear cj
             try clear aj
             try clear Zi
             try clear Gm
             try clear Fm
             try clear Em
             try clear Dm
             try clear Cm
             try clear tA
             try clear sA
             try clear rA
             try clear qA
             try clear oA
             try clear Hl
             try clear Gl
             try clear Fl
             try clear El
             try clear Dl
             try clear Wi
             try clear Vi
             try clear Ui
             try clear Ti
             try clear Si
             try clear Bm
             try clear Am
             try clear zm
             try clear ym
             try clear xm
             try clear Vz
             try clear Uz
             try clear Tz
             try clear Sz
             try clear Rz
             try clear Zk
             try clear Yk
             try clear Xk
             try clear Wk
             try clear Vk
             try clear Xo
             try clear Gz
             try clear Fz
             try clear Ez
             try clear Dz
             try clear gB
             try clear p2
             try clear p6
             try clear eB
             (try clear HA);(try clear DR);(try clear Wc);(try clear Lj);(try clear oa);(try clear HB);obtain ⟨av,tN,lf,rfl,rfl,HA,DR,Wc,Lj,oa,HB⟩:=hrel;cases gk with
             | zero=>exact absurd HA.out (by simp [Ya.l3])
             | succ k4 =>
              have H:=HA.out;clear HA;simp only [Ya.l3] at H
              by_cases eG:lf < (t112.length:Int)
              ·rw [if_pos eG] at H;have OM:decide (lf < (t112.length:Int))=true:=decide_eq_true eG;clear eG
               by_cases jO:0 ≤ lf
               ·rw [if_pos jO] at H;have naa:decide (0 ≤ lf)=true:=decide_eq_true jO;clear jO
                by_cases RC:0 ≤ (rd t112 lf)
                ·rw [if_pos RC] at H;have KH:decide (0 ≤ (rd t112 lf))=true:=decide_eq_true RC;clear RC
                 by_cases JH:(rd t112 lf) < (Fa.length:Int)
                 ·rw [if_pos JH] at H;have XW:decide ((rd t112 lf) < (Fa.length:Int))=true:=decide_eq_true JH;clear JH
                  by_cases mI:(rd t112 lf) < (av.length:Int)
                  ·rw [if_pos mI] at H;have WW:decide ((rd t112 lf) < (av.length:Int))=true:=decide_eq_true mI;clear mI;replace H:=Option.bind_eq_some_iff.mp H;obtain ⟨t119,eac,H⟩:=H;replace H:(Ya.l4 k4 av tN Ae t112 lf t119 0 Ra La Ja Ia Fa)=some r:=H;have A28:=ja.mk eac;clear eac;have H':=ja.mk H;clear H;obtain ⟨Mam,J_,LZ⟩:=Kd.Ud Lj.out;subst LZ
                   try go_wp2
                   have Bb:=ja.mk (Kd.pg Wc.out);have Gb:=ja.mk (Kd.Ib Lj.out);have Nb:=ja.mk (Da oa.out);have Dc:=ja.mk (ta HB.out);clear Wc Lj oa HB;have Wc:=Bb;have Lj:=Gb;have oa:=Nb;have HB:=Dc;clear Bb Gb Nb Dc;have rz:0 ≤ (lf:Int):=Ua;have pz:lf < (t112.length:Int):=Ua;obtain ⟨UC,JQ,mq⟩:=Kd.ek (Kd.dc Lj.out).2.2 lf rz pz;cases JQ;replace rz:=eq_true rz;replace pz:=eq_true pz;have uS:0 ≤ ((rd t112 lf):Int):=Ua;have rS:(rd t112 lf) < (Fa.length:Int):=Ua;obtain ⟨xaa,NR,XQ,Ral,Hv,Gv,Fv,Dv,Cv,vK,AK⟩:=Bi Uf.out (rd t112 lf) uS rS;have nK:=Cv;have oK:=Dv;have pK:=Fv;have qK:=Gv;have rK:=Hv;obtain rfl:Gj=xaa:=(by injection Ral)
                   try replace Hv:=Pa HB.out Hv
                   try replace Gv:=Pa HB.out Gv
                   try replace Fv:=Pa HB.out Fv
                   try replace Dv:=Pa HB.out Dv
                   try replace Cv:=Pa HB.out Cv
                   have jN:=ja.mk AK;have TV:=ja.mk vK;clear AK vK;replace uS:=eq_true uS;replace rS:=eq_true rS;have tS:0 ≤ (lf:Int):=Ua;have pS:lf < (t112.length:Int):=Ua;obtain ⟨waa,Qal,ED⟩:=Kd.ek (Kd.dc Lj.out).2.2 lf tS pS;obtain rfl:UC=waa:=(by injection Qal);replace tS:=eq_true tS;replace pS:=eq_true pS;obtain ⟨sau,I_,E_⟩:=Kd.fo Wc.out;(first|subst E_|(injection E_ with BQ GZ AQ;have FZ:=BQ.symm;have EZ:=AQ.symm;clear BQ GZ AQ;subst FZ;subst EZ));have VO:0 ≤ ((rd t112 lf):Int):=Ua;have UO:(rd t112 lf) < (av.length:Int):=Ua;obtain ⟨TC,MR,WQ,Pal,Bv,uK,zK⟩:=Vu (Kd.Ue Wc.out).2.2 (rd t112 lf) VO UO;cases Pal;obtain ⟨Jaq,sZ,yZ,qQ⟩:=Kd.QH Wc.out [] (rd t112 lf) VO (by first|exact UO|exact Ua|(have e_:=(Kd.Ue Wc.out).1;omega));obtain ⟨pac,rfl,UF⟩:=yZ;have mw:=qQ 0 _ rfl;rw [Nat.add_zero,show ((Kd.slice 4 Kd.bool)).sz=1 from rfl,Nat.mul_one] at mw;replace mw:=Option.some.inj (mw.symm.trans Bv);rw [mw] at UF;have Nx:=ja.mk (show Kd.R Kd.bool 4 _ _ _ _ (Rd av (rd t112 lf)) from UF);clear mw UF;have IA:=ja.mk Bv;clear qQ sZ;have Yq:=ja.mk zK;have SV:=ja.mk uK;clear zK uK;replace VO:=eq_true VO;replace UO:=eq_true UO;refine mm (n:=17) (S:=fun w'=>w'.cell? ⟨ya,0,none⟩=some (.slice Za Ra.length gb)∧w'.cell? ⟨ya,1,none⟩=some (.int .i64 La)∧w'.cell? ⟨ya,2,none⟩=some (.int .i64 Ja)∧w'.cell? ⟨ya,3,none⟩=some (.int .i64 Ia)∧w'.cell? ⟨ya,4,none⟩=some (.slice (some Gj) Fa.length Lb)∧w'.cell? (UC.add (lf).toNat)=some (.int .i64 (rd t112 lf))∧w'.cell? (Gj.add (((rd t112 lf)).toNat * 5))=some (.slice NR ((Oa Fa (rd t112 lf)).f0).length XQ)∧w'.cell? ⟨(Gj.add (((rd t112 lf)).toNat * 5)).block,(Gj.add (((rd t112 lf)).toNat * 5)).off + 1,none⟩=some (.int .i64 ((Oa Fa (rd t112 lf)).f1))∧w'.cell? ⟨(Gj.add (((rd t112 lf)).toNat * 5)).block,(Gj.add (((rd t112 lf)).toNat * 5)).off + 2,none⟩=some (.int .i64 ((Oa Fa (rd t112 lf)).f2))∧w'.cell? ⟨(Gj.add (((rd t112 lf)).toNat * 5)).block,(Gj.add (((rd t112 lf)).toNat * 5)).off + 3,none⟩=some (.int .i64 ((Oa Fa (rd t112 lf)).f3))∧w'.cell? ⟨(Gj.add (((rd t112 lf)).toNat * 5)).block,(Gj.add (((rd t112 lf)).toNat * 5)).off + 4,none⟩=some (.int .i64 ((Oa Fa (rd t112 lf)).f4))∧w'.cell? (UC.add (lf).toNat)=some (.int .i64 (rd t112 lf))∧w'.cell? (TC.add ((rd t112 lf)).toNat)=some (.slice MR (Rd av (rd t112 lf)).length WQ)) (ds:=[]) #[false,false,false,false,false,false,false,false,false,false,false,false,false,false,false,false,false] (by kernel_rfl) rfl rfl ⟨(ga oa.out 0).trans rfl,(ga oa.out 1).trans rfl,(ga oa.out 2).trans rfl,(ga oa.out 3).trans rfl,(ga oa.out 4).trans rfl,mq,(Pa HB.out rK),(Pa HB.out qK),(Pa HB.out pK),(Pa HB.out oK),(Pa HB.out nK),ED,Bv⟩ (fun hHeld=>?_);refine Dh Ya.Y3 Ya.V0 (fun Bf Xq=>?_);generalize wr.drew=rC at Wc Lj oa HB Nx jN Yq IA mq Hv Gv Fv Dv Cv ED Bv hHeld ⊢;refine Zc (i:=0) (N:=some 46) (v:=?_) (a':=?_) #[true,false,false,false,false,false,false,false,false,false,false,false,false,false,false,false,false] rfl rfl (Oc Bf.out (by kernel_rfl)) (fun _ _ _ h=>h) (Or.inl ⟨by rfl,?_⟩) ?_ ?_;rotate_left
                   ·intro w';go_simp;with_reducible rfl
                   rotate_left
                   ·simp only [Act.put,List.setIfInBounds_toArray,List.set_cons_zero,List.set_cons_succ,Yb,Zb]
                    rfl
                   refine Zc (i:=2) (N:=some 48) (v:=?_) (a':=?_) #[true,false,true,false,false,false,false,false,false,false,false,false,false,false,false,false,false] rfl rfl (Oc Bf.out (by kernel_rfl)) (fun _ _ _ h=>h) (Or.inl ⟨by rfl,?_⟩) ?_ ?_;rotate_left
                   ·intro w';go_simp;with_reducible rfl
                   rotate_left
                   ·simp only [Act.put,List.setIfInBounds_toArray,List.set_cons_zero,List.set_cons_succ,Yb,Zb]
                    rfl
                   refine Zc (i:=3) (N:=some 49) (v:=?_) (a':=?_) #[true,false,true,true,false,false,false,false,false,false,false,false,false,false,false,false,false] rfl rfl (Oc Bf.out (by kernel_rfl)) (fun _ _ _ h=>h) (Or.inl ⟨by rfl,?_⟩) ?_ ?_;rotate_left
                   ·intro w';go_simp;with_reducible rfl
                   rotate_left
                   ·simp only [Act.put,List.setIfInBounds_toArray,List.set_cons_zero,List.set_cons_succ,Yb,Zb]
                    rfl
                   refine Zc (i:=4) (N:=some 50) (v:=?_) (a':=?_) #[true,false,true,true,true,false,false,false,false,false,false,false,false,false,false,false,false] rfl rfl (Oc Bf.out (by kernel_rfl)) (fun _ _ _ h=>h) (Or.inl ⟨by rfl,?_⟩) ?_ ?_;rotate_left
                   ·intro w';go_simp;with_reducible rfl
                   rotate_left
                   ·simp only [Act.put,List.setIfInBounds_toArray,List.set_cons_zero,List.set_cons_succ,Yb,Zb]
                    rfl
                   refine Zc (i:=8) (N:=some 54) (v:=?_) (a':=?_) #[true,false,true,true,true,false,false,false,true,false,false,false,false,false,false,false,false] rfl rfl (Oc Bf.out (by kernel_rfl)) (fun _ _ _ h=>h) (Or.inl ⟨by rfl,?_⟩) ?_ ?_;rotate_left
                   ·intro w';go_simp;with_reducible rfl
                   rotate_left
                   ·simp only [Act.put,List.setIfInBounds_toArray,List.set_cons_zero,List.set_cons_succ,Yb,Zb]
                    rfl
                   refine Zc (i:=9) (N:=some 55) (v:=?_) (a':=?_) #[true,false,true,true,true,false,false,false,true,true,false,false,false,false,false,false,false] rfl rfl (Oc Bf.out (by kernel_rfl)) (fun _ _ _ h=>h) (Or.inl ⟨by rfl,?_⟩) ?_ ?_;rotate_left
                   ·intro w';go_simp;with_reducible rfl
                   rotate_left
                   ·simp only [Act.put,List.setIfInBounds_toArray,List.set_cons_zero,List.set_cons_succ,Yb,Zb]
                    rfl
                   refine Zc (i:=10) (N:=some 56) (v:=?_) (a':=?_) #[true,false,true,true,true,false,false,false,true,true,true,false,false,false,false,false,false] rfl rfl (Oc Bf.out (by kernel_rfl)) (fun _ _ _ h=>h) (Or.inl ⟨by rfl,?_⟩) ?_ ?_;rotate_left
                   ·intro w';go_simp;with_reducible rfl
                   rotate_left
                   ·simp only [Act.put,List.setIfInBounds_toArray,List.set_cons_zero,List.set_cons_succ,Yb,Zb]
                    rfl
                   refine Zc (i:=11) (N:=some 57) (v:=?_) (a':=?_) #[true,false,true,true,true,false,false,false,true,true,true,true,false,false,false,false,false] rfl rfl (Oc Bf.out (by kernel_rfl)) (fun _ _ _ h=>h) (Or.inl ⟨by rfl,?_⟩) ?_ ?_;rotate_left
                   ·intro w';go_simp;with_reducible rfl
                   rotate_left
                   ·simp only [Act.put,List.setIfInBounds_toArray,List.set_cons_zero,List.set_cons_succ,Yb,Zb]
                    rfl
                   refine yg (i:=1) (N:=some 47) (v:=?_) (a':=?_) #[true,true,true,true,true,false,false,false,true,true,true,true,false,false,false,false,false] rfl rfl (Ce Bf.out Xq.out (by kernel_rfl)) (fun _ _ _ h=>h) (Or.inl ⟨by rfl,?_⟩) hHeld ?_ ?_;rotate_left
                   ·rintro w' ⟨s0,s1,s2,s3,s4,s5,s6,s7,s8,s9,AG,YJ,XJ⟩;go_simp;with_reducible rfl
                   rotate_left
                   ·simp only [Act.put,List.setIfInBounds_toArray,List.set_cons_zero,List.set_cons_succ,Yb,Zb]
                    rfl
                   refine yg (i:=5) (N:=some 51) (v:=?_) (a':=?_) #[true,true,true,true,true,true,false,false,true,true,true,true,false,false,false,false,false] rfl rfl (Ce Bf.out Xq.out (by kernel_rfl)) (fun _ _ _ h=>h) (Or.inl ⟨by rfl,?_⟩) hHeld ?_ ?_;rotate_left
                   ·rintro w' ⟨s0,s1,s2,s3,s4,s5,s6,s7,s8,s9,AG,YJ,XJ⟩;go_simp;with_reducible rfl
                   rotate_left
                   ·simp only [Act.put,List.setIfInBounds_toArray,List.set_cons_zero,List.set_cons_succ,Yb,Zb]
                    rfl
                   refine Zc (i:=6) (N:=some 52) (v:=?_) (a':=?_) #[true,true,true,true,true,true,true,false,true,true,true,true,false,false,false,false,false] rfl rfl (Oc Bf.out (by kernel_rfl)) (fun _ _ _ h=>h) (Or.inl ⟨by rfl,?_⟩) ?_ ?_;rotate_left
                   ·intro w';go_simp;with_reducible rfl
                   rotate_left
                   ·simp only [Act.put,List.setIfInBounds_toArray,List.set_cons_zero,List.set_cons_succ,Yb,Zb]
                    rfl
                   refine yg (i:=7) (N:=some 53) (v:=?_) (a':=?_) #[true,true,true,true,true,true,true,true,true,true,true,true,false,false,false,false,false] rfl rfl (Ce Bf.out Xq.out (by kernel_rfl)) (fun _ _ _ h=>h) (Or.inl ⟨by rfl,?_⟩) hHeld ?_ ?_;rotate_left
                   ·rintro w' ⟨s0,s1,s2,s3,s4,s5,s6,s7,s8,s9,AG,YJ,XJ⟩;go_simp;with_reducible rfl
                   rotate_left
                   ·simp only [Act.put,List.setIfInBounds_toArray,List.set_cons_zero,List.set_cons_succ,Yb,Zb]
                    rfl
                   refine yg (i:=12) (N:=some 58) (v:=?_) (a':=?_) #[true,true,true,true,true,true,true,true,true,true,true,true,true,false,false,false,false] rfl rfl (Ce Bf.out Xq.out (by kernel_rfl)) (fun _ _ _ h=>h) (Or.inl ⟨by rfl,?_⟩) hHeld ?_ ?_;rotate_left
                   ·rintro w' ⟨s0,s1,s2,s3,s4,s5,s6,s7,s8,s9,AG,YJ,XJ⟩;go_simp;with_reducible rfl
                   rotate_left
                   ·simp only [Act.put,List.setIfInBounds_toArray,List.set_cons_zero,List.set_cons_succ,Yb,Zb]
                    rfl
                   refine Zc (i:=13) (N:=some 59) (v:=?_) (a':=?_) #[true,true,true,true,true,true,true,true,true,true,true,true,true,true,false,false,false] rfl rfl (Oc Bf.out (by kernel_rfl)) (fun _ _ _ h=>h) (Or.inl ⟨by rfl,?_⟩) ?_ ?_;rotate_left
                   ·intro w';go_simp;with_reducible rfl
                   rotate_left
                   ·simp only [Act.put,List.setIfInBounds_toArray,List.set_cons_zero,List.set_cons_succ,Yb,Zb]
                    rfl
                   refine yg (i:=14) (N:=some 60) (v:=?_) (a':=?_) #[true,true,true,true,true,true,true,true,true,true,true,true,true,true,true,false,false] rfl rfl (Ce Bf.out Xq.out (by kernel_rfl)) (fun _ _ _ h=>h) (Or.inl ⟨by rfl,?_⟩) hHeld ?_ ?_;rotate_left
                   ·rintro w' ⟨s0,s1,s2,s3,s4,s5,s6,s7,s8,s9,AG,YJ,XJ⟩;go_simp;with_reducible rfl
                   rotate_left
                   ·simp only [Act.put,List.setIfInBounds_toArray,List.set_cons_zero,List.set_cons_succ,Yb,Zb]
                    rfl
                   refine ku (i:=15) (N:=some 61) #[true,true,true,true,true,true,true,true,true,true,true,true,true,true,true,true,false] rfl rfl (vo Bf.out (by kernel_rfl)) (by decide) (fun K hK=>?_);refine dn Try.func54 (by kernel_rfl) rfl #[.agg #[.slice NR ((Oa Fa (rd t112 lf)).f0).length XQ,.int .i64 ((Oa Fa (rd t112 lf)).f1),.int .i64 ((Oa Fa (rd t112 lf)).f2),.int .i64 ((Oa Fa (rd t112 lf)).f3),.int .i64 ((Oa Fa (rd t112 lf)).f4)],.slice MR (Rd av (rd t112 lf)).length WQ] (by rfl) rfl rfl (by (try simp only [List.map_toArray,List.map_cons,List.map_nil]);first|done|rfl|(simp only [List.length_drop,List.length_take];rfl)) ?_;with_reducible refine (xe.calls k4 _ _ ((Oa Fa (rd t112 lf)).f0) ((Oa Fa (rd t112 lf)).f1) ((Oa Fa (rd t112 lf)).f2) ((Oa Fa (rd t112 lf)).f3) ((Oa Fa (rd t112 lf)).f4) _ _ (Rd av (rd t112 lf)) t119 _ ?Jc ?Ic ?Qd ?Pd A28.out).mono ?_
                   (case Jc=>repeat (first|exact (Kd.Mb jN.out HB.out)|(with_reducible refine Kd.Tb ?_ _)|(with_reducible refine Kd.Sb ?_ _)|(with_reducible refine Kd.qc ?_)))
                   (case Ic=>exact TV.out)
                   (case Qd=>repeat (first|exact (by repeat (first|(with_reducible exact Yq.out)|(with_reducible refine Kd.Tb ?_ _)|(with_reducible refine Kd.Sb ?_ _)|(with_reducible refine Kd.qc ?_)|exact Yq.out))|(with_reducible refine Kd.Tb ?_ _)|(with_reducible refine Kd.Sb ?_ _)|(with_reducible refine Kd.qc ?_)))
                   (case Pd=>exact SV.out)
                   rintro e sO ⟨W3,rfl,ri,hb⟩;have uam:=(hb.cell (World.block_lt_of_cell? _ _ (hHeld.2.2.2.2.2.1))).trans (hHeld.2.2.2.2.2.1);have gab:=(hb.cell (World.block_lt_of_cell? _ _ (hHeld.2.2.2.2.2.2.2.2.2.2.2.1))).trans (hHeld.2.2.2.2.2.2.2.2.2.2.2.1);have fab:=(hb.cell (World.block_lt_of_cell? _ _ (hHeld.2.2.2.2.2.2.2.2.2.2.2.2))).trans (hHeld.2.2.2.2.2.2.2.2.2.2.2.2);refine ⟨_,rfl,?_⟩;have Bb:=ja.mk (Kd.Sr (by (with_reducible repeat (first|apply Kd.Nf|apply Kd.Mf|apply Kd.pg));exact Wc.out) (Kd.Tr ri) hb);have Gb:=ja.mk (Kd.yd (by (with_reducible repeat (first|apply Kd.zb|apply Kd.yb|apply Kd.Ib));exact Lj.out) hb);have Nb:=ja.mk (Kd.Gx (by (with_reducible repeat (first|apply Kd.zb|apply Kd.yb|apply Kd.Ib));exact Nx.out) (Kd.Tr ri) hb);have Dc:=ja.mk (Kd.Dd (Kd.GJ ri (Kd.pR (by (with_reducible repeat (first|apply Kd.zb|apply Kd.yb|apply Kd.Ib));exact Nx.out))) (Ka (by repeat (first|(with_reducible first|exact HB.out|apply qa|apply ia|apply ta|refine ua ?_ Ta.out)|exact HB.out))));have Jf:=ja.mk (Va (g:=ya) (o:=.cells #[.slice Za Ra.length gb,.int .i64 La,.int .i64 Ja,.int .i64 Ia,.slice (some Gj) Fa.length Lb] 30 (0,0)) (by (with_reducible repeat (first|refine Aa ?_ _|refine Da ?_|refine Ba ?_ _));exact oa.out) hb);have sg:=ja.mk (Kd.Mb (by repeat (first|(with_reducible exact Yq.out)|(with_reducible refine Kd.Tb ?_ _)|(with_reducible refine Kd.Sb ?_ _)|(with_reducible refine Kd.qc ?_)|exact Yq.out)) hb);have Bg:=ja.mk (vm hb IA.out);have QG:=ja.mk (Qa (by repeat (first|(with_reducible first|exact HB.out|apply qa|apply ia|apply ta|refine ua ?_ Ta.out)|exact HB.out)) hb);clear Wc Lj Nx oa Yq IA HB;have Wc:=Bb;have Lj:=Gb;have Nx:=Nb;have sab:=Dc;have oa:=Jf;have Yq:=sg;have IA:=Bg;have HB:=QG;clear Bb Gb Nb Dc Jf sg Bg QG;(try clear hb);(try clear si);(try clear hk);(try clear hi);(try clear ri);refine hK.out _ _ ⟨(ga oa.out 0).trans rfl,(ga oa.out 1).trans rfl,(ga oa.out 2).trans rfl,(ga oa.out 3).trans rfl,(ga oa.out 4).trans rfl,uam,(Pa HB.out rK),(Pa HB.out qK),(Pa HB.out pK),(Pa HB.out oK),(Pa HB.out nK),gab,fab⟩ (fun hHeld=>?_);clear hK K;refine bn (a':=?_) ?_ ?_;rotate_left
                   ·show Act.put _ (some 61) _=_
                    simp only [Act.put,List.setIfInBounds_toArray,List.set_cons_zero,List.set_cons_succ,Yb,Zb]
                    rfl
                   refine Zc (i:=16) (N:=some 9) (v:=?_) (a':=?_) #[true,true,true,true,true,true,true,true,true,true,true,true,true,true,true,true,true] rfl rfl (Oc Bf.out (by kernel_rfl)) (fun _ _ _ h=>h) (Or.inl ⟨by rfl,?_⟩) ?_ ?_;rotate_left
                   ·intro w';go_simp;with_reducible rfl
                   rotate_left
                   ·simp only [Act.put,List.setIfInBounds_toArray,List.set_cons_zero,List.set_cons_succ,Yb,Zb]
                    rfl
                   refine Np (Ul Bf.out (by kernel_rfl)) ?_
                   try go_wp2
                   go_loopg [5,10] k4 (fun kq v5 v10 w'=>∃ (Dg:List (List Bool)) (gz:Bool) (Ym:List Bool) (Ge:Int),v5 = .bool gz∧v10 = .int .i64 Ge∧ja (Ya.l4 kq Dg gz Ae t112 lf Ym Ge Ra La Ja Ia Fa=some r)∧ja (kq ≤ k4)∧ja (Kd.S (Kd.slice 4 Kd.bool) 60 w' w.heap.size (fun k_=>some k_ ≠ (W3:Value).ownBlock) (.slice (some TC) av.length I_) Dg)∧ja (Kd.R (Kd.int .i64) 3 w' w.heap.size (fun _=>True) (.slice (some UC) t112.length J_) t112)∧ja (Kd.R Kd.bool 4 w' w.heap.size (fun _=>True) W3 Ym)∧ja (w'.heap[ya]? = some (.cells #[(.slice Za Ra.length gb),.int .i64 La,.int .i64 Ja,.int .i64 Ia,(.slice (some Gj) Fa.length Lb)] 30 (0,0)))∧ja (Below w.heap.size w w'))
                   case atStart=>exact ⟨(av),(tN),(t119),(0),(by first|rfl|(simp;done)|(simp [*];done)),(by first|rfl|(simp;done)|(simp [*];done)),H',⟨Nat.le_refl _⟩,⟨by (with_reducible repeat (first|apply Kd.Nf|apply Kd.Mf|apply Kd.pg));exact Kd.uj Wc.out (fun _ hk=>hk.2)⟩,⟨by (with_reducible repeat (first|apply Kd.zb|apply Kd.yb|apply Kd.Ib));exact Lj.out⟩,⟨by (with_reducible repeat (first|apply Kd.zb|apply Kd.yb|apply Kd.Ib));exact Kd.ze sab.out (fun _ hk=>trivial)⟩,⟨by (with_reducible repeat (first|refine Aa ?_ _|refine Da ?_|refine Ba ?_ _));exact oa.out⟩,⟨by repeat (first|(with_reducible first|exact HB.out|apply qa|apply ia|apply ta|refine ua ?_ Ta.out)|exact HB.out)⟩⟩
                   case round =>
                    clear H'
                    try clear c1
                    try clear p1
                    try clear q1
                    try clear hx1
                    try clear c2
                    try clear p2
                    try clear c4
                    try clear c5
                    try clear ki
                    try clear c6
                    try clear Sm
                    try clear Bz
                    try clear p6
                    try clear c7
                    try clear Jj
                    try clear Pp
                    try clear c8
                    try clear QM
                    try clear sD
                    try clear oD
                    try clear TN
                    try clear CA
                    try clear Qp
                    try clear en
                    try clear Zp
                    try clear Jo
                    try clear Xm
                    try clear er
                    try clear eG
                    try clear OM
                    try clear jO
                    try clear naa
                    try clear RC
                    try clear KH
                    try clear JH
                    try clear XW
                    try clear mI
                    try clear WW
                    try clear fj
                    try clear ej
                    try clear cj
                    try clear aj
                    try clear Zi
                    try clear Gm
                    try clear Fm
                    try clear Em
                    try clear Dm
                    try clear Cm
                    try clear tA
                    try clear sA
                    try clear rA
                    try clear qA
                    try clear oA
                    try clear Hl
                    try clear Gl
                    try clear Fl
                    try clear El
                    try clear Dl
                    try clear Wi
                    try clear Vi
                    try clear Ui
                    try clear Ti
                    try clear Si
                    try clear Bm
                    try clear Am
                    try clear zm
                    try clear ym
                    try clear xm
                    try clear Vz
                    try clear Uz
                    try clear Tz
                    try clear Sz
                    try clear Rz
                    try clear Zk
                    try clear Yk
                    try clear Xk
                    try clear Wk
                    try clear Vk
                    try clear Xo
                    try clear Gz
                    try clear Fz
                    try clear Ez
                    try clear Dz
                    try clear mq
                    try clear Hv
                    try clear Gv
                    try clear Fv
                    try clear Dv
                    try clear Cv
                    try clear ED
                    try clear Bv
                    try clear p1
                    try clear sD
                    try clear gB
                    try clear rz
                    try clear uS
                    try clear tS
                    try clear VO
                    try clear p2
                    try clear p6
                    try clear q1
                    try clear oD
                    try clear eB
                    try clear pz
                    try clear rS
                    try clear pS
                    try clear UO
                    (try clear HA);(try clear PV);(try clear Wc);(try clear Lj);(try clear Lx);(try clear oa);(try clear HB);obtain ⟨Dg,gz,Ym,Ge,rfl,rfl,HA,PV,Wc,Lj,Lx,oa,HB⟩:=hrel;have Mi:=(Kd.Ue Wc.out).1;rw [Mi] at Wc;(try simp only [Mi]);(try simp only [Mi] at oa);(try simp only [Mi] at Lj);(try simp only [Mi] at Lx);cases gk with
                    | zero=>exact absurd HA.out (by simp [Ya.l4])
                    | succ k5 =>
                     have H:=HA.out;clear HA;simp only [Ya.l4] at H
                     by_cases yO:Ge < Ia
                     ·rw [if_pos yO] at H;have iaa:decide (Ge < Ia)=true:=decide_eq_true yO;clear yO
                      by_cases GH:0 ≤ Ge
                      ·rw [if_pos GH] at H;have SW:decide (0 ≤ Ge)=true:=decide_eq_true GH;clear GH
                       by_cases EG:Ge < (Ym.length:Int)
                       ·rw [if_pos EG] at H;have SQ:decide (Ge < (Ym.length:Int))=true:=decide_eq_true EG;clear EG;obtain ⟨raa,tQ⟩:∃ b_:Bool,b_=(Rf false Ym Ge):=⟨_,rfl⟩;replace H:(if raa=true then (if 0 ≤ Ae then (if Ae < (Dg.length:Int) then (if Ge < ((Rd Dg Ae).length:Int) then (if (Rf false (Rd Dg Ae) Ge=true) then (Ya.l4 k5 Dg gz Ae t112 lf Ym (wrap64 (Ge + 1)) Ra La Ja Ia Fa) else (Ya.l4 k5 (Dg.set (Ae:Int).toNat ((Rd Dg Ae).set (Ge:Int).toNat true)) true Ae t112 lf Ym (wrap64 (Ge + 1)) Ra La Ja Ia Fa)) else (none)) else (none)) else (none)) else (Ya.l4 k5 Dg gz Ae t112 lf Ym (wrap64 (Ge + 1)) Ra La Ja Ia Fa))=some r:=by rw [← tQ] at H;exact H
                        have VH:=ja.mk tQ;clear tQ
                        by_cases c37:raa=true
                        ·subst c37;have H1:(if 0 ≤ Ae then (if Ae < (Dg.length:Int) then (if Ge < ((Rd Dg Ae).length:Int) then (if (Rf false (Rd Dg Ae) Ge=true) then (Ya.l4 k5 Dg gz Ae t112 lf Ym (wrap64 (Ge + 1)) Ra La Ja Ia Fa) else (Ya.l4 k5 (Dg.set (Ae:Int).toNat ((Rd Dg Ae).set (Ge:Int).toNat true)) true Ae t112 lf Ym (wrap64 (Ge + 1)) Ra La Ja Ia Fa)) else (none)) else (none)) else (none))=some r:=by rw [if_pos rfl] at H;exact H
                         clear H;have H:=H1;clear H1
                         by_cases xO:0 ≤ Ae
                         ·rw [if_pos xO] at H;have NW:decide (0 ≤ Ae)=true:=decide_eq_true xO;clear xO
                          by_cases VR:Ae < (Dg.length:Int)
                          ·rw [if_pos VR] at H;have Maq:decide (Ae < (Dg.length:Int))=true:=decide_eq_true VR;clear VR
                           by_cases c40:Ge < ((Rd Dg Ae).length:Int)
                           ·rw [if_pos c40] at H;have Laq:decide (Ge < ((Rd Dg Ae).length:Int))=true:=decide_eq_true c40;clear c40;obtain ⟨qaa,sQ⟩:∃ b_:Bool,b_=(Rf false (Rd Dg Ae) Ge):=⟨_,rfl⟩;replace H:(if (qaa=true) then (Ya.l4 k5 Dg gz Ae t112 lf Ym (wrap64 (Ge + 1)) Ra La Ja Ia Fa) else (Ya.l4 k5 (Dg.set (Ae:Int).toNat ((Rd Dg Ae).set (Ge:Int).toNat true)) true Ae t112 lf Ym (wrap64 (Ge + 1)) Ra La Ja Ia Fa))=some r:=by rw [← sQ] at H;exact H
                            have dN:=ja.mk sQ;clear sQ
                            by_cases c42:(qaa=true)
                            ·subst c42;have H1:(Ya.l4 k5 Dg gz Ae t112 lf Ym (wrap64 (Ge + 1)) Ra La Ja Ia Fa)=some r:=by rw [if_pos rfl] at H;exact H
                             clear H;have H:=H1;clear H1;have H':=ja.mk H;clear H;have NL:wr.cell? ⟨ya,0,none⟩=some (.slice Za Ra.length gb):=(ga oa.out 0).trans rfl;have ML:wr.cell? ⟨ya,1,none⟩=some (.int .i64 La):=(ga oa.out 1).trans rfl;have LL:wr.cell? ⟨ya,2,none⟩=some (.int .i64 Ja):=(ga oa.out 2).trans rfl;have KL:wr.cell? ⟨ya,3,none⟩=some (.int .i64 Ia):=(ga oa.out 3).trans rfl;have JL:wr.cell? ⟨ya,4,none⟩=some (.slice (some Gj) Fa.length Lb):=(ga oa.out 4).trans rfl;have LK:=aa oa.out 0;have KK:=aa oa.out 1;have JK:=aa oa.out 2;have IK:=aa oa.out 3;have GK:=aa oa.out 4;obtain ⟨pau,Vas,Gal⟩:=Kd.Ud Lx.out;subst Gal;have fB:0 ≤ (Ge:Int):=Ua;have dB:Ge < (Ym.length:Int):=Ua;obtain ⟨dR,IQ,lq⟩:=Kd.jj (Kd.dc Lx.out).2.2 Ge fB dB;(try rw [← VH.out] at lq);(try rw [← dN.out] at lq);cases IQ;replace fB:=eq_true fB;replace dB:=eq_true dB;have rD:0 ≤ (Ae:Int):=Ua;have nD:Ae < (Dg.length:Int):=Ua;obtain ⟨cR,j3,tJ,NZ,Gs,ow,uw⟩:=Vu (Kd.Ue Wc.out).2.2 Ae rD nD;obtain rfl:TC=cR:=(by injection NZ);obtain ⟨L_,UI,WI,yB⟩:=Kd.QH Wc.out [] Ae rD (by first|exact nD|exact Ua|(have e_:=(Kd.Ue Wc.out).1;omega));obtain ⟨fS,rfl,Qq⟩:=WI;have Sk:=yB 0 _ rfl;rw [Nat.add_zero,show ((Kd.slice 4 Kd.bool)).sz=1 from rfl,Nat.mul_one] at Sk;replace Sk:=Option.some.inj (Sk.symm.trans Gs);rw [Sk] at Qq;have oN:=ja.mk (show Kd.R Kd.bool 4 _ _ _ _ (Rd Dg Ae) from Qq);clear Sk Qq;have GV:=ja.mk Gs;clear yB UI;have Ix:=ja.mk uw;have RV:=ja.mk ow;clear uw ow;replace rD:=eq_true rD;replace nD:=eq_true nD;have EI:0 ≤ (Ge:Int):=Ua;have BI:Ge < ((Rd Dg Ae).length:Int):=Ua;obtain ⟨vaa,MZ,Fs⟩:=Kd.jj (by repeat (first|(with_reducible exact Ix.out)|(with_reducible refine Kd.Tb ?_ _)|(with_reducible refine Kd.Sb ?_ _)|(with_reducible refine Kd.qc ?_)|exact Ix.out)) Ge EI BI;(try rw [← VH.out] at Fs);(try rw [← dN.out] at Fs);cases MZ;replace EI:=eq_true EI;replace BI:=eq_true BI;go_wp2;(try simp only [← Mi])
                             go_roundg k5
                             case measure=>have:=qg.out;have:=Vr.out;have:=bD.out;have:=DR.out;have:=PV.out;omega
                             case rel=>exact ⟨(Dg),(gz),(Ym),(wrap64 (Ge + 1)),(by first|rfl|(simp;done)|(simp [*];done)),(by first|rfl|(simp;done)|(simp [*];done)),H',⟨by have:=qg.out;have:=Vr.out;have:=bD.out;have:=DR.out;have:=PV.out;omega⟩,⟨by (try simp only [Mi]);(with_reducible repeat (first|apply Kd.Nf|apply Kd.Mf|apply Kd.pg));exact Wc.out⟩,⟨by (try simp only [Mi]);(with_reducible repeat (first|apply Kd.zb|apply Kd.yb|apply Kd.Ib));exact Lj.out⟩,⟨by (try simp only [Mi]);(with_reducible repeat (first|apply Kd.zb|apply Kd.yb|apply Kd.Ib));exact Lx.out⟩,⟨by (try simp only [Mi]);(with_reducible repeat (first|refine Aa ?_ _|refine Da ?_|refine Ba ?_ _));exact oa.out⟩,⟨by repeat (first|(with_reducible first|exact HB.out|apply qa|apply ia|apply ta|refine ua ?_ Ta.out)|exact HB.out)⟩⟩
                            ·replace c42:=Bool.eq_false_iff.mpr c42;subst c42;have H1:(Ya.l4 k5 (Dg.set (Ae:Int).toNat ((Rd Dg Ae).set (Ge:Int).toNat true)) true Ae t112 lf Ym (wrap64 (Ge + 1)) Ra La Ja Ia Fa)=some r:=by rw [if_neg (show ¬ (false=true) by decide)] at H;exact H
                             clear H;have H:=H1;clear H1;obtain ⟨XX,XG⟩:∃ y_:List Bool,y_=((Rd Dg Ae).set (Ge:Int).toNat true):=⟨_,rfl⟩;replace H:(Ya.l4 k5 (Dg.set (Ae:Int).toNat XX) true Ae t112 lf Ym (wrap64 (Ge + 1)) Ra La Ja Ia Fa)=some r:=by first|(rw [XG];with_reducible exact H)|(have Gd:=(Option.bind_some _ _).symm.trans H;rw [XG];with_reducible exact Gd)|(have Gd:=(Option.bind_some _ _).symm.trans H;with_reducible exact Gd)|with_reducible exact H|(rw [XG];exact H)|exact H
                             have Faa:=ja.mk XG;clear XG;obtain ⟨WX,WG⟩:∃ y_:List (List Bool),y_=(Dg.set (Ae:Int).toNat XX):=⟨_,rfl⟩;replace H:(Ya.l4 k5 WX true Ae t112 lf Ym (wrap64 (Ge + 1)) Ra La Ja Ia Fa)=some r:=by first|(rw [WG];with_reducible exact H)|(have Gd:=(Option.bind_some _ _).symm.trans H;rw [WG];with_reducible exact Gd)|(have Gd:=(Option.bind_some _ _).symm.trans H;with_reducible exact Gd)|with_reducible exact H|(rw [WG];exact H)|exact H
                             have Eaa:=ja.mk WG;clear WG;have H':=ja.mk H;clear H;have zU:wr.cell? ⟨ya,0,none⟩=some (.slice Za Ra.length gb):=(ga oa.out 0).trans rfl;have yU:wr.cell? ⟨ya,1,none⟩=some (.int .i64 La):=(ga oa.out 1).trans rfl;have xU:wr.cell? ⟨ya,2,none⟩=some (.int .i64 Ja):=(ga oa.out 2).trans rfl;have wU:wr.cell? ⟨ya,3,none⟩=some (.int .i64 Ia):=(ga oa.out 3).trans rfl;have vU:wr.cell? ⟨ya,4,none⟩=some (.slice (some Gj) Fa.length Lb):=(ga oa.out 4).trans rfl;have nT:=aa oa.out 0;have mT:=aa oa.out 1;have lT:=aa oa.out 2;have kT:=aa oa.out 3;have jT:=aa oa.out 4;obtain ⟨oau,Ual,Fal⟩:=Kd.Ud Lx.out;subst Fal;have fB:0 ≤ (Ge:Int):=Ua;have dB:Ge < (Ym.length:Int):=Ua;obtain ⟨dR,IQ,lq⟩:=Kd.jj (Kd.dc Lx.out).2.2 Ge fB dB;(try rw [← VH.out] at lq);(try rw [← dN.out] at lq);cases IQ;replace fB:=eq_true fB;replace dB:=eq_true dB;have rD:0 ≤ (Ae:Int):=Ua;have nD:Ae < (Dg.length:Int):=Ua;obtain ⟨cR,j3,tJ,NZ,Gs,ow,uw⟩:=Vu (Kd.Ue Wc.out).2.2 Ae rD nD;obtain rfl:TC=cR:=(by injection NZ);obtain ⟨L_,UI,WI,yB⟩:=Kd.QH Wc.out [] Ae rD (by first|exact nD|exact Ua|(have e_:=(Kd.Ue Wc.out).1;omega));obtain ⟨fS,rfl,Qq⟩:=WI;have Sk:=yB 0 _ rfl;rw [Nat.add_zero,show ((Kd.slice 4 Kd.bool)).sz=1 from rfl,Nat.mul_one] at Sk;replace Sk:=Option.some.inj (Sk.symm.trans Gs);rw [Sk] at Qq;have oN:=ja.mk (show Kd.R Kd.bool 4 _ _ _ _ (Rd Dg Ae) from Qq);clear Sk Qq;have GV:=ja.mk Gs;clear yB UI;have Ix:=ja.mk uw;have RV:=ja.mk ow;clear uw ow;replace rD:=eq_true rD;replace nD:=eq_true nD;have EI:0 ≤ (Ge:Int):=Ua;have BI:Ge < ((Rd Dg Ae).length:Int):=Ua;obtain ⟨vaa,MZ,Fs⟩:=Kd.jj (by repeat (first|(with_reducible exact Ix.out)|(with_reducible refine Kd.Tb ?_ _)|(with_reducible refine Kd.Sb ?_ _)|(with_reducible refine Kd.qc ?_)|exact Ix.out)) Ge EI BI;(try rw [← VH.out] at Fs);(try rw [← dN.out] at Fs);cases MZ;replace EI:=eq_true EI;replace BI:=eq_true BI;have sS:0 ≤ (Ae:Int):=Ua;have oS:Ae < (Dg.length:Int):=Ua;obtain ⟨uaa,Sam,dam,Oal,DD,tK,yK⟩:=Vu (Kd.Ue Wc.out).2.2 Ae sS oS;obtain rfl:TC=uaa:=(by injection Oal);obtain ⟨Iaq,rZ,xZ,pQ⟩:=Kd.QH Wc.out [] Ae sS (by first|exact oS|exact Ua|(have e_:=(Kd.Ue Wc.out).1;omega));obtain ⟨oac,rfl,SF⟩:=xZ;have jw:=pQ 0 _ rfl;rw [Nat.add_zero,show ((Kd.slice 4 Kd.bool)).sz=1 from rfl,Nat.mul_one] at jw;replace jw:=Option.some.inj (jw.symm.trans DD);rw [jw] at SF;have iu:=ja.mk (show Kd.R Kd.bool 4 _ _ _ _ (Rd Dg Ae) from SF);clear jw SF;have FV:=ja.mk DD;clear pQ rZ;have maj:=ja.mk yK;have raj:=ja.mk tK;clear yK tK;replace sS:=eq_true sS;replace oS:=eq_true oS;have ck:=Option.some.inj (Gs.symm.trans DD);injection ck with ck xz yz
                             subst ck;subst yz;clear xz;have p45:0 ≤ (Ge:Int):=Ua;have q45:(Ge:Int) < (((Rd Dg Ae).length:Int):Int):=Ua;obtain ⟨nV,Uas,D_,u_,tal,aat,Dab⟩:=Kd.Wl iu.out (by omega);(first|cases D_|(injection D_ with ck xz yz;(first|subst ck|(injection ck with ck;subst ck));subst yz;clear xz));have Ham:=ja.mk u_;have cau:=ja.mk Dab;clear u_ tal Dab;(first|simp only [add_plain] at Fs|skip);obtain ⟨Vaj,Yak⟩:=Kd.Ej false iu.out (Ge:Int) p45 q45;replace p45:=eq_true p45;replace q45:=eq_true q45;have gak:(Ae:Int) < (Dg.length:Int):=(by have h_:(Ae:Int) < ((Dg.length:Int):Int):=Ua;first|exact h_|(have e_:=(Kd.Ue Wc.out).1;omega)|simpa only [List.length_set,List.length_set] using h_);obtain ⟨C4,iat,V9,mal,KW,lW,MW⟩:=Kd.kR Wc.out [] (Ae:Int) (Ua) gak;obtain ⟨Baj,rfl,RF⟩:=mal;have LS:=KW 0 _ rfl;rw [Nat.add_zero,show ((Kd.slice 4 Kd.bool)).sz=1 from rfl,Nat.mul_one] at LS;replace LS:=Option.some.inj (LS.symm.trans FV.out);subst LS;clear KW V9;replace RF:=(show Kd.R Kd.bool 4 _ _ _ _ (Rd Dg Ae) from RF);have U1:=Kd.Mo RF (Ge:Int) true;go_wp2_with (first|((with_reducible refine gf (t:=4) (p:=87) rfl ?_);refine De (t:=4) (p:=87) (v:=?taj) (w1:=(wr.setCell ⟨nV,(Ge:Int).toNat,none⟩ (.bool true))) ?hg ?ho ?hn ?hr ?_;(case ho=>rfl);(case hg=>rfl);(case hn=>rfl);(case hr=>first|(go_simp;done)|(go_simp;rfl));intro V3 hw;have hg:wr.grownBy V3 (some nV):=(by rw [hw];exact U1.2);have RI:Kd.R Kd.bool 4 V3 w.heap.size C4 (.slice (some ⟨nV,0,none⟩) (Rd Dg Ae).length tJ) XX:=(by rw [hw,Faa.out];exact U1.1);have Qm:Kd.S (Kd.slice 4 Kd.bool) 60 V3 w.heap.size (fun k_=>some k_ ≠ (.slice (some dR) Ym.length Ual:Value).ownBlock) (.slice (some TC) Dg.length I_) WX:=(by rw [Eaa.out];exact MW hg (fun k_ e_=>by injection e_ with e_;subst e_;exact RF.1 _ rfl) (Kd.nX RI));have hm_:=Kd.ze RI lW;clear U1 MW;have Bb:=ja.mk (Qm);have Gb:=ja.mk (Kd.GA (v:=(.slice (some ⟨nV,0,none⟩) (Rd Dg Ae).length tJ)) (by (with_reducible repeat (first|apply Kd.zb|apply Kd.yb|apply Kd.Ib));exact Lj.out) (Kd.Ex iu.out) (by decide) hg);have Nb:=ja.mk (Kd.rR (by (with_reducible repeat (first|apply Kd.zb|apply Kd.yb|apply Kd.Ib));exact Lx.out) rfl hg ((iu.out.1 _ rfl).1));have Dc:=ja.mk (ud (g:=ya) (o:=.cells #[.slice Za Ra.length gb,.int .i64 La,.int .i64 Ja,.int .i64 Ia,.slice (some Gj) Fa.length Lb] 30 (0,0)) (by (with_reducible repeat (first|refine Aa ?_ _|refine Da ?_|refine Ba ?_ _));exact oa.out) hg (Kd.vk iu.out oa.out (by decide)));have Jf:=ja.mk ((by rw [hw];exact ua (HB.out) Ham.out:Below w.heap.size w V3));have sg:=ja.mk (hm_);have Bg:=ja.mk ((Kd.dc hm_).2.1);clear Wc Lj Lx oa HB oN iu;have Wc:=Bb;have Lj:=Gb;have Lx:=Nb;have oa:=Dc;have HB:=Jf;have har:=sg;have rar:=Bg;clear Bb Gb Nb Dc Jf sg Bg hg hw Qm RI hm_ lW));(try simp only [← Mi])
                             go_roundg k5
                             case measure=>have:=qg.out;have:=Vr.out;have:=bD.out;have:=DR.out;have:=PV.out;omega
                             case rel=>exact ⟨(WX),(true),(Ym),(wrap64 (Ge + 1)),(by first|rfl|(simp;done)|(simp [*];done)),(by first|rfl|(simp;done)|(simp [*];done)),H',⟨by have:=qg.out;have:=Vr.out;have:=bD.out;have:=DR.out;have:=PV.out;omega⟩,⟨by (try simp only [Mi]);(with_reducible repeat (first|apply Kd.Nf|apply Kd.Mf|apply Kd.pg));exact Wc.out⟩,⟨by (try simp only [Mi]);(with_reducible repeat (first|apply Kd.zb|apply Kd.yb|apply Kd.Ib));exact Lj.out⟩,⟨by (try simp only [Mi]);(with_reducible repeat (first|apply Kd.zb|apply Kd.yb|apply Kd.Ib));exact Lx.out⟩,⟨by (try simp only [Mi]);(with_reducible repeat (first|refine Aa ?_ _|refine Da ?_|refine Ba ?_ _));exact oa.out⟩,⟨by repeat (first|(with_reducible first|exact HB.out|apply qa|apply ia|apply ta|refine ua ?_ Ta.out)|exact HB.out)⟩⟩
                           ·rw [if_neg c40] at H;exact absurd H (by simp)
                          ·rw [if_neg VR] at H;exact absurd H (by simp)
                         ·rw [if_neg xO] at H;exact absurd H (by simp)
                        ·replace c37:=Bool.eq_false_iff.mpr c37;subst c37;have H1:(Ya.l4 k5 Dg gz Ae t112 lf Ym (wrap64 (Ge + 1)) Ra La Ja Ia Fa)=some r:=by rw [if_neg (show ¬ (false=true) by decide)] at H;exact H
                         clear H;have H:=H1;clear H1;have H':=ja.mk H;clear H;have nU:wr.cell? ⟨ya,0,none⟩=some (.slice Za Ra.length gb):=(ga oa.out 0).trans rfl;have mU:wr.cell? ⟨ya,1,none⟩=some (.int .i64 La):=(ga oa.out 1).trans rfl;have lU:wr.cell? ⟨ya,2,none⟩=some (.int .i64 Ja):=(ga oa.out 2).trans rfl;have kU:wr.cell? ⟨ya,3,none⟩=some (.int .i64 Ia):=(ga oa.out 3).trans rfl;have jU:wr.cell? ⟨ya,4,none⟩=some (.slice (some Gj) Fa.length Lb):=(ga oa.out 4).trans rfl;have ZS:=aa oa.out 0;have YS:=aa oa.out 1;have XS:=aa oa.out 2;have WS:=aa oa.out 3;have VS:=aa oa.out 4;obtain ⟨mau,Tas,Eal⟩:=Kd.Ud Lx.out;subst Eal;have fB:0 ≤ (Ge:Int):=Ua;have dB:Ge < (Ym.length:Int):=Ua;obtain ⟨dR,IQ,lq⟩:=Kd.jj (Kd.dc Lx.out).2.2 Ge fB dB;(try rw [← VH.out] at lq);cases IQ;replace fB:=eq_true fB;replace dB:=eq_true dB;go_wp2;(try simp only [← Mi])
                         go_roundg k5
                         case measure=>have:=qg.out;have:=Vr.out;have:=bD.out;have:=DR.out;have:=PV.out;omega
                         case rel=>exact ⟨(Dg),(gz),(Ym),(wrap64 (Ge + 1)),(by first|rfl|(simp;done)|(simp [*];done)),(by first|rfl|(simp;done)|(simp [*];done)),H',⟨by have:=qg.out;have:=Vr.out;have:=bD.out;have:=DR.out;have:=PV.out;omega⟩,⟨by (try simp only [Mi]);(with_reducible repeat (first|apply Kd.Nf|apply Kd.Mf|apply Kd.pg));exact Wc.out⟩,⟨by (try simp only [Mi]);(with_reducible repeat (first|apply Kd.zb|apply Kd.yb|apply Kd.Ib));exact Lj.out⟩,⟨by (try simp only [Mi]);(with_reducible repeat (first|apply Kd.zb|apply Kd.yb|apply Kd.Ib));exact Lx.out⟩,⟨by (try simp only [Mi]);(with_reducible repeat (first|refine Aa ?_ _|refine Da ?_|refine Ba ?_ _));exact oa.out⟩,⟨by repeat (first|(with_reducible first|exact HB.out|apply qa|apply ia|apply ta|refine ua ?_ Ta.out)|exact HB.out)⟩⟩
                       ·rw [if_neg EG] at H;exact absurd H (by simp)
                      ·rw [if_neg GH] at H;exact absurd H (by simp)
                     ·rw [if_neg yO] at H;have iaa:decide (Ge < Ia)=false:=decide_eq_false yO;clear yO;have H':=ja.mk H;clear H;have XE:wr.cell? ⟨ya,0,none⟩=some (.slice Za Ra.length gb):=(ga oa.out 0).trans rfl;have WE:wr.cell? ⟨ya,1,none⟩=some (.int .i64 La):=(ga oa.out 1).trans rfl;have VE:wr.cell? ⟨ya,2,none⟩=some (.int .i64 Ja):=(ga oa.out 2).trans rfl;have UE:wr.cell? ⟨ya,3,none⟩=some (.int .i64 Ia):=(ga oa.out 3).trans rfl;have SE:wr.cell? ⟨ya,4,none⟩=some (.slice (some Gj) Fa.length Lb):=(ga oa.out 4).trans rfl;have RD:=aa oa.out 0;have QD:=aa oa.out 1;have PD:=aa oa.out 2;have OD:=aa oa.out 3;have ND:=aa oa.out 4;go_wp2;(try simp only [← Mi])
                      go_roundg k5
                      case measure=>have:=qg.out;have:=Vr.out;have:=bD.out;have:=DR.out;have:=PV.out;omega
                      case rel=>exact ⟨(Dg),(gz),(wrap64 (lf + 1)),(by first|rfl|(simp;done)|(simp [*];done)),(by first|rfl|(simp;done)|(simp [*];done)),H',⟨by have:=qg.out;have:=Vr.out;have:=bD.out;have:=DR.out;have:=PV.out;omega⟩,⟨by (try simp only [Mi]);(with_reducible repeat (first|apply Kd.Nf|apply Kd.Mf|apply Kd.pg));exact Kd.uj Wc.out (fun _ hk=>trivial)⟩,⟨by (try simp only [Mi]);(with_reducible repeat (first|apply Kd.zb|apply Kd.yb|apply Kd.Ib));exact Lj.out⟩,⟨by (try simp only [Mi]);(with_reducible repeat (first|refine Aa ?_ _|refine Da ?_|refine Ba ?_ _));exact oa.out⟩,⟨by repeat (first|(with_reducible first|exact HB.out|apply qa|apply ia|apply ta|refine ua ?_ Ta.out)|exact HB.out)⟩⟩
                  ·rw [if_neg mI] at H;exact absurd H (by simp)
                 ·rw [if_neg JH] at H;exact absurd H (by simp)
                ·rw [if_neg RC] at H;exact absurd H (by simp)
               ·rw [if_neg jO] at H;exact absurd H (by simp)
              ·rw [if_neg eG] at H;have OM:decide (lf < (t112.length:Int))=false:=decide_eq_false eG;clear eG;have H':=ja.mk H;clear H;obtain ⟨lau,Sas,Dal⟩:=Kd.Ud Lj.out;subst Dal;go_wp2
               go_roundg k4
               case measure=>have:=qg.out;have:=Vr.out;have:=bD.out;have:=DR.out;omega
               case rel=>exact ⟨(av),(tN),(wrap64 (Ae - 1)),(by first|rfl|(simp;done)|(simp [*];done)),(by first|rfl|(simp;done)|(simp [*];done)),H',⟨by have:=qg.out;have:=Vr.out;have:=bD.out;have:=DR.out;omega⟩,⟨by (with_reducible repeat (first|apply Kd.Nf|apply Kd.Mf|apply Kd.pg));exact Wc.out⟩,⟨by (with_reducible repeat (first|refine Aa ?_ _|refine Da ?_|refine Ba ?_ _));exact oa.out⟩,⟨by repeat (first|(with_reducible first|exact HB.out|apply qa|apply ia|apply ta|refine ua ?_ Ta.out)|exact HB.out)⟩⟩
           ·rw [if_neg Xm] at H;exact absurd H (by simp)
          ·rw [if_neg Zp] at H;exact absurd H (by simp)
         ·rw [if_neg Qp] at H;have en:decide (0 ≤ Ae)=false:=decide_eq_false Qp;clear Qp;have H':=ja.mk H;clear H;go_wp2
          go_roundg k3
          case measure=>have:=qg.out;have:=Vr.out;have:=bD.out;omega
          case rel=>exact ⟨(uN),(Ie),(by first|rfl|(simp;done)|(simp [*];done)),H',⟨by have:=qg.out;have:=Vr.out;have:=bD.out;omega⟩,⟨by (with_reducible repeat (first|apply Kd.Nf|apply Kd.Mf|apply Kd.pg));exact Wc.out⟩,⟨by (with_reducible repeat (first|refine Aa ?_ _|refine Da ?_|refine Ba ?_ _));exact oa.out⟩,⟨by repeat (first|(with_reducible first|exact HB.out|apply qa|apply ia|apply ta|refine ua ?_ Ta.out)|exact HB.out)⟩⟩
      ·replace CA:=Bool.eq_false_iff.mpr CA;subst CA;have H1:(some Sx)=some r:=by rw [if_neg (show ¬ (false=true) by decide)] at H;exact H
       clear H;have H:=H1;clear H1;obtain rfl:=Option.some.inj H;go_wp2;go_ret;exact ⟨_,by first|rfl|(simp [Na,Ma] <;> rfl)|(simp [*,Na,Ma] <;> rfl),by (with_reducible repeat (first|apply Kd.Nf|apply Kd.Mf|apply Kd.pg));exact Wc.out,by repeat (first|(with_reducible first|exact HB.out|apply qa|apply ia|apply ta|refine ua ?_ Ta.out)|exact HB.out)⟩
mutual
def Ub.j0:Nat→Int→List Int→Bool→List Int→Int→Int→Int→List (We)→Option (List Int)
 | 0,_,_,_,_,_,_,_,_=>none
 | k + 1,x1,x5,x20,jc,Ec,tc,oc,Rb=>if x20=true then (some x5) else (if 0 ≤ x1 then (if x1 < (Rb.length:Int) then ((Ya.f k jc Ec tc oc Rb).bind fun t108=>(if x1 < (t108.length:Int) then ((xe.f k ((Oa Rb x1).f0) ((Oa Rb x1).f1) ((Oa Rb x1).f2) ((Oa Rb x1).f3) ((Oa Rb x1).f4) (Rd t108 x1)).bind fun t112=>(Ub.l0 k x5 t112 0 jc Ec tc oc Rb)) else (none))) else (none)) else (none))
def Ub.l0:Nat→List Int→List Bool→Int→List Int→Int→Int→Int→List (We)→Option (List Int)
 | 0,_,_,_,_,_,_,_,_=>none
 | k + 1,x5,x6,x7,jc,Ec,tc,oc,Rb=>if x7 < oc then (if 0 ≤ x7 then (if x7 < (x6.length:Int) then (if Rf false x6 x7=true then (if x5.length < 17592186044416 then (Ub.l0 k (x5 ++ [x7]) x6 (wrap64 (x7 + 1)) jc Ec tc oc Rb) else (none)) else (Ub.l0 k x5 x6 (wrap64 (x7 + 1)) jc Ec tc oc Rb)) else (none)) else (none)) else (some x5)
end
def Ub.f (k:Nat) (Ra:List Int) (La:Int) (Ja:Int) (Ia:Int) (Fa:List (We)) (a1:Int):Option (List Int):=(some (([]:List Int):List Int)).bind fun Uc=>((Wa.f k Ra La Ja Ia Fa).bind fun t105=>(if t105=true then ((Xa.f a1 0 (wrap64 ((Fa.length:Int) - 1))).bind fun t106=>(Ub.j0 k a1 Uc (!t106) Ra La Ja Ia Fa)) else (Ub.j0 k a1 Uc true Ra La Ja Ia Fa)))
def Ub.T4:Bool × List (List Nat × List Nat):=(true,[([],[]),([0],[0]),([],[]),([1,2],[1,2]),([3],[3]),([],[]),([5],[5]),([],[]),([6,7],[6,7]),([8],[8]),([4,9,6],[4,9]),([10,10,0,1,2,3,4,5,6,7,8,9,10],[10])])
def Ub.B4:List Nat:=[0,1,0,7,15,0,32,0,224,480,1023,2047]
theorem Ub.iS:Lm .any (opsOf Try.f15 4)=Ub.T4:=by kernel_rfl
theorem Ub.SM:rm Ub.T4.2 Ub.B4=true:=by kernel_rfl
theorem swap_ {P:Program} {md:Region.Mode} {ops:Array Oper} {Q:Exit→Act→World→Prop} {S S2:World→Prop} (hS:∀ w,S2 w→S w):∀ {fuel:Nat} {l:Array Bool} {a:Act} {w:World},S2 w→Sd P md ops Q S2 [] fuel l a w→Sd P md ops Q S [] fuel l a w
 | 0,_,_,_,_,h=>h
 | _ + 1,_,_,_,h2,h=>⟨h.1,fun i hi=>wpOp_mono (fun _ _ h'=>⟨fun _ _=>hS _ (h'.1 (by simp) h2),swap_ hS (h'.1 (by simp) h2) h'.2⟩) (h.2 i hi)⟩
theorem Ub.calls (k:Nat) (Za:Option Addr) (gb:Nat) (Ra:List Int) (La:Int) (Ja:Int) (Ia:Int) (Vb:Option Addr) (Lb:Nat) (Fa:List (We)) (a1:Int) (r:List Int) (w:World) (Zd:Kd.C (Kd.int .i64) w Za Ra.length Ra) (Xd:Ra.length ≤ gb) (Tf:Kd.C Kp w Vb Fa.length Fa) (Kf:Fa.length ≤ Lb) (h:Ub.f k Ra La Ja Ia Fa a1=some r) :
  Calls Try.prog 15 #[.agg #[.slice Za Ra.length gb,.int .i64 La,.int .i64 Ja,.int .i64 Ia,.slice Vb Fa.length Lb],.int .i64 a1] w fun e w'=>∃ Km:Value,e = .returned (Km)∧Kd.R (Kd.int .i64) 3 w' w.heap.size (fun _=>True) Km r∧Below w.heap.size w w':=by
 have vC:=Try.underlying30;have gy:=Try.underlying59;have He:=ja.mk Zd;have Me:=ja.mk Xd;clear Zd Xd;have Uf:=ja.mk Tf;have Ug:=ja.mk Kf;clear Tf Kf;have HB:=ja.mk (Below.refl w.heap.size w);have H:((some (([]:List Int):List Int)).bind fun Uc=>((Wa.f k Ra La Ja Ia Fa).bind fun t105=>(if t105=true then ((Xa.f a1 0 (wrap64 ((Fa.length:Int) - 1))).bind fun t106=>(Ub.j0 k a1 Uc (!t106) Ra La Ja Ia Fa)) else (Ub.j0 k a1 Uc true Ra La Ja Ia Fa))))=some r:=h;clear h;obtain ⟨Uc,Re⟩:∃ y_:List Int,y_=(([]:List Int)):=⟨_,rfl⟩;replace H:((Wa.f k Ra La Ja Ia Fa).bind fun t105=>(if t105=true then ((Xa.f a1 0 (wrap64 ((Fa.length:Int) - 1))).bind fun t106=>(Ub.j0 k a1 Uc (!t106) Ra La Ja Ia Fa)) else (Ub.j0 k a1 Uc true Ra La Ja Ia Fa)))=some r:=by first|(rw [Re];with_reducible exact H)|(have Gd:=(Option.bind_some _ _).symm.trans H;rw [Re];with_reducible exact Gd)|(have Gd:=(Option.bind_some _ _).symm.trans H;with_reducible exact Gd)|with_reducible exact H|(rw [Re];exact H)|exact H
 have yh:=ja.mk Re;clear Re;have qO:=ja.mk H;clear H;go_enter Try.func15,Try.ntmps15
 go_upto_region 2 with (first|((with_reducible refine xb (N:=2) rfl ?_);(try (refine ug (by rfl) ?_;dsimp only));refine Fb ?hg (N:=2) ?hd (cs:=#[.slice Za Ra.length gb,.int .i64 La,.int .i64 Ja,.int .i64 Ia,.slice Vb Fa.length Lb]) (t:=30) ?hr ?_;(case hd=>rfl);(case hg=>rfl);(case hr=>first|(go_simp;done)|(go_simp;rfl));intro ya hg w4 Pb hb;have Bb:=ja.mk (Qa (by repeat (first|(with_reducible first|exact HB.out|apply qa|apply ia|apply ta)|exact HB.out)) hb);have Gb:=ja.mk (Pb);have Nb:=ja.mk ((by rw [hg];exact (Ka (by repeat (first|(with_reducible first|exact HB.out|apply qa|apply ia|apply ta)|exact HB.out))):w.heap.size ≤ ya));have Dc:=ja.mk ((by rw [hg];exact (Ka (by repeat (first|(with_reducible first|exact HB.out|apply qa|apply ia|apply ta)|exact HB.out))):w.heap.size ≤ ya));clear HB;have HB:=Bb;have oa:=Gb;have Ad:=Nb;have Ta:=Dc;clear Bb Gb Nb Dc hb Pb hg)|((with_reducible refine xb (N:=8) rfl ?_);(try (refine ug (by rfl) ?_;dsimp only));refine Kd.ni (Kd.int .i64) _ 3 ?hg (N:=8) ?hd (xs:=([]:List Int)) (inner:=[]) (ok:=fun _=>True) (Lh:=fun _=>True) ?hr ?hp (fun _ hk=>hk) trivial (Below.refl _ _) (Nat.le_refl _) (by simp) ?_;(case hd=>rfl);(case hg=>rfl);(case hr=>first|(go_simp;done)|(go_simp;rfl));(case hp=>exact (td.none _ _));intro Jm w5 uB hb om Le;clear om Le;(first|rw [← yh.out] at uB|(simp only [Int.reduceToNat] at uB;rw [← yh.out] at uB));have Bb:=ja.mk (Kd.Dd uB (Ka (by repeat (first|(with_reducible first|exact HB.out|apply qa|apply ia|apply ta|refine ua ?_ Ta.out)|exact HB.out))));have Gb:=ja.mk (Va (g:=ya) (o:=.cells #[.slice Za Ra.length gb,.int .i64 La,.int .i64 Ja,.int .i64 Ia,.slice Vb Fa.length Lb] 30 (0,0)) (by (with_reducible repeat (first|refine Aa ?_ _|refine Da ?_|refine Ba ?_ _));exact oa.out) hb);have Nb:=ja.mk (Qa (by repeat (first|(with_reducible first|exact HB.out|apply qa|apply ia|apply ta|refine ua ?_ Ta.out)|exact HB.out)) hb);clear oa HB;have lg:=Bb;have oa:=Gb;have HB:=Nb;clear Bb Gb Nb hb uB))
 (try simp only [Act.put,List.setIfInBounds_toArray,List.set_cons_zero,List.set_cons_succ])
 go_cut [20] (fun v20 wc=>∃ (kq:Nat) (RJ:Bool),v20 = .bool RJ∧ja (Ub.j0 kq a1 Uc RJ Ra La Ja Ia Fa=some r)∧ja (kq ≤ k)∧ja (Kd.R (Kd.int .i64) 3 wc w.heap.size (fun _=>True) Jm Uc)∧ja (wc.heap[ya]? = some (.cells #[(.slice Za Ra.length gb),.int .i64 La,.int .i64 Ja,.int .i64 Ia,(.slice Vb Fa.length Lb)] 30 (0,0)))∧ja (Below w.heap.size w wc))
 case first =>
  have H:=qO.out;clear qO;replace H:=Option.bind_eq_some_iff.mp H;obtain ⟨t105,uG,H⟩:=H;replace H:(if t105=true then ((Xa.f a1 0 (wrap64 ((Fa.length:Int) - 1))).bind fun t106=>(Ub.j0 k a1 Uc (!t106) Ra La Ja Ia Fa)) else (Ub.j0 k a1 Uc true Ra La Ja Ia Fa))=some r:=H;have A7:=ja.mk uG;clear uG
  by_cases c8:t105=true
  ·subst c8;have H1:((Xa.f a1 0 (wrap64 ((Fa.length:Int) - 1))).bind fun t106=>(Ub.j0 k a1 Uc (!t106) Ra La Ja Ia Fa))=some r:=by rw [if_pos rfl] at H;exact H
   clear H;have H:=H1;clear H1;replace H:=Option.bind_eq_some_iff.mp H;obtain ⟨t106,A90,H⟩:=H;replace H:(Ub.j0 k a1 Uc (!t106) Ra La Ja Ia Fa)=some r:=H;have A9:=ja.mk A90;clear A90;have H':=ja.mk H;clear H;have uh:w5.cell? ⟨ya,0,none⟩=some (.slice Za Ra.length gb):=(ga oa.out 0).trans rfl;have th:w5.cell? ⟨ya,1,none⟩=some (.int .i64 La):=(ga oa.out 1).trans rfl;have qh:w5.cell? ⟨ya,2,none⟩=some (.int .i64 Ja):=(ga oa.out 2).trans rfl;have oh:w5.cell? ⟨ya,3,none⟩=some (.int .i64 Ia):=(ga oa.out 3).trans rfl;have nh:w5.cell? ⟨ya,4,none⟩=some (.slice Vb Fa.length Lb):=(ga oa.out 4).trans rfl;have mh:=aa oa.out 0;have jh:=aa oa.out 1;have gh:=aa oa.out 2;have fh:=aa oa.out 3;have dh:=aa oa.out 4;go_wp2_with (first|((with_reducible refine qb (f:=40) rfl ?_);refine Mc (some 10) rfl rfl Try.func40 (by kernel_rfl) rfl #[.agg #[.slice Za Ra.length gb,.int .i64 La,.int .i64 Ja,.int .i64 Ia,.slice Vb Fa.length Lb]] rfl (by (try simp only [List.map_toArray,List.map_cons,List.map_nil]);first|done|rfl|(simp only [List.length_drop,List.length_take];rfl)) ?_;(with_reducible refine (Wa.calls k _ _ Ra La Ja Ia _ _ Fa true _ ?Jc ?Ic ?Qd ?Pd A7.out).mono ?_);(case Jc=>repeat (first|exact (Kd.Mb He.out HB.out)|(with_reducible refine Kd.Tb ?_ _)|(with_reducible refine Kd.Sb ?_ _)|(with_reducible refine Kd.qc ?_)));(case Ic=>exact Me.out);(case Qd=>repeat (first|exact (Kd.Mb Uf.out HB.out)|(with_reducible refine Kd.Tb ?_ _)|(with_reducible refine Kd.Sb ?_ _)|(with_reducible refine Kd.qc ?_)));(case Pd=>exact Ug.out);rintro e Fi ⟨rfl,hb⟩;refine ⟨_,rfl,?_⟩;have Bb:=ja.mk (Kd.yd (by (with_reducible repeat (first|apply Kd.zb|apply Kd.yb|apply Kd.Ib));exact lg.out) hb);have Gb:=ja.mk (Va (g:=ya) (o:=.cells #[.slice Za Ra.length gb,.int .i64 La,.int .i64 Ja,.int .i64 Ia,.slice Vb Fa.length Lb] 30 (0,0)) (by (with_reducible repeat (first|refine Aa ?_ _|refine Da ?_|refine Ba ?_ _));exact oa.out) hb);have Nb:=ja.mk (Qa (by repeat (first|(with_reducible first|exact HB.out|apply qa|apply ia|apply ta|refine ua ?_ Ta.out)|exact HB.out)) hb);clear lg oa HB;have lg:=Bb;have oa:=Gb;have HB:=Nb;clear Bb Gb Nb;(try clear hb);(try clear si);(try clear hk);(try clear hi);have Sl:Fi.cell? ⟨ya,0,none⟩=some (.slice Za Ra.length gb):=(ga oa.out 0).trans rfl;have Rl:Fi.cell? ⟨ya,1,none⟩=some (.int .i64 La):=(ga oa.out 1).trans rfl;have Ql:Fi.cell? ⟨ya,2,none⟩=some (.int .i64 Ja):=(ga oa.out 2).trans rfl;have Ol:Fi.cell? ⟨ya,3,none⟩=some (.int .i64 Ia):=(ga oa.out 3).trans rfl;have Nl:Fi.cell? ⟨ya,4,none⟩=some (.slice Vb Fa.length Lb):=(ga oa.out 4).trans rfl;have Cl:=aa oa.out 0;have Bl:=aa oa.out 1;have Al:=aa oa.out 2;have zl:=aa oa.out 3;have vl:=aa oa.out 4)|(go_at_call 53;(with_reducible refine (Xa.calls a1 0 (wrap64 ((Fa.length:Int) - 1)) t106 _ A9.out).mono ?_);rintro e w' ⟨rfl,⟨nd,rfl⟩⟩))
   go_meet
   case rel=>exact ⟨_,(!t106),(by first|rfl|(simp;done)|(simp [*];done)),H',⟨by first|omega|exact Nat.le_refl _⟩,⟨by (with_reducible repeat (first|apply Kd.zb|apply Kd.yb|apply Kd.Ib));exact lg.out⟩,⟨by (with_reducible repeat (first|refine Aa ?_ _|refine Da ?_|refine Ba ?_ _));exact oa.out⟩,⟨by repeat (first|(with_reducible first|exact HB.out|apply qa|apply ia|apply ta|refine ua ?_ Ta.out)|exact HB.out)⟩⟩
  ·replace c8:=Bool.eq_false_iff.mpr c8;subst c8;have H1:(Ub.j0 k a1 Uc true Ra La Ja Ia Fa)=some r:=by rw [if_neg (show ¬ (false=true) by decide)] at H;exact H
   clear H;have H:=H1;clear H1;have H':=ja.mk H;clear H;have Ml:w5.cell? ⟨ya,0,none⟩=some (.slice Za Ra.length gb):=(ga oa.out 0).trans rfl;have Ll:w5.cell? ⟨ya,1,none⟩=some (.int .i64 La):=(ga oa.out 1).trans rfl;have Kl:w5.cell? ⟨ya,2,none⟩=some (.int .i64 Ja):=(ga oa.out 2).trans rfl;have Jl:w5.cell? ⟨ya,3,none⟩=some (.int .i64 Ia):=(ga oa.out 3).trans rfl;have Il:w5.cell? ⟨ya,4,none⟩=some (.slice Vb Fa.length Lb):=(ga oa.out 4).trans rfl;have ql:=aa oa.out 0;have jl:=aa oa.out 1;have gl:=aa oa.out 2;have fl:=aa oa.out 3;have cl:=aa oa.out 4;go_wp2_with (first|((with_reducible refine qb (f:=40) rfl ?_);refine Mc (some 10) rfl rfl Try.func40 (by kernel_rfl) rfl #[.agg #[.slice Za Ra.length gb,.int .i64 La,.int .i64 Ja,.int .i64 Ia,.slice Vb Fa.length Lb]] rfl (by (try simp only [List.map_toArray,List.map_cons,List.map_nil]);first|done|rfl|(simp only [List.length_drop,List.length_take];rfl)) ?_;(with_reducible refine (Wa.calls k _ _ Ra La Ja Ia _ _ Fa false _ ?Jc ?Ic ?Qd ?Pd A7.out).mono ?_);(case Jc=>repeat (first|exact (Kd.Mb He.out HB.out)|(with_reducible refine Kd.Tb ?_ _)|(with_reducible refine Kd.Sb ?_ _)|(with_reducible refine Kd.qc ?_)));(case Ic=>exact Me.out);(case Qd=>repeat (first|exact (Kd.Mb Uf.out HB.out)|(with_reducible refine Kd.Tb ?_ _)|(with_reducible refine Kd.Sb ?_ _)|(with_reducible refine Kd.qc ?_)));(case Pd=>exact Ug.out);rintro e Tx ⟨rfl,hb⟩;refine ⟨_,rfl,?_⟩;have Bb:=ja.mk (Kd.yd (by (with_reducible repeat (first|apply Kd.zb|apply Kd.yb|apply Kd.Ib));exact lg.out) hb);have Gb:=ja.mk (Va (g:=ya) (o:=.cells #[.slice Za Ra.length gb,.int .i64 La,.int .i64 Ja,.int .i64 Ia,.slice Vb Fa.length Lb] 30 (0,0)) (by (with_reducible repeat (first|refine Aa ?_ _|refine Da ?_|refine Ba ?_ _));exact oa.out) hb);have Nb:=ja.mk (Qa (by repeat (first|(with_reducible first|exact HB.out|apply qa|apply ia|apply ta|refine ua ?_ Ta.out)|exact HB.out)) hb);clear lg oa HB;have lg:=Bb;have oa:=Gb;have HB:=Nb;clear Bb Gb Nb;(try clear hb);(try clear si);(try clear hk);(try clear hi)))
   go_meet
   case rel=>exact ⟨_,(true),(by first|rfl|(simp;done)|(simp [*];done)),H',⟨by first|omega|exact Nat.le_refl _⟩,⟨by (with_reducible repeat (first|apply Kd.zb|apply Kd.yb|apply Kd.Ib));exact lg.out⟩,⟨by (with_reducible repeat (first|refine Aa ?_ _|refine Da ?_|refine Ba ?_ _));exact oa.out⟩,⟨by repeat (first|(with_reducible first|exact HB.out|apply qa|apply ia|apply ta|refine ua ?_ Ta.out)|exact HB.out)⟩⟩
 case rest =>
  clear qO
  try clear c1
  try clear p2
  try clear c4
  try clear p6
  try clear c8
  try clear uh
  try clear th
  try clear qh
  try clear oh
  try clear nh
  try clear Sl
  try clear Rl
  try clear Ql
  try clear Ol
  try clear Nl
  try clear Ml
  try clear Ll
  try clear Kl
  try clear Jl
  try clear Il
  try clear mh
  try clear jh
  try clear gh
  try clear fh
  try clear dh
  try clear Cl
  try clear Bl
  try clear Al
  try clear zl
  try clear vl
  try clear ql
  try clear jl
  try clear gl
  try clear fl
  try clear cl
  obtain ⟨kq,RJ,rfl,HA,HJ2,xk,oa,HB⟩:=hcut;cases kq with
  | zero=>exact absurd HA.out (by simp [Ub.j0])
  | succ BG =>
   have H:=HA.out;clear HA;simp only [Ub.j0] at H
   by_cases CA:RJ=true
   ·subst CA;have H1:(some Uc)=some r:=by rw [if_pos rfl] at H;exact H
    clear H;have H:=H1;clear H1;obtain rfl:=Option.some.inj H;go_wp2;go_ret;exact ⟨_,by first|rfl|(simp [Na,Ma] <;> rfl)|(simp [*,Na,Ma] <;> rfl),by (with_reducible repeat (first|apply Kd.zb|apply Kd.yb|apply Kd.Ib));exact xk.out,by repeat (first|(with_reducible first|exact HB.out|apply qa|apply ia|apply ta|refine ua ?_ Ta.out)|exact HB.out)⟩
   ·replace CA:=Bool.eq_false_iff.mpr CA;subst CA;have H1:(if 0 ≤ a1 then (if a1 < (Fa.length:Int) then ((Ya.f BG Ra La Ja Ia Fa).bind fun t108=>(if a1 < (t108.length:Int) then ((xe.f BG ((Oa Fa a1).f0) ((Oa Fa a1).f1) ((Oa Fa a1).f2) ((Oa Fa a1).f3) ((Oa Fa a1).f4) (Rd t108 a1)).bind fun t112=>(Ub.l0 BG Uc t112 0 Ra La Ja Ia Fa)) else (none))) else (none)) else (none))=some r:=by rw [if_neg (show ¬ (false=true) by decide)] at H;exact H
    clear H;have H:=H1;clear H1
    by_cases LH:0 ≤ a1
    ·rw [if_pos LH] at H;have paa:decide (0 ≤ a1)=true:=decide_eq_true LH;clear LH
     by_cases Qp:a1 < (Fa.length:Int)
     ·rw [if_pos Qp] at H;have en:decide (a1 < (Fa.length:Int))=true:=decide_eq_true Qp;clear Qp;replace H:=Option.bind_eq_some_iff.mp H;obtain ⟨t108,LR,H⟩:=H;replace H:(if a1 < (t108.length:Int) then ((xe.f BG ((Oa Fa a1).f0) ((Oa Fa a1).f1) ((Oa Fa a1).f2) ((Oa Fa a1).f3) ((Oa Fa a1).f4) (Rd t108 a1)).bind fun t112=>(Ub.l0 BG Uc t112 0 Ra La Ja Ia Fa)) else (none))=some r:=H;have AO:=ja.mk LR;clear LR
      by_cases Xm:a1 < (t108.length:Int)
      ·rw [if_pos Xm] at H;have er:decide (a1 < (t108.length:Int))=true:=decide_eq_true Xm;clear Xm;replace H:=Option.bind_eq_some_iff.mp H;obtain ⟨t112,dI,H⟩:=H;replace H:(Ub.l0 BG Uc t112 0 Ra La Ja Ia Fa)=some r:=H;have sN:=ja.mk dI;clear dI;have H':=ja.mk H;clear H
       try go_wp2
       have Bb:=ja.mk (Kd.Ib xk.out);have Gb:=ja.mk (Da oa.out);have Nb:=ja.mk (ta HB.out);clear xk oa HB;have xk:=Bb;have oa:=Gb;have HB:=Nb;clear Bb Gb Nb;have uz:0 ≤ (a1:Int):=Ua;have qz:a1 < (Fa.length:Int):=Ua;obtain ⟨Sg,OJ,xJ,KQ,oq,Lv,Kv,Jv,Iv,wK,BK⟩:=Bi Uf.out a1 uz qz;have FD:=Iv;have GD:=Jv;have ID:=Kv;have JD:=Lv;have KD:=oq;cases KQ
       try replace oq:=Pa HB.out oq
       try replace Lv:=Pa HB.out Lv
       try replace Kv:=Pa HB.out Kv
       try replace Jv:=Pa HB.out Jv
       try replace Iv:=Pa HB.out Iv
       have kN:=ja.mk BK;have VV:=ja.mk wK;clear BK wK;replace uz:=eq_true uz;replace qz:=eq_true qz;refine mm (n:=12) (S:=fun w'=>w'.cell? ⟨ya,0,none⟩=some (.slice Za Ra.length gb)∧w'.cell? ⟨ya,1,none⟩=some (.int .i64 La)∧w'.cell? ⟨ya,2,none⟩=some (.int .i64 Ja)∧w'.cell? ⟨ya,3,none⟩=some (.int .i64 Ia)∧w'.cell? ⟨ya,4,none⟩=some (.slice (some Sg) Fa.length Lb)∧w'.cell? (Sg.add ((a1).toNat * 5))=some (.slice OJ ((Oa Fa a1).f0).length xJ)∧w'.cell? ⟨(Sg.add ((a1).toNat * 5)).block,(Sg.add ((a1).toNat * 5)).off + 1,none⟩=some (.int .i64 ((Oa Fa a1).f1))∧w'.cell? ⟨(Sg.add ((a1).toNat * 5)).block,(Sg.add ((a1).toNat * 5)).off + 2,none⟩=some (.int .i64 ((Oa Fa a1).f2))∧w'.cell? ⟨(Sg.add ((a1).toNat * 5)).block,(Sg.add ((a1).toNat * 5)).off + 3,none⟩=some (.int .i64 ((Oa Fa a1).f3))∧w'.cell? ⟨(Sg.add ((a1).toNat * 5)).block,(Sg.add ((a1).toNat * 5)).off + 4,none⟩=some (.int .i64 ((Oa Fa a1).f4))∧True) (ds:=[]) #[false,false,false,false,false,false,false,false,false,false,false,false] (by kernel_rfl) rfl rfl ⟨(ga oa.out 0).trans rfl,(ga oa.out 1).trans rfl,(ga oa.out 2).trans rfl,(ga oa.out 3).trans rfl,(ga oa.out 4).trans rfl,(Pa HB.out KD),(Pa HB.out JD),(Pa HB.out ID),(Pa HB.out GD),(Pa HB.out FD),trivial⟩ (fun hHeld=>?_);refine Dh Ub.iS Ub.SM (fun Bf Xq=>?_);generalize wc.drew=cr at xk oa HB kN oq Lv Kv Jv Iv hHeld ⊢;refine Zc (i:=0) (N:=some 22) (v:=?_) (a':=?_) #[true,false,false,false,false,false,false,false,false,false,false,false] rfl rfl (Oc Bf.out (by kernel_rfl)) (fun _ _ _ h=>h) (Or.inl ⟨by rfl,?_⟩) ?_ ?_;rotate_left
       ·intro w';go_simp;with_reducible rfl
       rotate_left
       ·simp only [Act.put,List.setIfInBounds_toArray,List.set_cons_zero,List.set_cons_succ,Yb,Zb]
        rfl
       refine Zc (i:=2) (N:=some 24) (v:=?_) (a':=?_) #[true,false,true,false,false,false,false,false,false,false,false,false] rfl rfl (Oc Bf.out (by kernel_rfl)) (fun _ _ _ h=>h) (Or.inl ⟨by rfl,?_⟩) ?_ ?_;rotate_left
       ·intro w';go_simp;with_reducible rfl
       rotate_left
       ·simp only [Act.put,List.setIfInBounds_toArray,List.set_cons_zero,List.set_cons_succ,Yb,Zb]
        rfl
       refine Zc (i:=7) (N:=some 29) (v:=?_) (a':=?_) #[true,false,true,false,false,false,false,true,false,false,false,false] rfl rfl (Oc Bf.out (by kernel_rfl)) (fun _ _ _ h=>h) (Or.inl ⟨by rfl,?_⟩) ?_ ?_;rotate_left
       ·intro w';go_simp;with_reducible rfl
       rotate_left
       ·simp only [Act.put,List.setIfInBounds_toArray,List.set_cons_zero,List.set_cons_succ,Yb,Zb]
        rfl
       refine yg (i:=1) (N:=some 23) (v:=?_) (a':=?_) #[true,true,true,false,false,false,false,true,false,false,false,false] rfl rfl (Ce Bf.out Xq.out (by kernel_rfl)) (fun _ _ _ h=>h) (Or.inl ⟨by rfl,?_⟩) hHeld ?_ ?_;rotate_left
       ·rintro w' ⟨s0,s1,s2,s3,s4,s5,s6,s7,s8,s9,AG⟩;go_simp;with_reducible rfl
       rotate_left
       ·simp only [Act.put,List.setIfInBounds_toArray,List.set_cons_zero,List.set_cons_succ,Yb,Zb]
        rfl
       refine Zc (i:=3) (N:=some 25) (v:=?_) (a':=?_) #[true,true,true,true,false,false,false,true,false,false,false,false] rfl rfl (Oc Bf.out (by kernel_rfl)) (fun _ _ _ h=>h) (Or.inl ⟨by rfl,?_⟩) ?_ ?_;rotate_left
       ·intro w';go_simp;with_reducible rfl
       rotate_left
       ·simp only [Act.put,List.setIfInBounds_toArray,List.set_cons_zero,List.set_cons_succ,Yb,Zb]
        rfl
       refine yg (i:=4) (N:=some 26) (v:=?_) (a':=?_) #[true,true,true,true,true,false,false,true,false,false,false,false] rfl rfl (Ce Bf.out Xq.out (by kernel_rfl)) (fun _ _ _ h=>h) (Or.inl ⟨by rfl,?_⟩) hHeld ?_ ?_;rotate_left
       ·rintro w' ⟨s0,s1,s2,s3,s4,s5,s6,s7,s8,s9,AG⟩;go_simp;with_reducible rfl
       rotate_left
       ·simp only [Act.put,List.setIfInBounds_toArray,List.set_cons_zero,List.set_cons_succ,Yb,Zb]
        rfl
       refine yg (i:=5) (N:=some 27) (v:=?_) (a':=?_) #[true,true,true,true,true,true,false,true,false,false,false,false] rfl rfl (Ce Bf.out Xq.out (by kernel_rfl)) (fun _ _ _ h=>h) (Or.inl ⟨by rfl,?_⟩) hHeld ?_ ?_;rotate_left
       ·rintro w' ⟨s0,s1,s2,s3,s4,s5,s6,s7,s8,s9,AG⟩;go_simp;with_reducible rfl
       rotate_left
       ·simp only [Act.put,List.setIfInBounds_toArray,List.set_cons_zero,List.set_cons_succ,Yb,Zb]
        rfl
       refine ku (i:=6) (N:=some 28) #[true,true,true,true,true,true,true,true,false,false,false,false] rfl rfl (vo Bf.out (by kernel_rfl)) (by decide) (fun K hK=>?_);refine dn Try.func41 (by kernel_rfl) rfl #[.agg #[.slice Za Ra.length gb,.int .i64 La,.int .i64 Ja,.int .i64 Ia,.slice (some Sg) Fa.length Lb]] (by rfl) rfl rfl (by (try simp only [List.map_toArray,List.map_cons,List.map_nil]);first|done|rfl|(simp only [List.length_drop,List.length_take];rfl)) ?_;with_reducible refine (Ya.calls BG _ _ Ra La Ja Ia _ _ Fa t108 _ ?Jc ?Ic ?Qd ?Pd AO.out).mono ?_
       (case Jc=>repeat (first|exact (Kd.Mb He.out HB.out)|(with_reducible refine Kd.Tb ?_ _)|(with_reducible refine Kd.Sb ?_ _)|(with_reducible refine Kd.qc ?_)))
       (case Ic=>exact Me.out)
       (case Qd=>repeat (first|exact (Kd.Mb Uf.out HB.out)|(with_reducible refine Kd.Tb ?_ _)|(with_reducible refine Kd.Sb ?_ _)|(with_reducible refine Kd.qc ?_)))
       (case Pd=>exact Ug.out)
       rintro e fC ⟨RA,rfl,ri,hb⟩;have vR:True:=trivial;refine ⟨_,rfl,?_⟩;have Bb:=ja.mk (Kd.yd (by (with_reducible repeat (first|apply Kd.zb|apply Kd.yb|apply Kd.Ib));exact xk.out) hb);have Gb:=ja.mk (Kd.fu ri (Ka (by repeat (first|(with_reducible first|exact HB.out|apply qa|apply ia|apply ta|refine ua ?_ Ta.out)|exact HB.out))));have Nb:=ja.mk (Va (g:=ya) (o:=.cells #[.slice Za Ra.length gb,.int .i64 La,.int .i64 Ja,.int .i64 Ia,.slice (some Sg) Fa.length Lb] 30 (0,0)) (by (with_reducible repeat (first|refine Aa ?_ _|refine Da ?_|refine Ba ?_ _));exact oa.out) hb);have Dc:=ja.mk (Qa (by repeat (first|(with_reducible first|exact HB.out|apply qa|apply ia|apply ta|refine ua ?_ Ta.out)|exact HB.out)) hb);clear xk oa HB;have xk:=Bb;have wg:=Gb;have oa:=Nb;have HB:=Dc;clear Bb Gb Nb Dc;(try clear hb);(try clear si);(try clear hk);(try clear hi);(try clear ri);obtain ⟨Nam,pV,mJ⟩:=Kd.fo wg.out;(first|subst mJ|(injection mJ with BQ GZ AQ;have FZ:=BQ.symm;have EZ:=AQ.symm;clear BQ GZ AQ;subst FZ;subst EZ));have gB:0 ≤ (a1:Int):=Ua;have eB:a1 < (t108.length:Int):=Ua;obtain ⟨Gj,vG,fG,OZ,Xo,qw,vw⟩:=Vu (Kd.Ue wg.out).2.2 a1 gB eB;cases OZ;obtain ⟨Kaq,tZ,zZ,rQ⟩:=Kd.QH wg.out [] a1 gB (by first|exact eB|exact Ua|(have e_:=(Kd.Ue wg.out).1;omega));obtain ⟨qac,rfl,VF⟩:=zZ;have nw:=rQ 0 _ rfl;rw [Nat.add_zero,show ((Kd.slice 4 Kd.bool)).sz=1 from rfl,Nat.mul_one] at nw;replace nw:=Option.some.inj (nw.symm.trans Xo);rw [nw] at VF;have KA:=ja.mk (show Kd.R Kd.bool 4 _ _ _ _ (Rd t108 a1) from VF);clear nw VF rQ tZ;have Ap:=ja.mk vw;have pG:=ja.mk qw;clear vw qw;replace gB:=eq_true gB;replace eB:=eq_true eB;refine hK.out _ _ ⟨(ga oa.out 0).trans rfl,(ga oa.out 1).trans rfl,(ga oa.out 2).trans rfl,(ga oa.out 3).trans rfl,(ga oa.out 4).trans rfl,(Pa HB.out KD),(Pa HB.out JD),(Pa HB.out ID),(Pa HB.out GD),(Pa HB.out FD),vR⟩ (fun hHeld=>?_);clear hK K;have vQ:=(⟨hHeld.1,hHeld.2.1,hHeld.2.2.1,hHeld.2.2.2.1,hHeld.2.2.2.2.1,hHeld.2.2.2.2.2.1,hHeld.2.2.2.2.2.2.1,hHeld.2.2.2.2.2.2.2.1,hHeld.2.2.2.2.2.2.2.2.1,hHeld.2.2.2.2.2.2.2.2.2.1,Xo⟩:_∧_∧_∧_∧_∧_∧_∧_∧_∧_∧_);refine swap_ (S2:=fun w'=>w'.cell? ⟨ya,0,none⟩=some (.slice Za Ra.length gb)∧w'.cell? ⟨ya,1,none⟩=some (.int .i64 La)∧w'.cell? ⟨ya,2,none⟩=some (.int .i64 Ja)∧w'.cell? ⟨ya,3,none⟩=some (.int .i64 Ia)∧w'.cell? ⟨ya,4,none⟩=some (.slice (some Sg) Fa.length Lb)∧w'.cell? (Sg.add ((a1).toNat * 5))=some (.slice OJ ((Oa Fa a1).f0).length xJ)∧w'.cell? ⟨(Sg.add ((a1).toNat * 5)).block,(Sg.add ((a1).toNat * 5)).off + 1,none⟩=some (.int .i64 ((Oa Fa a1).f1))∧w'.cell? ⟨(Sg.add ((a1).toNat * 5)).block,(Sg.add ((a1).toNat * 5)).off + 2,none⟩=some (.int .i64 ((Oa Fa a1).f2))∧w'.cell? ⟨(Sg.add ((a1).toNat * 5)).block,(Sg.add ((a1).toNat * 5)).off + 3,none⟩=some (.int .i64 ((Oa Fa a1).f3))∧w'.cell? ⟨(Sg.add ((a1).toNat * 5)).block,(Sg.add ((a1).toNat * 5)).off + 4,none⟩=some (.int .i64 ((Oa Fa a1).f4))∧w'.cell? (Gj.add (a1).toNat)=some (.slice vG (Rd t108 a1).length fG)) (fun _ h=>⟨h.1,h.2.1,h.2.2.1,h.2.2.2.1,h.2.2.2.2.1,h.2.2.2.2.2.1,h.2.2.2.2.2.2.1,h.2.2.2.2.2.2.2.1,h.2.2.2.2.2.2.2.2.1,h.2.2.2.2.2.2.2.2.2.1,trivial⟩) vQ ?_;clear hHeld;have hHeld:=vQ;refine bn (a':=?_) ?_ ?_;rotate_left
       ·show Act.put _ (some 28) _=_
        simp only [Act.put,List.setIfInBounds_toArray,List.set_cons_zero,List.set_cons_succ,Yb,Zb]
        rfl
       refine Zc (i:=8) (N:=some 30) (v:=?_) (a':=?_) #[true,true,true,true,true,true,true,true,true,false,false,false] rfl rfl (Oc Bf.out (by kernel_rfl)) (fun _ _ _ h=>h) (Or.inl ⟨by rfl,?_⟩) ?_ ?_;rotate_left
       ·intro w';go_simp;with_reducible rfl
       rotate_left
       ·simp only [Act.put,List.setIfInBounds_toArray,List.set_cons_zero,List.set_cons_succ,Yb,Zb]
        rfl
       refine yg (i:=9) (N:=some 31) (v:=?_) (a':=?_) #[true,true,true,true,true,true,true,true,true,true,false,false] rfl rfl (Ce Bf.out Xq.out (by kernel_rfl)) (fun _ _ _ h=>h) (Or.inl ⟨by rfl,?_⟩) hHeld ?_ ?_;rotate_left
       ·rintro w' ⟨s0,s1,s2,s3,s4,s5,s6,s7,s8,s9,AG⟩;go_simp;with_reducible rfl
       rotate_left
       ·simp only [Act.put,List.setIfInBounds_toArray,List.set_cons_zero,List.set_cons_succ,Yb,Zb]
        rfl
       refine ku (i:=10) (N:=some 32) #[true,true,true,true,true,true,true,true,true,true,true,false] rfl rfl (vo Bf.out (by kernel_rfl)) (by decide) (fun K hK=>?_);refine dn Try.func54 (by kernel_rfl) rfl #[.agg #[.slice OJ ((Oa Fa a1).f0).length xJ,.int .i64 ((Oa Fa a1).f1),.int .i64 ((Oa Fa a1).f2),.int .i64 ((Oa Fa a1).f3),.int .i64 ((Oa Fa a1).f4)],.slice vG (Rd t108 a1).length fG] (by rfl) rfl rfl (by (try simp only [List.map_toArray,List.map_cons,List.map_nil]);first|done|rfl|(simp only [List.length_drop,List.length_take];rfl)) ?_;with_reducible refine (xe.calls BG _ _ ((Oa Fa a1).f0) ((Oa Fa a1).f1) ((Oa Fa a1).f2) ((Oa Fa a1).f3) ((Oa Fa a1).f4) _ _ (Rd t108 a1) t112 _ ?Jc ?Ic ?Qd ?Pd sN.out).mono ?_
       (case Jc=>repeat (first|exact (Kd.Mb kN.out HB.out)|(with_reducible refine Kd.Tb ?_ _)|(with_reducible refine Kd.Sb ?_ _)|(with_reducible refine Kd.qc ?_)))
       (case Ic=>exact VV.out)
       (case Qd=>repeat (first|exact (by repeat (first|(with_reducible exact Ap.out)|(with_reducible refine Kd.Tb ?_ _)|(with_reducible refine Kd.Sb ?_ _)|(with_reducible refine Kd.qc ?_)|exact Ap.out))|(with_reducible refine Kd.Tb ?_ _)|(with_reducible refine Kd.Sb ?_ _)|(with_reducible refine Kd.qc ?_)))
       (case Pd=>exact pG.out)
       rintro e tO ⟨jY,rfl,ri,hb⟩;have vR:=(hb.cell (World.block_lt_of_cell? _ _ (hHeld.2.2.2.2.2.2.2.2.2.2))).trans (hHeld.2.2.2.2.2.2.2.2.2.2);refine ⟨_,rfl,?_⟩;have Bb:=ja.mk (Kd.yd (by (with_reducible repeat (first|apply Kd.zb|apply Kd.yb|apply Kd.Ib));exact xk.out) hb);have Gb:=ja.mk (Kd.Sr (by (with_reducible repeat (first|apply Kd.Nf|apply Kd.Mf|apply Kd.pg));exact wg.out) (Kd.Tr ri) hb);have Nb:=ja.mk (Kd.Gx (by (with_reducible repeat (first|apply Kd.zb|apply Kd.yb|apply Kd.Ib));exact KA.out) (Kd.Tr ri) hb);have Dc:=ja.mk (Kd.Dd (Kd.GJ ri (Kd.pR (by (with_reducible repeat (first|apply Kd.zb|apply Kd.yb|apply Kd.Ib));exact KA.out))) (Ka (by repeat (first|(with_reducible first|exact HB.out|apply qa|apply ia|apply ta|refine ua ?_ Ta.out)|exact HB.out))));have Jf:=ja.mk (Va (g:=ya) (o:=.cells #[.slice Za Ra.length gb,.int .i64 La,.int .i64 Ja,.int .i64 Ia,.slice (some Sg) Fa.length Lb] 30 (0,0)) (by (with_reducible repeat (first|refine Aa ?_ _|refine Da ?_|refine Ba ?_ _));exact oa.out) hb);have sg:=ja.mk (Kd.Mb (by repeat (first|(with_reducible exact Ap.out)|(with_reducible refine Kd.Tb ?_ _)|(with_reducible refine Kd.Sb ?_ _)|(with_reducible refine Kd.qc ?_)|exact Ap.out)) hb);have Bg:=ja.mk (Qa (by repeat (first|(with_reducible first|exact HB.out|apply qa|apply ia|apply ta|refine ua ?_ Ta.out)|exact HB.out)) hb);clear xk wg KA oa Ap HB;have xk:=Bb;have wg:=Gb;have KA:=Nb;have BR:=Dc;have oa:=Jf;have Ap:=sg;have HB:=Bg;clear Bb Gb Nb Dc Jf sg Bg;(try clear hb);(try clear si);(try clear hk);(try clear hi);(try clear ri);refine hK.out _ _ ⟨(ga oa.out 0).trans rfl,(ga oa.out 1).trans rfl,(ga oa.out 2).trans rfl,(ga oa.out 3).trans rfl,(ga oa.out 4).trans rfl,(Pa HB.out KD),(Pa HB.out JD),(Pa HB.out ID),(Pa HB.out GD),(Pa HB.out FD),vR⟩ (fun hHeld=>?_);clear hK K;refine bn (a':=?_) ?_ ?_;rotate_left
       ·show Act.put _ (some 32) _=_
        simp only [Act.put,List.setIfInBounds_toArray,List.set_cons_zero,List.set_cons_succ,Yb,Zb]
        rfl
       refine Zc (i:=11) (N:=some 6) (v:=?_) (a':=?_) #[true,true,true,true,true,true,true,true,true,true,true,true] rfl rfl (Oc Bf.out (by kernel_rfl)) (fun _ _ _ h=>h) (Or.inl ⟨by rfl,?_⟩) ?_ ?_;rotate_left
       ·intro w';go_simp;with_reducible rfl
       rotate_left
       ·simp only [Act.put,List.setIfInBounds_toArray,List.set_cons_zero,List.set_cons_succ,Yb,Zb]
        rfl
       refine Np (Ul Bf.out (by kernel_rfl)) ?_
       try go_wp2
       go_loopg [5,7] BG (fun kq v5 v7 w'=>∃ (Bh:List Int) (zk:Int),v7 = .int .i64 zk∧ja (Ub.l0 kq Bh t112 zk Ra La Ja Ia Fa=some r)∧ja (kq ≤ BG)∧ja (Kd.R (Kd.int .i64) 3 w' w.heap.size (fun _=>True) v5 Bh)∧ja (Kd.R Kd.bool 4 w' w.heap.size (fun _=>True) jY t112)∧ja (w'.heap[ya]? = some (.cells #[(.slice Za Ra.length gb),.int .i64 La,.int .i64 Ja,.int .i64 Ia,(.slice (some Sg) Fa.length Lb)] 30 (0,0)))∧ja (Below w.heap.size w w'))
       case atStart=>exact ⟨(Uc),(0),(by first|rfl|(simp;done)|(simp [*];done)),H',⟨Nat.le_refl _⟩,⟨by (with_reducible repeat (first|apply Kd.zb|apply Kd.yb|apply Kd.Ib));exact xk.out⟩,⟨by (with_reducible repeat (first|apply Kd.zb|apply Kd.yb|apply Kd.Ib));exact Kd.ze BR.out (fun _ hk=>trivial)⟩,⟨by (with_reducible repeat (first|refine Aa ?_ _|refine Da ?_|refine Ba ?_ _));exact oa.out⟩,⟨by repeat (first|(with_reducible first|exact HB.out|apply qa|apply ia|apply ta|refine ua ?_ Ta.out)|exact HB.out)⟩⟩
       case round =>
        clear H'
        try clear c1
        try clear p1
        try clear q1
        try clear hx1
        try clear p2
        try clear c4
        try clear c5
        try clear p6
        try clear c8
        try clear Qr
        try clear iI
        try clear gI
        try clear PY
        try clear QM
        try clear sD
        try clear oD
        try clear TN
        try clear CA
        try clear LH
        try clear paa
        try clear Qp
        try clear en
        try clear Xm
        try clear er
        try clear uh
        try clear th
        try clear qh
        try clear oh
        try clear nh
        try clear Sl
        try clear Rl
        try clear Ql
        try clear Ol
        try clear Nl
        try clear Ml
        try clear Ll
        try clear Kl
        try clear Jl
        try clear Il
        try clear mh
        try clear jh
        try clear gh
        try clear fh
        try clear dh
        try clear Cl
        try clear Bl
        try clear Al
        try clear zl
        try clear vl
        try clear ql
        try clear jl
        try clear gl
        try clear fl
        try clear cl
        try clear oq
        try clear Lv
        try clear Kv
        try clear Jv
        try clear Iv
        try clear Xo
        try clear uz
        try clear gB
        try clear p2
        try clear p6
        try clear qz
        try clear eB
        (try clear HA);(try clear Vr);(try clear xk);(try clear DC);(try clear oa);(try clear HB);obtain ⟨Bh,zk,rfl,HA,Vr,xk,DC,oa,HB⟩:=hrel;cases gk with
        | zero=>exact absurd HA.out (by simp [Ub.l0])
        | succ k2 =>
         have H:=HA.out;clear HA;simp only [Ub.l0] at H
         by_cases RC:zk < Ia
         ·rw [if_pos RC] at H;have KH:decide (zk < Ia)=true:=decide_eq_true RC;clear RC
          by_cases JH:0 ≤ zk
          ·rw [if_pos JH] at H;have XW:decide (0 ≤ zk)=true:=decide_eq_true JH;clear JH
           by_cases mI:zk < (t112.length:Int)
           ·rw [if_pos mI] at H;have WW:decide (zk < (t112.length:Int))=true:=decide_eq_true mI;clear mI;obtain ⟨saa,uQ⟩:∃ b_:Bool,b_=(Rf false t112 zk):=⟨_,rfl⟩;replace H:(if saa=true then (if Bh.length < 17592186044416 then (Ub.l0 k2 (Bh ++ [zk]) t112 (wrap64 (zk + 1)) Ra La Ja Ia Fa) else (none)) else (Ub.l0 k2 Bh t112 (wrap64 (zk + 1)) Ra La Ja Ia Fa))=some r:=by rw [← uQ] at H;exact H
            have lX:=ja.mk uQ;clear uQ
            by_cases FG:saa=true
            ·subst FG;have H1:(if Bh.length < 17592186044416 then (Ub.l0 k2 (Bh ++ [zk]) t112 (wrap64 (zk + 1)) Ra La Ja Ia Fa) else (none))=some r:=by rw [if_pos rfl] at H;exact H
             clear H;have H:=H1;clear H1
             by_cases BC:Bh.length < 17592186044416
             ·rw [if_pos BC] at H;have Oaa:=ja.mk BC;clear BC;obtain ⟨R3,ZG⟩:∃ y_:List Int,y_=(Bh ++ [zk]):=⟨_,rfl⟩;replace H:(Ub.l0 k2 R3 t112 (wrap64 (zk + 1)) Ra La Ja Ia Fa)=some r:=by first|(rw [ZG];with_reducible exact H)|(have Gd:=(Option.bind_some _ _).symm.trans H;rw [ZG];with_reducible exact Gd)|(have Gd:=(Option.bind_some _ _).symm.trans H;with_reducible exact Gd)|with_reducible exact H|(rw [ZG];exact H)|exact H
              have Haa:=ja.mk ZG;clear ZG;have H':=ja.mk H;clear H;have Gt:wr.cell? ⟨ya,0,none⟩=some (.slice Za Ra.length gb):=(ga oa.out 0).trans rfl;have Ft:wr.cell? ⟨ya,1,none⟩=some (.int .i64 La):=(ga oa.out 1).trans rfl;have Et:wr.cell? ⟨ya,2,none⟩=some (.int .i64 Ja):=(ga oa.out 2).trans rfl;have Dt:wr.cell? ⟨ya,3,none⟩=some (.int .i64 Ia):=(ga oa.out 3).trans rfl;have Ct:wr.cell? ⟨ya,4,none⟩=some (.slice (some Sg) Fa.length Lb):=(ga oa.out 4).trans rfl;have Ms:=aa oa.out 0;have Ls:=aa oa.out 1;have Ks:=aa oa.out 2;have Js:=aa oa.out 3;have Hs:=aa oa.out 4;obtain ⟨rau,Xas,Ial⟩:=Kd.Ud DC.out;subst Ial;have rz:0 ≤ (zk:Int):=Ua;have pz:zk < (t112.length:Int):=Ua;obtain ⟨UC,JQ,mq⟩:=Kd.jj (Kd.dc DC.out).2.2 zk rz pz;(try rw [← lX.out] at mq);cases JQ;replace rz:=eq_true rz;replace pz:=eq_true pz;go_wp2_with (first|((with_reducible refine Md (b:=.append) (xs:=#[.tmp 43,.tmp 45]) rfl ?_);(try (refine ug (by rfl) ?_;dsimp only));at_builtin;refine Kd.Cg (Kd.int .i64) (w0:=w) w.heap.size rfl (.tmp 43) (.tmp 45) 22 3 (.int .i64 0) 8 rfl Try.underlying22 info3 rfl (by decide) (by omega) u5 Bh zk [.int .i64 zk] (fun _=>True) (fun _=>False) rfl rfl ?aP (fun _ hk=>hk.elim) ?aF ?aO ?aB ?aS ?aL ?_;(case aP=>exact rfl);(case aB=>exact (by repeat (first|(with_reducible first|exact HB.out|apply qa|apply ia|apply ta|refine ua ?_ Ta.out)|exact HB.out)));(case aF=>exact (fun _ _=>trivial));(case aO=>exact (by (with_reducible repeat (first|apply Kd.zb|apply Kd.yb|apply Kd.Ib));exact xk.out));(case aS=>exact (Ka (by repeat (first|(with_reducible first|exact HB.out|apply qa|apply ia|apply ta|refine ua ?_ Ta.out)|exact HB.out))));(case aL=>have:=Oaa.out;omega);intro Sar TJ ho hb hg hat;rw [← Haa.out] at ho;have Bb:=ja.mk (Kd.GA (by (with_reducible repeat (first|apply Kd.zb|apply Kd.yb|apply Kd.Ib));exact DC.out) (Kd.Ex (by (with_reducible repeat (first|apply Kd.zb|apply Kd.yb|apply Kd.Ib));exact xk.out)) (by decide) hg);have Gb:=ja.mk (ud (g:=ya) (o:=.cells #[.slice Za Ra.length gb,.int .i64 La,.int .i64 Ja,.int .i64 Ia,.slice (some Sg) Fa.length Lb] 30 (0,0)) (by (with_reducible repeat (first|refine Aa ?_ _|refine Da ?_|refine Ba ?_ _));exact oa.out) hg (Kd.vk xk.out oa.out (by decide)));have Nb:=ja.mk (hb);have Dc:=ja.mk (ho);clear DC oa HB xk;have DC:=Bb;have oa:=Gb;have HB:=Nb;have uab:=Dc;clear Bb Gb Nb Dc ho hb hg hat))
              go_roundg k2
              case measure=>have:=HJ2.out;have:=Vr.out;omega
              case rel=>exact ⟨(R3),(wrap64 (zk + 1)),(by first|rfl|(simp;done)|(simp [*];done)),H',⟨by have:=HJ2.out;have:=Vr.out;omega⟩,⟨by (with_reducible repeat (first|apply Kd.zb|apply Kd.yb|apply Kd.Ib));exact uab.out⟩,⟨by (with_reducible repeat (first|apply Kd.zb|apply Kd.yb|apply Kd.Ib));exact DC.out⟩,⟨by (with_reducible repeat (first|refine Aa ?_ _|refine Da ?_|refine Ba ?_ _));exact oa.out⟩,⟨by repeat (first|(with_reducible first|exact HB.out|apply qa|apply ia|apply ta|refine ua ?_ Ta.out)|exact HB.out)⟩⟩
             ·rw [if_neg BC] at H;exact absurd H (by simp)
            ·replace FG:=Bool.eq_false_iff.mpr FG;subst FG;have H1:(Ub.l0 k2 Bh t112 (wrap64 (zk + 1)) Ra La Ja Ia Fa)=some r:=by rw [if_neg (show ¬ (false=true) by decide)] at H;exact H
             clear H;have H:=H1;clear H1;have H':=ja.mk H;clear H;have GF:wr.cell? ⟨ya,0,none⟩=some (.slice Za Ra.length gb):=(ga oa.out 0).trans rfl;have FF:wr.cell? ⟨ya,1,none⟩=some (.int .i64 La):=(ga oa.out 1).trans rfl;have EF:wr.cell? ⟨ya,2,none⟩=some (.int .i64 Ja):=(ga oa.out 2).trans rfl;have DF:wr.cell? ⟨ya,3,none⟩=some (.int .i64 Ia):=(ga oa.out 3).trans rfl;have CF:wr.cell? ⟨ya,4,none⟩=some (.slice (some Sg) Fa.length Lb):=(ga oa.out 4).trans rfl;have AE:=aa oa.out 0;have zE:=aa oa.out 1;have yE:=aa oa.out 2;have xE:=aa oa.out 3;have wE:=aa oa.out 4;obtain ⟨qau,Was,Hal⟩:=Kd.Ud DC.out;subst Hal;have rz:0 ≤ (zk:Int):=Ua;have pz:zk < (t112.length:Int):=Ua;obtain ⟨UC,JQ,mq⟩:=Kd.jj (Kd.dc DC.out).2.2 zk rz pz;(try rw [← lX.out] at mq);cases JQ;replace rz:=eq_true rz;replace pz:=eq_true pz;go_wp2
             go_roundg k2
             case measure=>have:=HJ2.out;have:=Vr.out;omega
             case rel=>exact ⟨(Bh),(wrap64 (zk + 1)),(by first|rfl|(simp;done)|(simp [*];done)),H',⟨by have:=HJ2.out;have:=Vr.out;omega⟩,⟨by (with_reducible repeat (first|apply Kd.zb|apply Kd.yb|apply Kd.Ib));exact xk.out⟩,⟨by (with_reducible repeat (first|apply Kd.zb|apply Kd.yb|apply Kd.Ib));exact DC.out⟩,⟨by (with_reducible repeat (first|refine Aa ?_ _|refine Da ?_|refine Ba ?_ _));exact oa.out⟩,⟨by repeat (first|(with_reducible first|exact HB.out|apply qa|apply ia|apply ta|refine ua ?_ Ta.out)|exact HB.out)⟩⟩
           ·rw [if_neg mI] at H;exact absurd H (by simp)
          ·rw [if_neg JH] at H;exact absurd H (by simp)
         ·rw [if_neg RC] at H;have KH:decide (zk < Ia)=false:=decide_eq_false RC;clear RC;obtain rfl:=Option.some.inj H;have iA:wr.cell? ⟨ya,0,none⟩=some (.slice Za Ra.length gb):=(ga oa.out 0).trans rfl;have gA:wr.cell? ⟨ya,1,none⟩=some (.int .i64 La):=(ga oa.out 1).trans rfl;have fA:wr.cell? ⟨ya,2,none⟩=some (.int .i64 Ja):=(ga oa.out 2).trans rfl;have eA:wr.cell? ⟨ya,3,none⟩=some (.int .i64 Ia):=(ga oa.out 3).trans rfl;have dA:wr.cell? ⟨ya,4,none⟩=some (.slice (some Sg) Fa.length Lb):=(ga oa.out 4).trans rfl;have Lz:=aa oa.out 0;have Kz:=aa oa.out 1;have Jz:=aa oa.out 2;have Iz:=aa oa.out 3;have Hz:=aa oa.out 4;go_wp2;go_ret;exact ⟨_,by first|rfl|(simp [Na,Ma] <;> rfl)|(simp [*,Na,Ma] <;> rfl),by (with_reducible repeat (first|apply Kd.zb|apply Kd.yb|apply Kd.Ib));exact xk.out,by repeat (first|(with_reducible first|exact HB.out|apply qa|apply ia|apply ta|refine ua ?_ Ta.out)|exact HB.out)⟩
      ·rw [if_neg Xm] at H;exact absurd H (by simp)
     ·rw [if_neg Qp] at H;exact absurd H (by simp)
    ·rw [if_neg LH] at H;exact absurd H (by simp)
def Zf.f (a0:Int) (a1:Int) (a2:Int):Option (Bool):=if a0 ≥ a1 then (some (decide (a0 ≤ a2))) else (some false)
theorem Zf.calls (a0:Int) (a1:Int) (a2:Int) (r:Bool) (w:World) (h:Zf.f a0 a1 a2=some r) :
  Calls Try.prog 55 #[.int .i64 a0,.int .i64 a1,.int .i64 a2] w fun e w'=>e = .returned (.bool r)∧Lc w w':=by
 have H:(if a0 ≥ a1 then (some (decide (a0 ≤ a2))) else (some false))=some r:=h;clear h
 by_cases c4:a0 ≥ a1
 ·rw [if_pos c4] at H;have tj:decide (a1 ≤ a0)=true:=decide_eq_true c4;clear c4;obtain rfl:=Option.some.inj H;go_enter Try.func55,Try.ntmps55;go_wp2;go_ret;exact ⟨by first|rfl|(simp;done)|(simp [*];done),by repeat (first|exact Lc.refl _|apply Lc.step)⟩
 ·rw [if_neg c4] at H;have tj:decide (a1 ≤ a0)=false:=decide_eq_false c4;clear c4;obtain rfl:=Option.some.inj H;go_enter Try.func55,Try.ntmps55;go_wp2;go_ret;exact ⟨by first|rfl|(simp;done)|(simp [*];done),by repeat (first|exact Lc.refl _|apply Lc.step)⟩
theorem eX {W w1:World} (hb:Below W.heap.size W w1):(∀ b o,b < W.heap.size→w1.cell? ⟨b,o,none⟩=W.cell? ⟨b,o,none⟩)∧(∀ b o,b < W.heap.size→w1.frozen? ⟨b,o,none⟩=W.frozen? ⟨b,o,none⟩) :=
 ⟨fun b o h=>hb.cell (p:=⟨b,o,none⟩) h,fun b o h=>hb.frozen (p:=⟨b,o,none⟩) h⟩
theorem Au {α:Type} {l:List α} {p:α→Bool} {k:Nat} {d:α} (hk:k < l.length) (h:(l.take k).any p=false) (hx:p (l.getD k d)=false):(l.take (k + 1)).any p=false:=by
 rw [List.take_succ_eq_append_getElem hk,List.any_append,h]
 simpa [List.getD_eq_getElem?_getD,List.getElem?_eq_getElem hk] using hx
theorem UM {α:Type} {l:List α} {p:α→Bool} {k:Nat} {d:α} (hk:k < l.length) (hx:p (l.getD k d)=true):l.any p=true:=by
 rw [List.any_eq_true];exact ⟨l[k],List.getElem_mem hk,by simpa [List.getD_eq_getElem?_getD,List.getElem?_eq_getElem hk] using hx⟩
end Go.Proofs.Ytkigbdceceeenaa.P
end
