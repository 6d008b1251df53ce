import Derived.Test.YtkigbdceceeenaaQColors1
import Derived.Test.YtkigbdceceeenaaQColors3
set_option maxHeartbeats 8000000
set_option maxRecDepth 100000
section
namespace Go.Proofs.Ytkigbdceceeenaa.P
open Go.RowKit Go.Proofs.Ma.Tb Go.Proofs.Ma.Gd Go.Proofs.Ma.De
set_option linter.unusedVariables false
set_option linter.unusedSimpArgs false
attribute [local go_sem] Rh si wj Nj qh oh zi ri
mutual
def xb.l0:Nat→List (List Bool)→Int→List Int→Int→Int→Int→List (Je)→Option ((List (List Bool)))
 | 0,_,_,_,_,_,_,_=>none
 | k + 1,x3,x4,yc,Qc,Gc,Dc,Yb=>if x4 < (Yb.length:Int) then (if 0 ≤ Dc then (if (Dc:Int).toNat ≤ 281474976710656 then (if x3.length < 5864062014805 then (xb.l0 k (x3 ++ [(List.replicate (Dc:Int).toNat false)]) (wrap64 (x4 + 1)) yc Qc Gc Dc Yb) else (none)) else (none)) else (none)) else (xb.l1 k x3 true yc Qc Gc Dc Yb)
def xb.l1:Nat→List (List Bool)→Bool→List Int→Int→Int→Int→List (Je)→Option ((List (List Bool)))
 | 0,_,_,_,_,_,_,_=>none
 | k + 1,x3,x5,yc,Qc,Gc,Dc,Yb=>if x5=true then (xb.l2 k x3 false (wrap64 ((Yb.length:Int) - 1)) yc Qc Gc Dc Yb) else (some x3)
def xb.l2:Nat→List (List Bool)→Bool→Int→List Int→Int→Int→Int→List (Je)→Option ((List (List Bool)))
 | 0,_,_,_,_,_,_,_,_=>none
 | k + 1,x3,x5,x6,yc,Qc,Gc,Dc,Yb=>if x6 ≥ 0 then (if 0 ≤ x6 then (if x6 < (Yb.length:Int) then ((Cl.f ((za Yb x6).f0) ((za Yb x6).f1) ((za Yb x6).f2) ((za Yb x6).f3) ((za Yb x6).f4)).bind fun t112=>(xb.l3 k x3 x5 x6 t112 0 yc Qc Gc Dc Yb)) else (none)) else (none)) else (xb.l1 k x3 x5 yc Qc Gc Dc Yb)
def xb.l3:Nat→List (List Bool)→Bool→Int→List Int→Int→List Int→Int→Int→Int→List (Je)→Option ((List (List Bool)))
 | 0,_,_,_,_,_,_,_,_,_,_=>none
 | k + 1,x3,x5,x6,x7,x8,yc,Qc,Gc,Dc,Yb=>if x8 < (x7.length:Int) then (if 0 ≤ x8 then (if 0 ≤ (rd x7 x8) then (if (rd x7 x8) < (Yb.length:Int) then (if (rd x7 x8) < (x3.length:Int) then ((cg.f k ((za Yb (rd x7 x8)).f0) ((za Yb (rd x7 x8)).f1) ((za Yb (rd x7 x8)).f2) ((za Yb (rd x7 x8)).f3) ((za Yb (rd x7 x8)).f4) (yd x3 (rd x7 x8))).bind fun t119=>(xb.l4 k x3 x5 x6 x7 x8 t119 0 yc Qc Gc Dc Yb)) else (none)) else (none)) else (none)) else (none)) else (xb.l2 k x3 x5 (wrap64 (x6 - 1)) yc Qc Gc Dc Yb)
def xb.l4:Nat→List (List Bool)→Bool→Int→List Int→Int→List Bool→Int→List Int→Int→Int→Int→List (Je)→Option ((List (List Bool)))
 | 0,_,_,_,_,_,_,_,_,_,_,_,_=>none
 | k + 1,x3,x5,x6,x7,x8,x9,yZ,yc,Qc,Gc,Dc,Yb=>if yZ < Dc then (if 0 ≤ yZ then (if yZ < (x9.length:Int) then (if Vf false x9 yZ=true then (if 0 ≤ x6 then (if x6 < (x3.length:Int) then (if yZ < ((yd x3 x6).length:Int) then (if (Vf false (yd x3 x6) yZ=true) then (xb.l4 k x3 x5 x6 x7 x8 x9 (wrap64 (yZ + 1)) yc Qc Gc Dc Yb) else (xb.l4 k (x3.set (x6:Int).toNat ((yd x3 x6).set (yZ:Int).toNat true)) true x6 x7 x8 x9 (wrap64 (yZ + 1)) yc Qc Gc Dc Yb)) else (none)) else (none)) else (none)) else (xb.l4 k x3 x5 x6 x7 x8 x9 (wrap64 (yZ + 1)) yc Qc Gc Dc Yb)) else (none)) else (none)) else (xb.l3 k x3 x5 x6 x7 (wrap64 (x8 + 1)) yc Qc Gc Dc Yb)
end
def xb.f (k:Nat) (Qa:List Int) (Ja:Int) (Ga:Int) (Ia:Int) (Aa:List (Je)):Option ((List (List Bool))):=xb.l0 k (([]:List (List Bool))) 0 Qa Ja Ga Ia Aa
def xb.T16:Bool × List (List Nat × List Nat):=(true,[([],[]),([0],[0]),([],[]),([],[]),([2,3],[2,3]),([4],[4]),([1,5],[1,5]),([6],[6]),([],[]),([],[]),([],[]),([9,10],[9,10]),([11],[11]),([8,12],[8,12]),([13],[13]),([7,14],[7,14]),([15,15,0,1,2,3,4,5,6,7,8,9,10,11,12,13,14,15],[15])])
def xb.B16:List Nat:=[0,1,0,0,12,28,63,127,0,0,0,1536,3584,7936,16128,32767,65535]
theorem xb.iae:Dp .any (opsOf Try.f41 16)=xb.T16:=by kernel_rfl
theorem xb.Zab:Jp xb.T16.2 xb.B16=true:=by kernel_rfl
theorem xb.calls (k:Nat) (Ya:Option Addr) (Za:Nat) (Qa:List Int) (Ja:Int) (Ga:Int) (Ia:Int) (Mb:Option Addr) (Cb:Nat) (Aa:List (Je)) (r:List (List Bool)) (w:World) (Ud:Kd.C (Kd.int .i64) w Ya Qa.length Qa) (Rd:Qa.length ≤ Za) (yf:Kd.C Fq w Mb Aa.length Aa) (kf:Aa.length ≤ Cb) (h:xb.f k Qa Ja Ga Ia Aa=some r) :
  Calls Try.prog 41 #[.agg #[.slice Ya Qa.length Za,.int .i64 Ja,.int .i64 Ga,.int .i64 Ia,.slice Mb Aa.length Cb]] w fun e w'=>∃ Nl:Value,e = .returned (Nl)∧Kd.S (Kd.slice 4 Kd.bool) 60 w' w.heap.size (fun _=>True) Nl r∧Below w.heap.size w w':=by
 have GF:=Try.underlying30;have kC:=Try.underlying59;have Ze:=ga.mk Ud;have Af:=ga.mk Rd;clear Ud Rd;have xg:=ga.mk yf;have ki:=ga.mk kf;clear yf kf;have HB:=ga.mk (Below.refl w.heap.size w);have H:(xb.l0 k (([]:List (List Bool))) 0 Qa Ja Ga Ia Aa)=some r:=h;clear h;obtain ⟨ud,jf⟩:∃ y_:List (List Bool),y_=(([]:List (List Bool))):=⟨_,rfl⟩;replace H:(xb.l0 k ud 0 Qa Ja Ga Ia Aa)=some r:=by first|(rw [jf];with_reducible exact H)|(have Ed:=(Option.bind_some _ _).symm.trans H;rw [jf];with_reducible exact Ed)|(have Ed:=(Option.bind_some _ _).symm.trans H;with_reducible exact Ed)|with_reducible exact H|(rw [jf];exact H)|exact H
 have ei:=ga.mk jf;clear jf;have H':=ga.mk H;clear H;go_enter Try.func41,Try.ntmps41;go_wp2_with (first|((with_reducible refine Ab (N:=1) rfl ?_);refine Lb ?hg (N:=1) ?hd (cs:=#[.slice Ya Qa.length Za,.int .i64 Ja,.int .i64 Ga,.int .i64 Ia,.slice Mb Aa.length Cb]) (t:=30) ?hr ?_;(case hd=>rfl);(case hg=>rfl);(case hr=>first|(go_simp;done)|(go_simp;rfl));intro ya hg w2 Sb hb;have Eb:=ga.mk (Ra uaH hb);have Fb:=ga.mk (Sb);have Ob:=ga.mk ((by rw [hg];exact (La uaH):w.heap.size ≤ ya));have Ec:=ga.mk ((by rw [hg];exact (La uaH):w.heap.size ≤ ya));clear HB;have HB:=Eb;have oa:=Fb;have Vd:=Ob;have Ta:=Ec;clear Eb Fb Ob Ec hb Sb hg)|((with_reducible refine Ab (N:=11) rfl ?_);refine Kd.Raj (Kd.slice 4 Kd.bool) _ 60 ?hg (N:=11) ?hd (xs:=([]:List (List Bool))) (inner:=[]) (ok:=fun _=>True) (Dh:=fun _=>True) ?hr ?hp (fun _ hk=>hk) trivial (Below.refl _ _) (Nat.le_refl _) (by simp) ?_;(case hd=>rfl);(case hg=>rfl);(case hr=>first|(go_simp;done)|(go_simp;rfl));(case hp=>exact (Pd.none _ _));intro wm w3 nC hb gm Pe;clear gm Pe;(first|rw [← ei.out] at nC|(simp only [Int.reduceToNat] at nC;rw [← ei.out] at nC));have Eb:=ga.mk (Kd.Ey nC (La taH));have Fb:=ga.mk (Va (g:=ya) (o:=.cells #[.slice Ya Qa.length Za,.int .i64 Ja,.int .i64 Ga,.int .i64 Ia,.slice Mb Aa.length Cb] 30 (0,0)) vaH hb);have Ob:=ga.mk (Ra taH hb);clear oa HB;have Sg:=Eb;have oa:=Fb;have HB:=Ob;clear Eb Fb Ob hb nC))
 go_loopg [3,4] k (fun kq v3 v4 w'=>∃ (ie:List (List Bool)) (jd:Int),v4 = .int .i64 jd∧ga (xb.l0 kq ie jd Qa Ja Ga Ia Aa=some r)∧ga (kq ≤ k)∧ga (Kd.S (Kd.slice 4 Kd.bool) 60 w' w.heap.size (fun _=>True) v3 ie)∧ga (w'.heap[ya]? = some (.cells #[(.slice Ya Qa.length Za),.int .i64 Ja,.int .i64 Ga,.int .i64 Ia,(.slice Mb Aa.length Cb)] 30 (0,0)))∧ga (Below w.heap.size w w'))
 case atStart=>exact ⟨(ud),(0),AaH,H',⟨Nat.le_refl _⟩,⟨by (with_reducible repeat (first|apply Kd.fe|apply Kd.ee|apply Kd.Qe));exact Sg.out⟩,⟨zaH⟩,⟨xaH⟩⟩
 case round =>
  clear H'
  try clear p2
  try clear c4
  (try clear HA);(try clear wg);(try clear Oc);(try clear oa);(try clear HB);obtain ⟨ie,jd,rfl,HA,wg,Oc,oa,HB⟩:=hrel;cases gk with
  | zero=>exact absurd HA.out (by simp [xb.l0])
  | succ k1 =>
   have H:=HA.out;clear HA;simp only [xb.l0] at H
   by_cases c5:jd < (Aa.length:Int)
   ·rw [if_pos c5] at H;have fk:decide (jd < (Aa.length:Int))=true:=decide_eq_true c5;clear c5
    by_cases c6:0 ≤ Ia
    ·rw [if_pos c6] at H;have gp:=eq_true c6;have ID:decide (0 ≤ Ia)=true:=decide_eq_true c6;clear c6
     by_cases c7:(Ia:Int).toNat ≤ 281474976710656
     ·rw [if_pos c7] at H;have Xk:=eq_true c7;have qt:decide ((Ia:Int).toNat ≤ 281474976710656)=true:=decide_eq_true c7;clear c7;obtain ⟨Wd,Gf⟩:∃ y_:List Bool,y_=(List.replicate (Ia:Int).toNat false):=⟨_,rfl⟩;replace H:(if ie.length < 5864062014805 then (xb.l0 k1 (ie ++ [Wd]) (wrap64 (jd + 1)) Qa Ja Ga Ia Aa) else (none))=some r:=by first|(rw [Gf];with_reducible exact H)|(have Ed:=(Option.bind_some _ _).symm.trans H;rw [Gf];with_reducible exact Ed)|(have Ed:=(Option.bind_some _ _).symm.trans H;with_reducible exact Ed)|with_reducible exact H|(rw [Gf];exact H)|exact H
      have Jl:=ga.mk Gf;clear Gf
      by_cases c8:ie.length < 5864062014805
      ·rw [if_pos c8] at H;have Yaw:=ga.mk c8;clear c8;obtain ⟨Yg,Ff⟩:∃ y_:List (List Bool),y_=(ie ++ [Wd]):=⟨_,rfl⟩;replace H:(xb.l0 k1 Yg (wrap64 (jd + 1)) Qa Ja Ga Ia Aa)=some r:=by first|(rw [Ff];with_reducible exact H)|(have Ed:=(Option.bind_some _ _).symm.trans H;rw [Ff];with_reducible exact Ed)|(have Ed:=(Option.bind_some _ _).symm.trans H;with_reducible exact Ed)|with_reducible exact H|(rw [Ff];exact H)|exact H
       have Ej:=ga.mk Ff;clear Ff;have H':=ga.mk H;clear H;have Ln:wr.cell? ⟨ya,0,none⟩=some (.slice Ya Qa.length Za):=(ia oa.out 0).trans rfl;have Kn:wr.cell? ⟨ya,1,none⟩=some (.int .i64 Ja):=(ia oa.out 1).trans rfl;have Jn:wr.cell? ⟨ya,2,none⟩=some (.int .i64 Ga):=(ia oa.out 2).trans rfl;have Gn:wr.cell? ⟨ya,3,none⟩=some (.int .i64 Ia):=(ia oa.out 3).trans rfl;have En:wr.cell? ⟨ya,4,none⟩=some (.slice Mb Aa.length Cb):=(ia oa.out 4).trans rfl;have gn:=aa oa.out 0;have en:=aa oa.out 1;have dn:=aa oa.out 2;have bn:=aa oa.out 3;have Zm:=aa oa.out 4;go_wp2_with (first|((with_reducible refine Ab (N:=22) rfl ?_);refine Kd.jr Kd.bool _ 4 rfl (N:=22) rfl 60 _ _ rfl Ia rfl rfl Try.underlying60 (.bool false) 1 Ir rfl (by decide) (by omega) false (ok:=fun _=>True) (Dh:=fun _=>True) rfl (fun _ hk=>hk) trivial (Ua) (Nat.le_trans (Nat.mul_le_mul_right _ (Ua:Ia.toNat ≤ 281474976710656)) (by omega)) (Below.refl _ _) (Nat.le_refl _) ?_;intro XB Us fq hb gm Pe;clear gm Pe;(first|rw [← Jl.out] at fq|(simp only [Int.reduceToNat] at fq;rw [← Jl.out] at fq));have Eb:=ga.mk (Kd.Aw oaI (Kd.Av fq) hb);have Fb:=ga.mk (Kd.Nd fq (La taH));have Ob:=ga.mk (Va (g:=ya) (o:=.cells #[.slice Ya Qa.length Za,.int .i64 Ja,.int .i64 Ga,.int .i64 Ia,.slice Mb Aa.length Cb] 30 (0,0)) vaH hb);have Ec:=ga.mk (Ra taH hb);clear Oc oa HB;have Oc:=Eb;have nj:=Fb;have oa:=Ob;have HB:=Ec;clear Eb Fb Ob Ec hb fq;obtain ⟨nP,Rs,XX⟩:=Kd.od nj.out;subst XX)|((with_reducible refine Jd (b:=.append) (xs:=#[.tmp 19,.tmp 23]) rfl ?_);at_builtin;refine Kd.EB (Kd.slice 4 Kd.bool) (w0:=w) w.heap.size rfl (.tmp 19) (.tmp 23) 55 60 (.slice none 0 0) 24 rfl Try.underlying55 BF rfl (by decide) (by omega) u3 ie Wd [.slice nP Wd.length Rs] (fun _=>True) (fun k_=>some k_=(.slice nP Wd.length Rs:Value).ownBlock) rfl rfl ?aP (fun k_ hk_=>((Kd.xd (uz:=fun k_=>((fun _=>True)) k_∧some k_ ≠ (u3:Value).ownBlock) (Kd.IB (nj.out) (Kd.QE Oc.out) (by decide)) (fun k_ hk=>⟨trivial,hk.2⟩))).1 k_ hk_.symm) ?aF ?aO ?aB ?aS ?aL ?_;(case aP=>exact Kd.F9 (Kd.xd (Kd.Fy rfl (Kd.xd (uz:=fun k_=>((fun _=>True)) k_∧some k_ ≠ (u3:Value).ownBlock) (Kd.IB (nj.out) (Kd.QE Oc.out) (by decide)) (fun k_ hk=>⟨trivial,hk.2⟩))) (fun _ h_=>h_)));(case aB=>exact taH);(case aF=>exact (fun _ _=>trivial));(case aO=>exact (by (with_reducible repeat (first|apply Kd.fe|apply Kd.ee|apply Kd.Qe));exact Kd.Ah Oc.out (fun k_ hk=>⟨trivial,fun e_=>hk.2 e_⟩)));(case aS=>exact (La taH));(case aL=>have:=Yaw.out;omega);intro IG Ks ho hb hg hat;rw [← Ej.out] at ho;have Eb:=ga.mk (Vc (g:=ya) (o:=.cells #[.slice Ya Qa.length Za,.int .i64 Ja,.int .i64 Ga,.int .i64 Ia,.slice Mb Aa.length Cb] 30 (0,0)) vaH hg (Kd.Waw Oc.out oa.out (by decide)));have Fb:=ga.mk (hb);have Ob:=ga.mk (ho);clear oa HB Oc nj;have oa:=Eb;have HB:=Fb;have uj:=Ob;clear Eb Fb Ob ho hb hg hat))
       go_roundg k1
       case measure=>have:=wg.out;omega
       case rel=>exact ⟨(Yg),(wrap64 (jd + 1)),AaH,H',⟨by have:=wg.out;omega⟩,⟨by (with_reducible repeat (first|apply Kd.fe|apply Kd.ee|apply Kd.Qe));exact uj.out⟩,⟨zaH⟩,⟨xaH⟩⟩
      ·rw [if_neg c8] at H;exact absurd H (by simp)
     ·rw [if_neg c7] at H;exact absurd H (by simp)
    ·rw [if_neg c6] at H;exact absurd H (by simp)
   ·rw [if_neg c5] at H;have fk:decide (jd < (Aa.length:Int))=false:=decide_eq_false c5;clear c5;have H':=ga.mk H;clear H;have ij:wr.cell? ⟨ya,0,none⟩=some (.slice Ya Qa.length Za):=(ia oa.out 0).trans rfl;have fj:wr.cell? ⟨ya,1,none⟩=some (.int .i64 Ja):=(ia oa.out 1).trans rfl;have ej:wr.cell? ⟨ya,2,none⟩=some (.int .i64 Ga):=(ia oa.out 2).trans rfl;have cj:wr.cell? ⟨ya,3,none⟩=some (.int .i64 Ia):=(ia oa.out 3).trans rfl;have aj:wr.cell? ⟨ya,4,none⟩=some (.slice Mb Aa.length Cb):=(ia oa.out 4).trans rfl;have Zi:=aa oa.out 0;have Yi:=aa oa.out 1;have Xi:=aa oa.out 2;have Wi:=aa oa.out 3;have Vi:=aa oa.out 4;go_wp2
    go_loopg [5] k1 (fun kq v5 w'=>∃ (Bp:List (List Bool)) (Me:Bool),v5 = .bool Me∧ga (xb.l1 kq Bp Me Qa Ja Ga Ia Aa=some r)∧ga (kq ≤ k1)∧ga (Kd.S (Kd.slice 4 Kd.bool) 60 w' w.heap.size (fun _=>True) u3 Bp)∧ga (w'.heap[ya]? = some (.cells #[(.slice Ya Qa.length Za),.int .i64 Ja,.int .i64 Ga,.int .i64 Ia,(.slice Mb Aa.length Cb)] 30 (0,0)))∧ga (Below w.heap.size w w'))
    case atStart=>exact ⟨(ie),(true),AaH,H',⟨Nat.le_refl _⟩,⟨YaH⟩,⟨zaH⟩,⟨xaH⟩⟩
    case round =>
     clear H'
     try clear p2
     try clear c4
     try clear c5
     try clear fk
     try clear c6
     try clear gp
     try clear ID
     try clear p6
     try clear c7
     try clear Xk
     try clear qt
     try clear c8
     try clear ij
     try clear fj
     try clear ej
     try clear cj
     try clear aj
     try clear Ln
     try clear Kn
     try clear Jn
     try clear Gn
     try clear En
     try clear Zi
     try clear Yi
     try clear Xi
     try clear Wi
     try clear Vi
     try clear gn
     try clear en
     try clear dn
     try clear bn
     try clear Zm
     try clear p2
     (try clear HA);(try clear zl);(try clear Oc);(try clear oa);(try clear HB);obtain ⟨Bp,Me,rfl,HA,zl,Oc,oa,HB⟩:=hrel;cases gk with
     | zero=>exact absurd HA.out (by simp [xb.l1])
     | succ k2 =>
      have H:=HA.out;clear HA;simp only [xb.l1] at H
      by_cases vD:Me=true
      ·subst vD;have H1:(xb.l2 k2 Bp false (wrap64 ((Aa.length:Int) - 1)) Qa Ja Ga Ia Aa)=some r:=by rw [if_pos rfl] at H;exact H
       clear H;have H:=H1;clear H1;have H':=ga.mk H;clear H;have Po:wr.cell? ⟨ya,0,none⟩=some (.slice Ya Qa.length Za):=(ia oa.out 0).trans rfl;have Oo:wr.cell? ⟨ya,1,none⟩=some (.int .i64 Ja):=(ia oa.out 1).trans rfl;have Mo:wr.cell? ⟨ya,2,none⟩=some (.int .i64 Ga):=(ia oa.out 2).trans rfl;have Lo:wr.cell? ⟨ya,3,none⟩=some (.int .i64 Ia):=(ia oa.out 3).trans rfl;have Ko:wr.cell? ⟨ya,4,none⟩=some (.slice Mb Aa.length Cb):=(ia oa.out 4).trans rfl;have Jo:=aa oa.out 0;have Io:=aa oa.out 1;have Ho:=aa oa.out 2;have Fo:=aa oa.out 3;have Eo:=aa oa.out 4;go_wp2
       go_loopg [5,6] k2 (fun kq v5 v6 w'=>∃ (Vo:List (List Bool)) (zf:Bool) (af:Int),v5 = .bool zf∧v6 = .int .i64 af∧ga (xb.l2 kq Vo zf af Qa Ja Ga Ia Aa=some r)∧ga (kq ≤ k2)∧ga (Kd.S (Kd.slice 4 Kd.bool) 60 w' w.heap.size (fun _=>True) u3 Vo)∧ga (w'.heap[ya]? = some (.cells #[(.slice Ya Qa.length Za),.int .i64 Ja,.int .i64 Ga,.int .i64 Ia,(.slice Mb Aa.length Cb)] 30 (0,0)))∧ga (Below w.heap.size w w'))
       case atStart=>exact ⟨(Bp),(false),(wrap64 ((Aa.length:Int) - 1)),AaH,AaH,H',⟨Nat.le_refl _⟩,⟨YaH⟩,⟨zaH⟩,⟨xaH⟩⟩
       case round =>
        clear H'
        try clear c1
        try clear p2
        try clear c4
        try clear c5
        try clear fk
        try clear c6
        try clear gp
        try clear ID
        try clear p6
        try clear c7
        try clear Xk
        try clear qt
        try clear c8
        try clear vD
        try clear ij
        try clear fj
        try clear ej
        try clear cj
        try clear aj
        try clear Po
        try clear Oo
        try clear Mo
        try clear Lo
        try clear Ko
        try clear Ln
        try clear Kn
        try clear Jn
        try clear Gn
        try clear En
        try clear Zi
        try clear Yi
        try clear Xi
        try clear Wi
        try clear Vi
        try clear Jo
        try clear Io
        try clear Ho
        try clear Fo
        try clear Eo
        try clear gn
        try clear en
        try clear dn
        try clear bn
        try clear Zm
        try clear p2
        try clear p6
        (try clear HA);(try clear Aq);(try clear Oc);(try clear oa);(try clear HB);obtain ⟨Vo,zf,af,rfl,rfl,HA,Aq,Oc,oa,HB⟩:=hrel;cases gk with
        | zero=>exact absurd HA.out (by simp [xb.l2])
        | succ k3 =>
         have H:=HA.out;clear HA;simp only [xb.l2] at H
         by_cases yt:af ≥ 0
         ·rw [if_pos yt] at H;have Hp:decide (0 ≤ af)=true:=decide_eq_true yt;clear yt
          by_cases dr:0 ≤ af
          ·rw [if_pos dr] at H;have qp:decide (0 ≤ af)=true:=decide_eq_true dr;clear dr
           by_cases lp:af < (Aa.length:Int)
           ·rw [if_pos lp] at H;have yw:decide (af < (Aa.length:Int))=true:=decide_eq_true lp;clear lp;replace H:=Option.bind_eq_some_iff.mp H;obtain ⟨t112,sZ,H⟩:=H;replace H:(xb.l3 k3 Vo zf af t112 0 Qa Ja Ga Ia Aa)=some r:=H;have IV:=ga.mk sZ;clear sZ;have H':=ga.mk H;clear H;have JE:wr.cell? ⟨ya,0,none⟩=some (.slice Ya Qa.length Za):=(ia oa.out 0).trans rfl;have IE:wr.cell? ⟨ya,1,none⟩=some (.int .i64 Ja):=(ia oa.out 1).trans rfl;have FE:wr.cell? ⟨ya,2,none⟩=some (.int .i64 Ga):=(ia oa.out 2).trans rfl;have EE:wr.cell? ⟨ya,3,none⟩=some (.int .i64 Ia):=(ia oa.out 3).trans rfl;have DE:wr.cell? ⟨ya,4,none⟩=some (.slice Mb Aa.length Cb):=(ia oa.out 4).trans rfl;have mE:=aa oa.out 0;have lE:=aa oa.out 1;have kE:=aa oa.out 2;have jE:=aa oa.out 3;have iE:=aa oa.out 4;have dW:0 ≤ (af:Int):=Ua;have cW:af < (Aa.length:Int):=Ua;obtain ⟨rm,Aad,Qab,Iaw,TD,SD,RD,QD,PD,rQ,zQ⟩:=sj xg.out af dW cW;cases Iaw
            try replace TD:=Sa HB.out TD
            try replace SD:=Sa HB.out SD
            try replace RD:=Sa HB.out RD
            try replace QD:=Sa HB.out QD
            try replace PD:=Sa HB.out PD
            have V6:=ga.mk zQ;have B7:=ga.mk rQ;clear zQ rQ;replace dW:=eq_true dW;replace cW:=eq_true cW;go_wp2_with (first|((with_reducible refine yb (f:=72) rfl ?_);refine Pc (some 39) rfl rfl Try.func72 (by kernel_rfl) rfl #[.agg #[.slice Aad ((za Aa af).f0).length Qab,.int .i64 ((za Aa af).f1),.int .i64 ((za Aa af).f2),.int .i64 ((za Aa af).f3),.int .i64 ((za Aa af).f4)]] rfl waH ?_;(with_reducible refine (Cl.calls _ _ ((za Aa af).f0) ((za Aa af).f1) ((za Aa af).f2) ((za Aa af).f3) ((za Aa af).f4) t112 _ ?Uc ?Tc IV.out).mono ?_);(case Uc=>repeat (first|exact (Kd.Nb V6.out HB.out)|(with_reducible refine Kd.dc ?_ _)|(with_reducible refine Kd.Zb ?_ _)|(with_reducible refine Kd.Fc ?_)));(case Tc=>exact B7.out);rintro e fH ⟨Tat,rfl,Lk,hb⟩;refine ⟨_,rfl,?_⟩;have Eb:=ga.mk (Kd.Oh oaI hb);have Fb:=ga.mk (Kd.Nd Lk (La taH));have Ob:=ga.mk (Va (g:=ya) (o:=.cells #[.slice Ya Qa.length Za,.int .i64 Ja,.int .i64 Ga,.int .i64 Ia,.slice (some rm) Aa.length Cb] 30 (0,0)) vaH hb);have Ec:=ga.mk (Ra taH hb);clear Oc oa HB;have Oc:=Eb;have Tak:=Fb;have oa:=Ob;have HB:=Ec;clear Eb Fb Ob Ec;(try clear hb);(try clear Uj);(try clear hk);(try clear hi);(try clear Lk)))
            go_loopg [5,8] k3 (fun kq v5 v8 w'=>∃ (Lz:List (List Bool)) (rU:Bool) (bg:Int),v5 = .bool rU∧v8 = .int .i64 bg∧ga (xb.l3 kq Lz rU af t112 bg Qa Ja Ga Ia Aa=some r)∧ga (kq ≤ k3)∧ga (Kd.S (Kd.slice 4 Kd.bool) 60 w' w.heap.size (fun _=>True) u3 Lz)∧ga (Kd.R (Kd.int .i64) 3 w' w.heap.size (fun _=>True) Tat t112)∧ga (w'.heap[ya]? = some (.cells #[(.slice Ya Qa.length Za),.int .i64 Ja,.int .i64 Ga,.int .i64 Ia,(.slice (some rm) Aa.length Cb)] 30 (0,0)))∧ga (Below w.heap.size w w'))
            case atStart=>exact ⟨(Vo),(zf),(0),AaH,AaH,H',⟨Nat.le_refl _⟩,⟨YaH⟩,⟨by (with_reducible repeat (first|apply Kd.Xa|apply Kd.Wa|apply Kd.gb));exact Tak.out⟩,⟨zaH⟩,⟨xaH⟩⟩
            case round =>
             clear H'
             try clear c1
             try clear p1
             try clear q1
             try clear hx1
             try clear p2
             try clear c4
             try clear c5
             try clear fk
             try clear c6
             try clear gp
             try clear ID
             try clear p6
             try clear c7
             try clear Xk
             try clear qt
             try clear c8
             try clear zB
             try clear KG
             try clear JG
             try clear LN
             try clear vD
             try clear yt
             try clear Hp
             try clear dr
             try clear qp
             try clear lp
             try clear yw
             try clear ij
             try clear fj
             try clear ej
             try clear cj
             try clear aj
             try clear Po
             try clear Oo
             try clear Mo
             try clear Lo
             try clear Ko
             try clear JE
             try clear IE
             try clear FE
             try clear EE
             try clear DE
             try clear Ln
             try clear Kn
             try clear Jn
             try clear Gn
             try clear En
             try clear Zi
             try clear Yi
             try clear Xi
             try clear Wi
             try clear Vi
             try clear Jo
             try clear Io
             try clear Ho
             try clear Fo
             try clear Eo
             try clear mE
             try clear lE
             try clear kE
             try clear jE
             try clear iE
             try clear gn
             try clear en
             try clear dn
             try clear bn
             try clear Zm
             try clear TD
             try clear SD
             try clear RD
             try clear QD
             try clear PD
             try clear dW
             try clear p2
             try clear p6
             try clear cW
             (try clear HA);(try clear aH);(try clear Oc);(try clear yg);(try clear oa);(try clear HB);obtain ⟨Lz,rU,bg,rfl,rfl,HA,aH,Oc,yg,oa,HB⟩:=hrel;cases gk with
             | zero=>exact absurd HA.out (by simp [xb.l3])
             | succ k4 =>
              have H:=HA.out;clear HA;simp only [xb.l3] at H
              by_cases Yy:bg < (t112.length:Int)
              ·rw [if_pos Yy] at H;have uD:decide (bg < (t112.length:Int))=true:=decide_eq_true Yy;clear Yy
               by_cases CH:0 ≤ bg
               ·rw [if_pos CH] at H;have zT:decide (0 ≤ bg)=true:=decide_eq_true CH;clear CH
                by_cases JD:0 ≤ (rd t112 bg)
                ·rw [if_pos JD] at H;have rM:decide (0 ≤ (rd t112 bg))=true:=decide_eq_true JD;clear JD
                 by_cases Jz:(rd t112 bg) < (Aa.length:Int)
                 ·rw [if_pos Jz] at H;have BH:decide ((rd t112 bg) < (Aa.length:Int))=true:=decide_eq_true Jz;clear Jz
                  by_cases PE:(rd t112 bg) < (Lz.length:Int)
                  ·rw [if_pos PE] at H;have qM:decide ((rd t112 bg) < (Lz.length:Int))=true:=decide_eq_true PE;clear PE;replace H:=Option.bind_eq_some_iff.mp H;obtain ⟨t119,Oal,H⟩:=H;replace H:(xb.l4 k4 Lz rU af t112 bg t119 0 Qa Ja Ga Ia Aa)=some r:=H;have A28:=ga.mk Oal;clear Oal;have H':=ga.mk H;clear H;obtain ⟨Zax,Zai,rab⟩:=Kd.od yg.out;subst rab
                   try go_wp2
                   have Eb:=ga.mk (Kd.Qe Oc.out);have Fb:=ga.mk (Kd.gb yg.out);have Ob:=ga.mk (Fa oa.out);have Ec:=ga.mk (ta HB.out);clear Oc yg oa HB;have Oc:=Eb;have yg:=Fb;have oa:=Ob;have HB:=Ec;clear Eb Fb Ob Ec;have Q0:0 ≤ (bg:Int):=Ua;have M0:bg < (t112.length:Int):=Ua;obtain ⟨ET,Gaw,uI⟩:=Kd.Bi (Kd.Rb yg.out).2.2 bg Q0 M0;cases Gaw;replace Q0:=eq_true Q0;replace M0:=eq_true M0;have P0:0 ≤ ((rd t112 bg):Int):=Ua;have L0:(rd t112 bg) < (Aa.length:Int):=Ua;obtain ⟨Naj,wZ,qY,Faw,lA,kA,jA,iA,fA,oQ,wQ⟩:=sj xg.out (rd t112 bg) P0 L0;have fQ:=fA;have gQ:=iA;have iQ:=jA;have jQ:=kA;have kQ:=lA;obtain rfl:rm=Naj:=(by injection Faw)
                   try replace lA:=Sa HB.out lA
                   try replace kA:=Sa HB.out kA
                   try replace jA:=Sa HB.out jA
                   try replace iA:=Sa HB.out iA
                   try replace fA:=Sa HB.out fA
                   have aU:=ga.mk wQ;have o7:=ga.mk oQ;clear wQ oQ;replace P0:=eq_true P0;replace L0:=eq_true L0;have Wv:0 ≤ (bg:Int):=Ua;have Vv:bg < (t112.length:Int):=Ua;obtain ⟨DT,uO,Tt⟩:=Kd.Bi (Kd.Rb yg.out).2.2 bg Wv Vv;obtain rfl:ET=DT:=(by injection uO);replace Wv:=eq_true Wv;replace Vv:=eq_true Vv;obtain ⟨Yax,Aab,U5⟩:=Kd.Wj Oc.out;(first|subst U5|(injection U5 with f1_ f2_ f3_;have f4_:=f1_.symm;have f5_:=f3_.symm;clear f1_ f2_ f3_;subst f4_;subst f5_));have Mv:0 ≤ ((rd t112 bg):Int):=Ua;have Kv:(rd t112 bg) < (Lz.length:Int):=Ua;obtain ⟨BB,vZ,pY,tO,Ei,nQ,vQ⟩:=wv (Kd.Xe Oc.out).2.2 (rd t112 bg) Mv Kv;cases tO;obtain ⟨gaC,Uaa,aab,BX⟩:=Kd.FH Oc.out [] (rd t112 bg) Mv (by first|exact Kv|exact Ua|(have e_:=(Kd.Xe Oc.out).1;omega));obtain ⟨Zal,rfl,jK⟩:=aab;have JA:=BX 0 _ rfl;rw [Nat.add_zero,show ((Kd.slice 4 Kd.bool)).sz=1 from rfl,Nat.mul_one] at JA;replace JA:=Option.some.inj (JA.symm.trans Ei);rw [JA] at jK;have QB:=ga.mk (show Kd.R Kd.bool 4 _ _ _ _ (yd Lz (rd t112 bg)) from jK);clear JA jK;have VE:=ga.mk Ei;clear BX Uaa;have Bv:=ga.mk vQ;have n7:=ga.mk nQ;clear vQ nQ;replace Mv:=eq_true Mv;replace Kv:=eq_true Kv;refine uo (n:=17) (S:=fun w'=>w'.cell? ⟨ya,0,none⟩=some (.slice Ya Qa.length Za)∧w'.cell? ⟨ya,1,none⟩=some (.int .i64 Ja)∧w'.cell? ⟨ya,2,none⟩=some (.int .i64 Ga)∧w'.cell? ⟨ya,3,none⟩=some (.int .i64 Ia)∧w'.cell? ⟨ya,4,none⟩=some (.slice (some rm) Aa.length Cb)∧w'.cell? (ET.add (bg).toNat)=some (.int .i64 (rd t112 bg))∧w'.cell? (rm.add (((rd t112 bg)).toNat * 5))=some (.slice wZ ((za Aa (rd t112 bg)).f0).length qY)∧w'.cell? ⟨(rm.add (((rd t112 bg)).toNat * 5)).block,(rm.add (((rd t112 bg)).toNat * 5)).off + 1,none⟩=some (.int .i64 ((za Aa (rd t112 bg)).f1))∧w'.cell? ⟨(rm.add (((rd t112 bg)).toNat * 5)).block,(rm.add (((rd t112 bg)).toNat * 5)).off + 2,none⟩=some (.int .i64 ((za Aa (rd t112 bg)).f2))∧w'.cell? ⟨(rm.add (((rd t112 bg)).toNat * 5)).block,(rm.add (((rd t112 bg)).toNat * 5)).off + 3,none⟩=some (.int .i64 ((za Aa (rd t112 bg)).f3))∧w'.cell? ⟨(rm.add (((rd t112 bg)).toNat * 5)).block,(rm.add (((rd t112 bg)).toNat * 5)).off + 4,none⟩=some (.int .i64 ((za Aa (rd t112 bg)).f4))∧w'.cell? (ET.add (bg).toNat)=some (.int .i64 (rd t112 bg))∧w'.cell? (BB.add ((rd t112 bg)).toNat)=some (.slice vZ (yd Lz (rd t112 bg)).length pY)) (ds:=[]) #[false,false,false,false,false,false,false,false,false,false,false,false,false,false,false,false,false] (by kernel_rfl) rfl rfl ⟨(ia oa.out 0).trans rfl,(ia oa.out 1).trans rfl,(ia oa.out 2).trans rfl,(ia oa.out 3).trans rfl,(ia oa.out 4).trans rfl,uI,(Sa HB.out kQ),(Sa HB.out jQ),(Sa HB.out iQ),(Sa HB.out gQ),(Sa HB.out fQ),Tt,Ei⟩ (fun hHeld=>?_);refine qk xb.iae xb.Zab (fun Lg Gy=>?_);generalize wr.drew=GG at Oc yg oa HB QB aU Bv VE uI lA kA jA iA fA Tt Ei hHeld ⊢;refine Od (i:=0) (N:=some 46) (v:=?_) (a':=?_) #[true,false,false,false,false,false,false,false,false,false,false,false,false,false,false,false,false] rfl rfl (qd Lg.out (by kernel_rfl)) (fun _ _ _ h=>h) (Or.inl ⟨by rfl,?_⟩) ?_ ?_;rotate_left
                   ·intro w';go_simp;with_reducible rfl
                   rotate_left
                   ·simp only [Act.put,List.setIfInBounds_toArray,List.set_cons_zero,List.set_cons_succ,nc,oc]
                    rfl
                   refine Od (i:=2) (N:=some 48) (v:=?_) (a':=?_) #[true,false,true,false,false,false,false,false,false,false,false,false,false,false,false,false,false] rfl rfl (qd Lg.out (by kernel_rfl)) (fun _ _ _ h=>h) (Or.inl ⟨by rfl,?_⟩) ?_ ?_;rotate_left
                   ·intro w';go_simp;with_reducible rfl
                   rotate_left
                   ·simp only [Act.put,List.setIfInBounds_toArray,List.set_cons_zero,List.set_cons_succ,nc,oc]
                    rfl
                   refine Od (i:=3) (N:=some 49) (v:=?_) (a':=?_) #[true,false,true,true,false,false,false,false,false,false,false,false,false,false,false,false,false] rfl rfl (qd Lg.out (by kernel_rfl)) (fun _ _ _ h=>h) (Or.inl ⟨by rfl,?_⟩) ?_ ?_;rotate_left
                   ·intro w';go_simp;with_reducible rfl
                   rotate_left
                   ·simp only [Act.put,List.setIfInBounds_toArray,List.set_cons_zero,List.set_cons_succ,nc,oc]
                    rfl
                   refine Od (i:=4) (N:=some 50) (v:=?_) (a':=?_) #[true,false,true,true,true,false,false,false,false,false,false,false,false,false,false,false,false] rfl rfl (qd Lg.out (by kernel_rfl)) (fun _ _ _ h=>h) (Or.inl ⟨by rfl,?_⟩) ?_ ?_;rotate_left
                   ·intro w';go_simp;with_reducible rfl
                   rotate_left
                   ·simp only [Act.put,List.setIfInBounds_toArray,List.set_cons_zero,List.set_cons_succ,nc,oc]
                    rfl
                   refine Od (i:=8) (N:=some 54) (v:=?_) (a':=?_) #[true,false,true,true,true,false,false,false,true,false,false,false,false,false,false,false,false] rfl rfl (qd Lg.out (by kernel_rfl)) (fun _ _ _ h=>h) (Or.inl ⟨by rfl,?_⟩) ?_ ?_;rotate_left
                   ·intro w';go_simp;with_reducible rfl
                   rotate_left
                   ·simp only [Act.put,List.setIfInBounds_toArray,List.set_cons_zero,List.set_cons_succ,nc,oc]
                    rfl
                   refine Od (i:=9) (N:=some 55) (v:=?_) (a':=?_) #[true,false,true,true,true,false,false,false,true,true,false,false,false,false,false,false,false] rfl rfl (qd Lg.out (by kernel_rfl)) (fun _ _ _ h=>h) (Or.inl ⟨by rfl,?_⟩) ?_ ?_;rotate_left
                   ·intro w';go_simp;with_reducible rfl
                   rotate_left
                   ·simp only [Act.put,List.setIfInBounds_toArray,List.set_cons_zero,List.set_cons_succ,nc,oc]
                    rfl
                   refine Od (i:=10) (N:=some 56) (v:=?_) (a':=?_) #[true,false,true,true,true,false,false,false,true,true,true,false,false,false,false,false,false] rfl rfl (qd Lg.out (by kernel_rfl)) (fun _ _ _ h=>h) (Or.inl ⟨by rfl,?_⟩) ?_ ?_;rotate_left
                   ·intro w';go_simp;with_reducible rfl
                   rotate_left
                   ·simp only [Act.put,List.setIfInBounds_toArray,List.set_cons_zero,List.set_cons_succ,nc,oc]
                    rfl
                   refine Od (i:=11) (N:=some 57) (v:=?_) (a':=?_) #[true,false,true,true,true,false,false,false,true,true,true,true,false,false,false,false,false] rfl rfl (qd Lg.out (by kernel_rfl)) (fun _ _ _ h=>h) (Or.inl ⟨by rfl,?_⟩) ?_ ?_;rotate_left
                   ·intro w';go_simp;with_reducible rfl
                   rotate_left
                   ·simp only [Act.put,List.setIfInBounds_toArray,List.set_cons_zero,List.set_cons_succ,nc,oc]
                    rfl
                   refine Qh (i:=1) (N:=some 47) (v:=?_) (a':=?_) #[true,true,true,true,true,false,false,false,true,true,true,true,false,false,false,false,false] rfl rfl (Uf Lg.out Gy.out (by kernel_rfl)) (fun _ _ _ h=>h) (Or.inl ⟨by rfl,?_⟩) hHeld ?_ ?_;rotate_left
                   ·rintro w' ⟨s0,s1,s2,s3,s4,s5,s6,s7,s8,s9,IP,GP,FP⟩;go_simp;with_reducible rfl
                   rotate_left
                   ·simp only [Act.put,List.setIfInBounds_toArray,List.set_cons_zero,List.set_cons_succ,nc,oc]
                    rfl
                   refine Qh (i:=5) (N:=some 51) (v:=?_) (a':=?_) #[true,true,true,true,true,true,false,false,true,true,true,true,false,false,false,false,false] rfl rfl (Uf Lg.out Gy.out (by kernel_rfl)) (fun _ _ _ h=>h) (Or.inl ⟨by rfl,?_⟩) hHeld ?_ ?_;rotate_left
                   ·rintro w' ⟨s0,s1,s2,s3,s4,s5,s6,s7,s8,s9,IP,GP,FP⟩;go_simp;with_reducible rfl
                   rotate_left
                   ·simp only [Act.put,List.setIfInBounds_toArray,List.set_cons_zero,List.set_cons_succ,nc,oc]
                    rfl
                   refine Od (i:=6) (N:=some 52) (v:=?_) (a':=?_) #[true,true,true,true,true,true,true,false,true,true,true,true,false,false,false,false,false] rfl rfl (qd Lg.out (by kernel_rfl)) (fun _ _ _ h=>h) (Or.inl ⟨by rfl,?_⟩) ?_ ?_;rotate_left
                   ·intro w';go_simp;with_reducible rfl
                   rotate_left
                   ·simp only [Act.put,List.setIfInBounds_toArray,List.set_cons_zero,List.set_cons_succ,nc,oc]
                    rfl
                   refine Qh (i:=7) (N:=some 53) (v:=?_) (a':=?_) #[true,true,true,true,true,true,true,true,true,true,true,true,false,false,false,false,false] rfl rfl (Uf Lg.out Gy.out (by kernel_rfl)) (fun _ _ _ h=>h) (Or.inl ⟨by rfl,?_⟩) hHeld ?_ ?_;rotate_left
                   ·rintro w' ⟨s0,s1,s2,s3,s4,s5,s6,s7,s8,s9,IP,GP,FP⟩;go_simp;with_reducible rfl
                   rotate_left
                   ·simp only [Act.put,List.setIfInBounds_toArray,List.set_cons_zero,List.set_cons_succ,nc,oc]
                    rfl
                   refine Qh (i:=12) (N:=some 58) (v:=?_) (a':=?_) #[true,true,true,true,true,true,true,true,true,true,true,true,true,false,false,false,false] rfl rfl (Uf Lg.out Gy.out (by kernel_rfl)) (fun _ _ _ h=>h) (Or.inl ⟨by rfl,?_⟩) hHeld ?_ ?_;rotate_left
                   ·rintro w' ⟨s0,s1,s2,s3,s4,s5,s6,s7,s8,s9,IP,GP,FP⟩;go_simp;with_reducible rfl
                   rotate_left
                   ·simp only [Act.put,List.setIfInBounds_toArray,List.set_cons_zero,List.set_cons_succ,nc,oc]
                    rfl
                   refine Od (i:=13) (N:=some 59) (v:=?_) (a':=?_) #[true,true,true,true,true,true,true,true,true,true,true,true,true,true,false,false,false] rfl rfl (qd Lg.out (by kernel_rfl)) (fun _ _ _ h=>h) (Or.inl ⟨by rfl,?_⟩) ?_ ?_;rotate_left
                   ·intro w';go_simp;with_reducible rfl
                   rotate_left
                   ·simp only [Act.put,List.setIfInBounds_toArray,List.set_cons_zero,List.set_cons_succ,nc,oc]
                    rfl
                   refine Qh (i:=14) (N:=some 60) (v:=?_) (a':=?_) #[true,true,true,true,true,true,true,true,true,true,true,true,true,true,true,false,false] rfl rfl (Uf Lg.out Gy.out (by kernel_rfl)) (fun _ _ _ h=>h) (Or.inl ⟨by rfl,?_⟩) hHeld ?_ ?_;rotate_left
                   ·rintro w' ⟨s0,s1,s2,s3,s4,s5,s6,s7,s8,s9,IP,GP,FP⟩;go_simp;with_reducible rfl
                   rotate_left
                   ·simp only [Act.put,List.setIfInBounds_toArray,List.set_cons_zero,List.set_cons_succ,nc,oc]
                    rfl
                   refine rz (i:=15) (N:=some 61) #[true,true,true,true,true,true,true,true,true,true,true,true,true,true,true,true,false] rfl rfl (Qt Lg.out (by kernel_rfl)) (by decide) (fun K hK=>?_);refine Hv Try.func54 (by kernel_rfl) rfl #[.agg #[.slice wZ ((za Aa (rd t112 bg)).f0).length qY,.int .i64 ((za Aa (rd t112 bg)).f1),.int .i64 ((za Aa (rd t112 bg)).f2),.int .i64 ((za Aa (rd t112 bg)).f3),.int .i64 ((za Aa (rd t112 bg)).f4)],.slice vZ (yd Lz (rd t112 bg)).length pY] (by rfl) rfl rfl waH ?_;with_reducible refine (cg.calls k4 _ _ ((za Aa (rd t112 bg)).f0) ((za Aa (rd t112 bg)).f1) ((za Aa (rd t112 bg)).f2) ((za Aa (rd t112 bg)).f3) ((za Aa (rd t112 bg)).f4) _ _ (yd Lz (rd t112 bg)) t119 _ ?Uc ?Tc ?we ?ue A28.out).mono ?_
                   (case Uc=>repeat (first|exact (Kd.Nb aU.out HB.out)|(with_reducible refine Kd.dc ?_ _)|(with_reducible refine Kd.Zb ?_ _)|(with_reducible refine Kd.Fc ?_)))
                   (case Tc=>exact o7.out)
                   (case we=>repeat (first|exact (by repeat (first|(with_reducible exact Bv.out)|(with_reducible refine Kd.dc ?_ _)|(with_reducible refine Kd.Zb ?_ _)|(with_reducible refine Kd.Fc ?_)|exact Bv.out))|(with_reducible refine Kd.dc ?_ _)|(with_reducible refine Kd.Zb ?_ _)|(with_reducible refine Kd.Fc ?_)))
                   (case ue=>exact n7.out)
                   rintro e XM ⟨L_,rfl,Lk,hb⟩;have iax:=(hb.cell (World.block_lt_of_cell? _ _ (hHeld.2.2.2.2.2.1))).trans (hHeld.2.2.2.2.2.1);have Eak:=(hb.cell (World.block_lt_of_cell? _ _ (hHeld.2.2.2.2.2.2.2.2.2.2.2.1))).trans (hHeld.2.2.2.2.2.2.2.2.2.2.2.1);have Dak:=(hb.cell (World.block_lt_of_cell? _ _ (hHeld.2.2.2.2.2.2.2.2.2.2.2.2))).trans (hHeld.2.2.2.2.2.2.2.2.2.2.2.2);refine ⟨_,rfl,?_⟩;have Eb:=ga.mk (Kd.Aw oaI (Kd.Av Lk) hb);have Fb:=ga.mk (Kd.ld iaI hb);have Ob:=ga.mk (Kd.Bw (by (with_reducible repeat (first|apply Kd.Xa|apply Kd.Wa|apply Kd.gb));exact QB.out) (Kd.Av Lk) hb);have Ec:=ga.mk (Kd.Nd (Kd.kG Lk (Kd.UO (by (with_reducible repeat (first|apply Kd.Xa|apply Kd.Wa|apply Kd.gb));exact QB.out))) (La taH));have gf:=ga.mk (Va (g:=ya) (o:=.cells #[.slice Ya Qa.length Za,.int .i64 Ja,.int .i64 Ga,.int .i64 Ia,.slice (some rm) Aa.length Cb] 30 (0,0)) vaH hb);have Zf:=ga.mk (Kd.Nb (by repeat (first|(with_reducible exact Bv.out)|(with_reducible refine Kd.dc ?_ _)|(with_reducible refine Kd.Zb ?_ _)|(with_reducible refine Kd.Fc ?_)|exact Bv.out)) hb);have gh:=ga.mk (Bo hb VE.out);have lD:=ga.mk (Ra taH hb);clear Oc yg QB oa Bv VE HB;have Oc:=Eb;have yg:=Fb;have QB:=Ob;have iZ:=Ec;have oa:=gf;have Bv:=Zf;have VE:=gh;have HB:=lD;clear Eb Fb Ob Ec gf Zf gh lD;(try clear hb);(try clear Uj);(try clear hk);(try clear hi);(try clear Lk);refine hK.out _ _ ⟨(ia oa.out 0).trans rfl,(ia oa.out 1).trans rfl,(ia oa.out 2).trans rfl,(ia oa.out 3).trans rfl,(ia oa.out 4).trans rfl,iax,(Sa HB.out kQ),(Sa HB.out jQ),(Sa HB.out iQ),(Sa HB.out gQ),(Sa HB.out fQ),Eak,Dak⟩ (fun hHeld=>?_);clear hK K;refine Dq (a':=?_) ?_ ?_;rotate_left
                   ·show Act.put _ (some 61) _=_
                    simp only [Act.put,List.setIfInBounds_toArray,List.set_cons_zero,List.set_cons_succ,nc,oc]
                    rfl
                   refine Od (i:=16) (N:=some 9) (v:=?_) (a':=?_) #[true,true,true,true,true,true,true,true,true,true,true,true,true,true,true,true,true] rfl rfl (qd Lg.out (by kernel_rfl)) (fun _ _ _ h=>h) (Or.inl ⟨by rfl,?_⟩) ?_ ?_;rotate_left
                   ·intro w';go_simp;with_reducible rfl
                   rotate_left
                   ·simp only [Act.put,List.setIfInBounds_toArray,List.set_cons_zero,List.set_cons_succ,nc,oc]
                    rfl
                   refine ot (Ro Lg.out (by kernel_rfl)) ?_
                   try go_wp2
                   go_loopg [5,10] k4 (fun kq v5 v10 w'=>∃ (Sh:List (List Bool)) (BD:Bool) (Ap:List Bool) (uf:Int),v5 = .bool BD∧v10 = .int .i64 uf∧ga (xb.l4 kq Sh BD af t112 bg Ap uf Qa Ja Ga Ia Aa=some r)∧ga (kq ≤ k4)∧ga (Kd.S (Kd.slice 4 Kd.bool) 60 w' w.heap.size (fun k_=>some k_ ≠ (L_:Value).ownBlock) (.slice (some BB) Lz.length Aab) Sh)∧ga (Kd.R (Kd.int .i64) 3 w' w.heap.size (fun _=>True) (.slice (some ET) t112.length Zai) t112)∧ga (Kd.R Kd.bool 4 w' w.heap.size (fun _=>True) L_ Ap)∧ga (w'.heap[ya]? = some (.cells #[(.slice Ya Qa.length Za),.int .i64 Ja,.int .i64 Ga,.int .i64 Ia,(.slice (some rm) Aa.length Cb)] 30 (0,0)))∧ga (Below w.heap.size w w'))
                   case atStart=>exact ⟨(Lz),(rU),(t119),(0),AaH,AaH,H',⟨Nat.le_refl _⟩,⟨by (with_reducible repeat (first|apply Kd.fe|apply Kd.ee|apply Kd.Qe));exact Kd.Ah Oc.out (fun _ hk=>hk.2)⟩,⟨RaH⟩,⟨by (with_reducible repeat (first|apply Kd.Xa|apply Kd.Wa|apply Kd.gb));exact Kd.xd iZ.out (fun _ hk=>trivial)⟩,⟨zaH⟩,⟨xaH⟩⟩
                   case round =>
                    clear H'
                    try clear c1
                    try clear p1
                    try clear q1
                    try clear hx1
                    try clear c2
                    try clear p2
                    try clear c4
                    try clear c5
                    try clear fk
                    try clear c6
                    try clear gp
                    try clear ID
                    try clear p6
                    try clear c7
                    try clear Xk
                    try clear qt
                    try clear c8
                    try clear zB
                    try clear KG
                    try clear JG
                    try clear LN
                    try clear vD
                    try clear yt
                    try clear Hp
                    try clear dr
                    try clear qp
                    try clear lp
                    try clear yw
                    try clear Yy
                    try clear uD
                    try clear CH
                    try clear zT
                    try clear JD
                    try clear rM
                    try clear Jz
                    try clear BH
                    try clear PE
                    try clear qM
                    try clear ij
                    try clear fj
                    try clear ej
                    try clear cj
                    try clear aj
                    try clear Po
                    try clear Oo
                    try clear Mo
                    try clear Lo
                    try clear Ko
                    try clear JE
                    try clear IE
                    try clear FE
                    try clear EE
                    try clear DE
                    try clear Ln
                    try clear Kn
                    try clear Jn
                    try clear Gn
                    try clear En
                    try clear Zi
                    try clear Yi
                    try clear Xi
                    try clear Wi
                    try clear Vi
                    try clear Jo
                    try clear Io
                    try clear Ho
                    try clear Fo
                    try clear Eo
                    try clear mE
                    try clear lE
                    try clear kE
                    try clear jE
                    try clear iE
                    try clear gn
                    try clear en
                    try clear dn
                    try clear bn
                    try clear Zm
                    try clear TD
                    try clear SD
                    try clear RD
                    try clear QD
                    try clear PD
                    try clear uI
                    try clear lA
                    try clear kA
                    try clear jA
                    try clear iA
                    try clear fA
                    try clear Tt
                    try clear Ei
                    try clear p1
                    try clear KG
                    try clear dW
                    try clear Q0
                    try clear P0
                    try clear Wv
                    try clear Mv
                    try clear p2
                    try clear p6
                    try clear q1
                    try clear JG
                    try clear cW
                    try clear M0
                    try clear L0
                    try clear Vv
                    try clear Kv
                    (try clear HA);(try clear b7);(try clear Oc);(try clear yg);(try clear ni);(try clear oa);(try clear HB);obtain ⟨Sh,BD,Ap,uf,rfl,rfl,HA,b7,Oc,yg,ni,oa,HB⟩:=hrel;have Mk:=(Kd.Xe Oc.out).1;rw [Mk] at Oc;(try simp only [Mk]);(try simp only [Mk] at oa);(try simp only [Mk] at yg);(try simp only [Mk] at ni);cases gk with
                    | zero=>exact absurd HA.out (by simp [xb.l4])
                    | succ k5 =>
                     have H:=HA.out;clear HA;simp only [xb.l4] at H
                     by_cases YK:uf < Ia
                     ·rw [if_pos YK] at H;have mY:decide (uf < Ia)=true:=decide_eq_true YK;clear YK
                      by_cases Iz:0 ≤ uf
                      ·rw [if_pos Iz] at H;have AH:decide (0 ≤ uf)=true:=decide_eq_true Iz;clear Iz
                       by_cases UB:uf < (Ap.length:Int)
                       ·rw [if_pos UB] at H;have wT:decide (uf < (Ap.length:Int))=true:=decide_eq_true UB;clear UB;obtain ⟨Gaj,JX⟩:∃ b_:Bool,b_=(Vf false Ap uf):=⟨_,rfl⟩;replace H:(if Gaj=true then (if 0 ≤ af then (if af < (Sh.length:Int) then (if uf < ((yd Sh af).length:Int) then (if (Vf false (yd Sh af) uf=true) then (xb.l4 k5 Sh BD af t112 bg Ap (wrap64 (uf + 1)) Qa Ja Ga Ia Aa) else (xb.l4 k5 (Sh.set (af:Int).toNat ((yd Sh af).set (uf:Int).toNat true)) true af t112 bg Ap (wrap64 (uf + 1)) Qa Ja Ga Ia Aa)) else (none)) else (none)) else (none)) else (xb.l4 k5 Sh BD af t112 bg Ap (wrap64 (uf + 1)) Qa Ja Ga Ia Aa))=some r:=by rw [← JX] at H;exact H
                        have JM:=ga.mk JX;clear JX
                        by_cases lV:Gaj=true
                        ·subst lV;have H1:(if 0 ≤ af then (if af < (Sh.length:Int) then (if uf < ((yd Sh af).length:Int) then (if (Vf false (yd Sh af) uf=true) then (xb.l4 k5 Sh BD af t112 bg Ap (wrap64 (uf + 1)) Qa Ja Ga Ia Aa) else (xb.l4 k5 (Sh.set (af:Int).toNat ((yd Sh af).set (uf:Int).toNat true)) true af t112 bg Ap (wrap64 (uf + 1)) Qa Ja Ga Ia Aa)) else (none)) else (none)) else (none))=some r:=by rw [if_pos rfl] at H;exact H
                         clear H;have H:=H1;clear H1
                         by_cases XK:0 ≤ af
                         ·rw [if_pos XK] at H;have vT:decide (0 ≤ af)=true:=decide_eq_true XK;clear XK
                          by_cases bN:af < (Sh.length:Int)
                          ·rw [if_pos bN] at H;have Q8:decide (af < (Sh.length:Int))=true:=decide_eq_true bN;clear bN
                           by_cases c40:uf < ((yd Sh af).length:Int)
                           ·rw [if_pos c40] at H;have laC:decide (uf < ((yd Sh af).length:Int))=true:=decide_eq_true c40;clear c40;obtain ⟨Faj,IX⟩:∃ b_:Bool,b_=(Vf false (yd Sh af) uf):=⟨_,rfl⟩;replace H:(if (Faj=true) then (xb.l4 k5 Sh BD af t112 bg Ap (wrap64 (uf + 1)) Qa Ja Ga Ia Aa) else (xb.l4 k5 (Sh.set (af:Int).toNat ((yd Sh af).set (uf:Int).toNat true)) true af t112 bg Ap (wrap64 (uf + 1)) Qa Ja Ga Ia Aa))=some r:=by rw [← IX] at H;exact H
                            have TT:=ga.mk IX;clear IX
                            by_cases c42:(Faj=true)
                            ·subst c42;have H1:(xb.l4 k5 Sh BD af t112 bg Ap (wrap64 (uf + 1)) Qa Ja Ga Ia Aa)=some r:=by rw [if_pos rfl] at H;exact H
                             clear H;have H:=H1;clear H1;have H':=ga.mk H;clear H;have nS:wr.cell? ⟨ya,0,none⟩=some (.slice Ya Qa.length Za):=(ia oa.out 0).trans rfl;have mS:wr.cell? ⟨ya,1,none⟩=some (.int .i64 Ja):=(ia oa.out 1).trans rfl;have lS:wr.cell? ⟨ya,2,none⟩=some (.int .i64 Ga):=(ia oa.out 2).trans rfl;have kS:wr.cell? ⟨ya,3,none⟩=some (.int .i64 Ia):=(ia oa.out 3).trans rfl;have jS:wr.cell? ⟨ya,4,none⟩=some (.slice (some rm) Aa.length Cb):=(ia oa.out 4).trans rfl;have VQ:=aa oa.out 0;have UQ:=aa oa.out 1;have TQ:=aa oa.out 2;have SQ:=aa oa.out 3;have RQ:=aa oa.out 4;obtain ⟨jaG,CaE,xaw⟩:=Kd.od ni.out;subst xaw;have qF:0 ≤ (uf:Int):=Ua;have pF:uf < (Ap.length:Int):=Ua;obtain ⟨yY,ZX,Rt⟩:=Kd.lg (Kd.Rb ni.out).2.2 uf qF pF;(try rw [← JM.out] at Rt);(try rw [← TT.out] at Rt);cases ZX;replace qF:=eq_true qF;replace pF:=eq_true pF;have eI:0 ≤ (af:Int):=Ua;have bI:af < (Sh.length:Int):=Ua;obtain ⟨xY,xad,BO,uab,Pw,OA,RA⟩:=wv (Kd.Xe Oc.out).2.2 af eI bI;obtain rfl:BB=xY:=(by injection uab);obtain ⟨caj,SN,UN,MF⟩:=Kd.FH Oc.out [] af eI (by first|exact bI|exact Ua|(have e_:=(Kd.Xe Oc.out).1;omega));obtain ⟨WZ,rfl,nv⟩:=UN;have Wm:=MF 0 _ rfl;rw [Nat.add_zero,show ((Kd.slice 4 Kd.bool)).sz=1 from rfl,Nat.mul_one] at Wm;replace Wm:=Option.some.inj (Wm.symm.trans Pw);rw [Wm] at nv;have eU:=ga.mk (show Kd.R Kd.bool 4 _ _ _ _ (yd Sh af) from nv);clear Wm nv;have M6:=ga.mk Pw;clear MF SN;have JB:=ga.mk RA;have m7:=ga.mk OA;clear RA OA;replace eI:=eq_true eI;replace bI:=eq_true bI;have oz:0 ≤ (uf:Int):=Ua;have jz:uf < ((yd Sh af).length:Int):=Ua;obtain ⟨wY,rO,Zl⟩:=Kd.lg (by repeat (first|(with_reducible exact JB.out)|(with_reducible refine Kd.dc ?_ _)|(with_reducible refine Kd.Zb ?_ _)|(with_reducible refine Kd.Fc ?_)|exact JB.out)) uf oz jz;(try rw [← JM.out] at Zl);(try rw [← TT.out] at Zl);cases rO;replace oz:=eq_true oz;replace jz:=eq_true jz;go_wp2;(try simp only [← Mk])
                             go_roundg k5
                             case measure=>have:=wg.out;have:=zl.out;have:=Aq.out;have:=aH.out;have:=b7.out;omega
                             case rel=>exact ⟨(Sh),(BD),(Ap),(wrap64 (uf + 1)),AaH,AaH,H',⟨by have:=wg.out;have:=zl.out;have:=Aq.out;have:=aH.out;have:=b7.out;omega⟩,⟨by (try simp only [Mk]);(with_reducible repeat (first|apply Kd.fe|apply Kd.ee|apply Kd.Qe));exact Oc.out⟩,⟨by (try simp only [Mk]);(with_reducible repeat (first|apply Kd.Xa|apply Kd.Wa|apply Kd.gb));exact yg.out⟩,⟨by (try simp only [Mk]);(with_reducible repeat (first|apply Kd.Xa|apply Kd.Wa|apply Kd.gb));exact ni.out⟩,⟨by (try simp only [Mk]);(with_reducible repeat (first|refine Ca ?_ _|refine Fa ?_|refine Da ?_ _));exact oa.out⟩,⟨xaH⟩⟩
                            ·replace c42:=Bool.eq_false_iff.mpr c42;subst c42;have H1:(xb.l4 k5 (Sh.set (af:Int).toNat ((yd Sh af).set (uf:Int).toNat true)) true af t112 bg Ap (wrap64 (uf + 1)) Qa Ja Ga Ia Aa)=some r:=by rw [if_neg (show ¬ (false=true) by decide)] at H;exact H
                             clear H;have H:=H1;clear H1;obtain ⟨B_,yL⟩:∃ y_:List Bool,y_=((yd Sh af).set (uf:Int).toNat true):=⟨_,rfl⟩;replace H:(xb.l4 k5 (Sh.set (af:Int).toNat B_) true af t112 bg Ap (wrap64 (uf + 1)) Qa Ja Ga Ia Aa)=some r:=by first|(rw [yL];with_reducible exact H)|(have Ed:=(Option.bind_some _ _).symm.trans H;rw [yL];with_reducible exact Ed)|(have Ed:=(Option.bind_some _ _).symm.trans H;with_reducible exact Ed)|with_reducible exact H|(rw [yL];exact H)|exact H
                             have Uaj:=ga.mk yL;clear yL;obtain ⟨oU,ew⟩:∃ y_:List (List Bool),y_=(Sh.set (af:Int).toNat B_):=⟨_,rfl⟩;replace H:(xb.l4 k5 oU true af t112 bg Ap (wrap64 (uf + 1)) Qa Ja Ga Ia Aa)=some r:=by first|(rw [ew];with_reducible exact H)|(have Ed:=(Option.bind_some _ _).symm.trans H;rw [ew];with_reducible exact Ed)|(have Ed:=(Option.bind_some _ _).symm.trans H;with_reducible exact Ed)|with_reducible exact H|(rw [ew];exact H)|exact H
                             have PY:=ga.mk ew;clear ew;have H':=ga.mk H;clear H;have fS:wr.cell? ⟨ya,0,none⟩=some (.slice Ya Qa.length Za):=(ia oa.out 0).trans rfl;have eS:wr.cell? ⟨ya,1,none⟩=some (.int .i64 Ja):=(ia oa.out 1).trans rfl;have dS:wr.cell? ⟨ya,2,none⟩=some (.int .i64 Ga):=(ia oa.out 2).trans rfl;have cS:wr.cell? ⟨ya,3,none⟩=some (.int .i64 Ia):=(ia oa.out 3).trans rfl;have bS:wr.cell? ⟨ya,4,none⟩=some (.slice (some rm) Aa.length Cb):=(ia oa.out 4).trans rfl;have MQ:=aa oa.out 0;have LQ:=aa oa.out 1;have KQ:=aa oa.out 2;have JQ:=aa oa.out 3;have IQ:=aa oa.out 4;obtain ⟨Xax,Xai,qab⟩:=Kd.od ni.out;subst qab;have qF:0 ≤ (uf:Int):=Ua;have pF:uf < (Ap.length:Int):=Ua;obtain ⟨yY,ZX,Rt⟩:=Kd.lg (Kd.Rb ni.out).2.2 uf qF pF;(try rw [← JM.out] at Rt);(try rw [← TT.out] at Rt);cases ZX;replace qF:=eq_true qF;replace pF:=eq_true pF;have eI:0 ≤ (af:Int):=Ua;have bI:af < (Sh.length:Int):=Ua;obtain ⟨xY,xad,BO,uab,Pw,OA,RA⟩:=wv (Kd.Xe Oc.out).2.2 af eI bI;obtain rfl:BB=xY:=(by injection uab);obtain ⟨caj,SN,UN,MF⟩:=Kd.FH Oc.out [] af eI (by first|exact bI|exact Ua|(have e_:=(Kd.Xe Oc.out).1;omega));obtain ⟨WZ,rfl,nv⟩:=UN;have Wm:=MF 0 _ rfl;rw [Nat.add_zero,show ((Kd.slice 4 Kd.bool)).sz=1 from rfl,Nat.mul_one] at Wm;replace Wm:=Option.some.inj (Wm.symm.trans Pw);rw [Wm] at nv;have eU:=ga.mk (show Kd.R Kd.bool 4 _ _ _ _ (yd Sh af) from nv);clear Wm nv;have M6:=ga.mk Pw;clear MF SN;have JB:=ga.mk RA;have m7:=ga.mk OA;clear RA OA;replace eI:=eq_true eI;replace bI:=eq_true bI;have oz:0 ≤ (uf:Int):=Ua;have jz:uf < ((yd Sh af).length:Int):=Ua;obtain ⟨wY,rO,Zl⟩:=Kd.lg (by repeat (first|(with_reducible exact JB.out)|(with_reducible refine Kd.dc ?_ _)|(with_reducible refine Kd.Zb ?_ _)|(with_reducible refine Kd.Fc ?_)|exact JB.out)) uf oz jz;(try rw [← JM.out] at Zl);(try rw [← TT.out] at Zl);cases rO;replace oz:=eq_true oz;replace jz:=eq_true jz;have O0:0 ≤ (af:Int):=Ua;have K0:af < (Sh.length:Int):=Ua;obtain ⟨Maj,fay,Saw,Eaw,tI,mQ,uQ⟩:=wv (Kd.Xe Oc.out).2.2 af O0 K0;obtain rfl:BB=Maj:=(by injection Eaw);obtain ⟨faC,Taa,Zaa,AX⟩:=Kd.FH Oc.out [] af O0 (by first|exact K0|exact Ua|(have e_:=(Kd.Xe Oc.out).1;omega));obtain ⟨Yal,rfl,iK⟩:=Zaa;have IA:=AX 0 _ rfl;rw [Nat.add_zero,show ((Kd.slice 4 Kd.bool)).sz=1 from rfl,Nat.mul_one] at IA;replace IA:=Option.some.inj (IA.symm.trans tI);rw [IA] at iK;have Iy:=ga.mk (show Kd.R Kd.bool 4 _ _ _ _ (yd Sh af) from iK);clear IA iK;have L6:=ga.mk tI;clear AX Taa;have jat:=ga.mk uQ;have vat:=ga.mk mQ;clear uQ mQ;replace O0:=eq_true O0;replace K0:=eq_true K0;have qj:=Option.some.inj (Pw.symm.trans tI);injection qj with qj sw tw
                             subst qj;subst tw;clear sw;have p45:0 ≤ (uf:Int):=Ua;have q45:(uf:Int) < (((yd Sh af).length:Int):Int):=Ua;obtain ⟨P5,BaE,Rai,Fai,baw,GaE,lal⟩:=Kd.Xj Iy.out (by omega);(first|cases Rai|(injection Rai with qj sw tw;(first|subst qj|(injection qj with qj;subst qj));subst tw;clear sw));have Oax:=ga.mk Fai;have OaF:=ga.mk lal;clear Fai baw lal;(first|simp only [add_plain] at Zl|skip);obtain ⟨rau,Bav⟩:=Kd.Yh false Iy.out (uf:Int) p45 q45;replace p45:=eq_true p45;replace q45:=eq_true q45;have Fau:(af:Int) < (Sh.length:Int):=(by have h_:(af:Int) < ((Sh.length:Int):Int):=Ua;first|exact h_|(have e_:=(Kd.Xe Oc.out).1;omega)|simpa only [List.length_set,List.length_set] using h_);obtain ⟨uae,PaE,nai,Uav,K8,Q7,M8⟩:=Kd.HY Oc.out [] (af:Int) (Ua) Fau;obtain ⟨Mat,rfl,gK⟩:=Uav;have J1:=K8 0 _ rfl;rw [Nat.add_zero,show ((Kd.slice 4 Kd.bool)).sz=1 from rfl,Nat.mul_one] at J1;replace J1:=Option.some.inj (J1.symm.trans L6.out);subst J1;clear K8 nai;replace gK:=(show Kd.R Kd.bool 4 _ _ _ _ (yd Sh af) from gK);have Mac:=Kd.Ml gK (uf:Int) true;go_wp2_with (first|((with_reducible refine Ke (t:=4) (p:=87) rfl ?_);refine me (t:=4) (p:=87) (v:=?Cat) (w1:=(wr.setCell ⟨P5,(uf:Int).toNat,none⟩ (.bool true))) ?hg ?ho ?hn ?hr ?_;(case ho=>rfl);(case hg=>rfl);(case hn=>rfl);(case hr=>first|(go_simp;done)|(go_simp;rfl));intro w49 hw;have hg:wr.grownBy w49 (some P5):=(by rw [hw];exact Mac.2);have KN:Kd.R Kd.bool 4 w49 w.heap.size uae (.slice (some ⟨P5,0,none⟩) (yd Sh af).length BO) B_:=(by rw [hw,Uaj.out];exact Mac.1);have Il:Kd.S (Kd.slice 4 Kd.bool) 60 w49 w.heap.size (fun k_=>some k_ ≠ (.slice (some yY) Ap.length Xai:Value).ownBlock) (.slice (some BB) Sh.length Aab) oU:=(by rw [PY.out];exact M8 hg (fun k_ e_=>by injection e_ with e_;subst e_;exact gK.1 _ rfl) (Kd.F9 KN));have hm_:=Kd.xd KN Q7;clear Mac M8;have Eb:=ga.mk (Il);have Fb:=ga.mk (Kd.mj (v:=(.slice (some ⟨P5,0,none⟩) (yd Sh af).length BO)) iaI (Kd.mh Iy.out) (by decide) hg);have Ob:=ga.mk (Kd.OY paI rfl hg ((Iy.out.1 _ rfl).1));have Ec:=ga.mk (Vc (g:=ya) (o:=.cells #[.slice Ya Qa.length Za,.int .i64 Ja,.int .i64 Ga,.int .i64 Ia,.slice (some rm) Aa.length Cb] 30 (0,0)) vaH hg (Kd.tj Iy.out oa.out (by decide)));have gf:=ga.mk ((by rw [hw];exact ua (HB.out) Oax.out:Below w.heap.size w w49));have Zf:=ga.mk (hm_);have gh:=ga.mk ((Kd.Rb hm_).2.1);clear Oc yg ni oa HB eU Iy;have Oc:=Eb;have yg:=Fb;have ni:=Ob;have oa:=Ec;have HB:=gf;have DaC:=Zf;have NaC:=gh;clear Eb Fb Ob Ec gf Zf gh hg hw Il KN hm_ Q7));(try simp only [← Mk])
                             go_roundg k5
                             case measure=>have:=wg.out;have:=zl.out;have:=Aq.out;have:=aH.out;have:=b7.out;omega
                             case rel=>exact ⟨(oU),(true),(Ap),(wrap64 (uf + 1)),AaH,AaH,H',⟨by have:=wg.out;have:=zl.out;have:=Aq.out;have:=aH.out;have:=b7.out;omega⟩,⟨by (try simp only [Mk]);(with_reducible repeat (first|apply Kd.fe|apply Kd.ee|apply Kd.Qe));exact Oc.out⟩,⟨by (try simp only [Mk]);(with_reducible repeat (first|apply Kd.Xa|apply Kd.Wa|apply Kd.gb));exact yg.out⟩,⟨by (try simp only [Mk]);(with_reducible repeat (first|apply Kd.Xa|apply Kd.Wa|apply Kd.gb));exact ni.out⟩,⟨by (try simp only [Mk]);(with_reducible repeat (first|refine Ca ?_ _|refine Fa ?_|refine Da ?_ _));exact oa.out⟩,⟨xaH⟩⟩
                           ·rw [if_neg c40] at H;exact absurd H (by simp)
                          ·rw [if_neg bN] at H;exact absurd H (by simp)
                         ·rw [if_neg XK] at H;exact absurd H (by simp)
                        ·replace lV:=Bool.eq_false_iff.mpr lV;subst lV;have H1:(xb.l4 k5 Sh BD af t112 bg Ap (wrap64 (uf + 1)) Qa Ja Ga Ia Aa)=some r:=by rw [if_neg (show ¬ (false=true) by decide)] at H;exact H
                         clear H;have H:=H1;clear H1;have H':=ga.mk H;clear H;have ZR:wr.cell? ⟨ya,0,none⟩=some (.slice Ya Qa.length Za):=(ia oa.out 0).trans rfl;have YR:wr.cell? ⟨ya,1,none⟩=some (.int .i64 Ja):=(ia oa.out 1).trans rfl;have XR:wr.cell? ⟨ya,2,none⟩=some (.int .i64 Ga):=(ia oa.out 2).trans rfl;have WR:wr.cell? ⟨ya,3,none⟩=some (.int .i64 Ia):=(ia oa.out 3).trans rfl;have VR:wr.cell? ⟨ya,4,none⟩=some (.slice (some rm) Aa.length Cb):=(ia oa.out 4).trans rfl;have GQ:=aa oa.out 0;have FQ:=aa oa.out 1;have DQ:=aa oa.out 2;have CQ:=aa oa.out 3;have BQ:=aa oa.out 4;obtain ⟨gaG,zaE,vaw⟩:=Kd.od ni.out;subst vaw;have qF:0 ≤ (uf:Int):=Ua;have pF:uf < (Ap.length:Int):=Ua;obtain ⟨yY,ZX,Rt⟩:=Kd.lg (Kd.Rb ni.out).2.2 uf qF pF;(try rw [← JM.out] at Rt);cases ZX;replace qF:=eq_true qF;replace pF:=eq_true pF;go_wp2;(try simp only [← Mk])
                         go_roundg k5
                         case measure=>have:=wg.out;have:=zl.out;have:=Aq.out;have:=aH.out;have:=b7.out;omega
                         case rel=>exact ⟨(Sh),(BD),(Ap),(wrap64 (uf + 1)),AaH,AaH,H',⟨by have:=wg.out;have:=zl.out;have:=Aq.out;have:=aH.out;have:=b7.out;omega⟩,⟨by (try simp only [Mk]);(with_reducible repeat (first|apply Kd.fe|apply Kd.ee|apply Kd.Qe));exact Oc.out⟩,⟨by (try simp only [Mk]);(with_reducible repeat (first|apply Kd.Xa|apply Kd.Wa|apply Kd.gb));exact yg.out⟩,⟨by (try simp only [Mk]);(with_reducible repeat (first|apply Kd.Xa|apply Kd.Wa|apply Kd.gb));exact ni.out⟩,⟨by (try simp only [Mk]);(with_reducible repeat (first|refine Ca ?_ _|refine Fa ?_|refine Da ?_ _));exact oa.out⟩,⟨xaH⟩⟩
                       ·rw [if_neg UB] at H;exact absurd H (by simp)
                      ·rw [if_neg Iz] at H;exact absurd H (by simp)
                     ·rw [if_neg YK] at H;have mY:decide (uf < Ia)=false:=decide_eq_false YK;clear YK;have H':=ga.mk H;clear H;have zJ:wr.cell? ⟨ya,0,none⟩=some (.slice Ya Qa.length Za):=(ia oa.out 0).trans rfl;have yJ:wr.cell? ⟨ya,1,none⟩=some (.int .i64 Ja):=(ia oa.out 1).trans rfl;have xJ:wr.cell? ⟨ya,2,none⟩=some (.int .i64 Ga):=(ia oa.out 2).trans rfl;have wJ:wr.cell? ⟨ya,3,none⟩=some (.int .i64 Ia):=(ia oa.out 3).trans rfl;have vJ:wr.cell? ⟨ya,4,none⟩=some (.slice (some rm) Aa.length Cb):=(ia oa.out 4).trans rfl;have JI:=aa oa.out 0;have II:=aa oa.out 1;have GI:=aa oa.out 2;have FI:=aa oa.out 3;have EI:=aa oa.out 4;go_wp2;(try simp only [← Mk])
                      go_roundg k5
                      case measure=>have:=wg.out;have:=zl.out;have:=Aq.out;have:=aH.out;have:=b7.out;omega
                      case rel=>exact ⟨(Sh),(BD),(wrap64 (bg + 1)),AaH,AaH,H',⟨by have:=wg.out;have:=zl.out;have:=Aq.out;have:=aH.out;have:=b7.out;omega⟩,⟨by (try simp only [Mk]);(with_reducible repeat (first|apply Kd.fe|apply Kd.ee|apply Kd.Qe));exact Kd.Ah Oc.out (fun _ hk=>trivial)⟩,⟨by (try simp only [Mk]);(with_reducible repeat (first|apply Kd.Xa|apply Kd.Wa|apply Kd.gb));exact yg.out⟩,⟨by (try simp only [Mk]);(with_reducible repeat (first|refine Ca ?_ _|refine Fa ?_|refine Da ?_ _));exact oa.out⟩,⟨xaH⟩⟩
                  ·rw [if_neg PE] at H;exact absurd H (by simp)
                 ·rw [if_neg Jz] at H;exact absurd H (by simp)
                ·rw [if_neg JD] at H;exact absurd H (by simp)
               ·rw [if_neg CH] at H;exact absurd H (by simp)
              ·rw [if_neg Yy] at H;have uD:decide (bg < (t112.length:Int))=false:=decide_eq_false Yy;clear Yy;have H':=ga.mk H;clear H;obtain ⟨faG,Wai,S5⟩:=Kd.od yg.out;subst S5;go_wp2
               go_roundg k4
               case measure=>have:=wg.out;have:=zl.out;have:=Aq.out;have:=aH.out;omega
               case rel=>exact ⟨(Lz),(rU),(wrap64 (af - 1)),AaH,AaH,H',⟨by have:=wg.out;have:=zl.out;have:=Aq.out;have:=aH.out;omega⟩,⟨YaH⟩,⟨zaH⟩,⟨xaH⟩⟩
           ·rw [if_neg lp] at H;exact absurd H (by simp)
          ·rw [if_neg dr] at H;exact absurd H (by simp)
         ·rw [if_neg yt] at H;have Hp:decide (0 ≤ af)=false:=decide_eq_false yt;clear yt;have H':=ga.mk H;clear H;go_wp2
          go_roundg k3
          case measure=>have:=wg.out;have:=zl.out;have:=Aq.out;omega
          case rel=>exact ⟨(Vo),(zf),AaH,H',⟨by have:=wg.out;have:=zl.out;have:=Aq.out;omega⟩,⟨YaH⟩,⟨zaH⟩,⟨xaH⟩⟩
      ·replace vD:=Bool.eq_false_iff.mpr vD;subst vD;have H1:(some Bp)=some r:=by rw [if_neg (show ¬ (false=true) by decide)] at H;exact H
       clear H;have H:=H1;clear H1;obtain rfl:=Option.some.inj H;go_wp2;go_ret;exact ⟨_,by first|rfl|(simp [Pa,Oa] <;> rfl)|(simp [*,Pa,Oa] <;> rfl),YaH,xaH⟩
def Li.f (l0:List Int) (a1:Int):Option (Int):=if (wrap64 (a1 - (l0.length:Int))) < 0 then (some (-1)) else (some (wrap64 (a1 - (l0.length:Int))))
theorem Li.calls (A0:Option Addr) (c0:Nat) (l0:List Int) (a1:Int) (r:Int) (w:World) (Ul:Kd.C (Kd.int .i64) w A0 l0.length l0) (hc0:l0.length ≤ c0) (h:Li.f l0 a1=some r) :
  Calls Try.prog 38 #[.slice A0 l0.length c0,.int .i64 a1] w fun e w'=>e = .returned (.int .i64 r)∧Wc w w':=by
 have ym:=ga.mk Ul;have eL:=ga.mk hc0;clear Ul hc0;have H:(if (wrap64 (a1 - (l0.length:Int))) < 0 then (some (-1)) else (some (wrap64 (a1 - (l0.length:Int)))))=some r:=h;clear h
 by_cases c3:(wrap64 (a1 - (l0.length:Int))) < 0
 ·rw [if_pos c3] at H;have Xh:decide ((wrap64 (a1 - (l0.length:Int))) < 0)=true:=decide_eq_true c3;clear c3;obtain rfl:=Option.some.inj H;go_enter Try.func38,Try.ntmps38;go_wp2;go_ret;exact ⟨by first|rfl|(simp;done)|(simp [*];done),GaH⟩
 ·rw [if_neg c3] at H;have Xh:decide ((wrap64 (a1 - (l0.length:Int))) < 0)=false:=decide_eq_false c3;clear c3;obtain rfl:=Option.some.inj H;go_enter Try.func38,Try.ntmps38;go_wp2;go_ret;exact ⟨by first|rfl|(simp;done)|(simp [*];done),GaH⟩
def Oj.f (Kb:Int) (Ja:Int) (Ga:Int) (Ia:Int) (Db:Int) (Bc:Int) (tc:ByteArray) (a1:Int):Option (Int):=if (wrap64 (a1 - (tc.size:Int))) < 0 then (some (-1)) else (some (wrap64 (a1 - (tc.size:Int))))
theorem Oj.calls (Kb:Int) (Ja:Int) (Ga:Int) (Ia:Int) (Db:Int) (Bc:Int) (tc:ByteArray) (a1:Int) (r:Int) (w:World) (h:Oj.f Kb Ja Ga Ia Db Bc tc a1=some r) :
  Calls Try.prog 112 #[.agg #[.int .i64 Kb,.int .i64 Ja,.int .i64 Ga,.int .i64 Ia,.int .i64 Db,.int .i64 Bc,.string tc],.int .i64 a1] w fun e w'=>e = .returned (.int .i64 r)∧Below w.heap.size w w':=by
 have OW:=Try.underlying124;have HB:=ga.mk (Below.refl w.heap.size w);have H:(if (wrap64 (a1 - (tc.size:Int))) < 0 then (some (-1)) else (some (wrap64 (a1 - (tc.size:Int)))))=some r:=h;clear h
 by_cases c3:(wrap64 (a1 - (tc.size:Int))) < 0
 ·rw [if_pos c3] at H;have Xh:decide ((wrap64 (a1 - (tc.size:Int))) < 0)=true:=decide_eq_true c3;clear c3;obtain rfl:=Option.some.inj H;go_enter Try.func112,Try.ntmps112;go_wp2_with (first|((with_reducible refine Ab (N:=2) rfl ?_);refine Lb ?hg (N:=2) ?hd (cs:=#[.int .i64 Kb,.int .i64 Ja,.int .i64 Ga,.int .i64 Ia,.int .i64 Db,.int .i64 Bc,.string tc]) (t:=124) ?hr ?_;(case hd=>rfl);(case hg=>rfl);(case hr=>first|(go_simp;done)|(go_simp;rfl));intro ya hg w4 Sb hb;have Eb:=ga.mk (Ra uaH hb);have Fb:=ga.mk (Sb);have Ob:=ga.mk ((by rw [hg];exact (La uaH):w.heap.size ≤ ya));have Ec:=ga.mk ((by rw [hg];exact (La uaH):w.heap.size ≤ ya));clear HB;have HB:=Eb;have oa:=Fb;have Vd:=Ob;have Ta:=Ec;clear Eb Fb Ob Ec hb Sb hg;have GC:w4.cell? ⟨ya,0,none⟩=some (.int .i64 Kb):=(ia oa.out 0).trans rfl;have FC:w4.cell? ⟨ya,1,none⟩=some (.int .i64 Ja):=(ia oa.out 1).trans rfl;have EC:w4.cell? ⟨ya,2,none⟩=some (.int .i64 Ga):=(ia oa.out 2).trans rfl;have DC:w4.cell? ⟨ya,3,none⟩=some (.int .i64 Ia):=(ia oa.out 3).trans rfl;have CC:w4.cell? ⟨ya,4,none⟩=some (.int .i64 Db):=(ia oa.out 4).trans rfl;have Lav:w4.cell? ⟨ya,5,none⟩=some (.int .i64 Bc):=(ia oa.out 5).trans rfl;have Kav:w4.cell? ⟨ya,6,none⟩=some (.string tc):=(ia oa.out 6).trans rfl;have tC:=aa oa.out 0;have sC:=aa oa.out 1;have rC:=aa oa.out 2;have qC:=aa oa.out 3;have oC:=aa oa.out 4;have yav:=aa oa.out 5;have xav:=aa oa.out 6));go_ret;exact ⟨by first|rfl|(simp [Pa,Oa] <;> rfl)|(simp [*,Pa,Oa] <;> rfl),xaH⟩
 ·rw [if_neg c3] at H;have Xh:decide ((wrap64 (a1 - (tc.size:Int))) < 0)=false:=decide_eq_false c3;clear c3;obtain rfl:=Option.some.inj H;go_enter Try.func112,Try.ntmps112;go_wp2_with (first|((with_reducible refine Ab (N:=2) rfl ?_);refine Lb ?hg (N:=2) ?hd (cs:=#[.int .i64 Kb,.int .i64 Ja,.int .i64 Ga,.int .i64 Ia,.int .i64 Db,.int .i64 Bc,.string tc]) (t:=124) ?hr ?_;(case hd=>rfl);(case hg=>rfl);(case hr=>first|(go_simp;done)|(go_simp;rfl));intro ya hg w6 Sb hb;have Eb:=ga.mk (Ra uaH hb);have Fb:=ga.mk (Sb);have Ob:=ga.mk ((by rw [hg];exact (La uaH):w.heap.size ≤ ya));have Ec:=ga.mk ((by rw [hg];exact (La uaH):w.heap.size ≤ ya));clear HB;have HB:=Eb;have oa:=Fb;have Vd:=Ob;have Ta:=Ec;clear Eb Fb Ob Ec hb Sb hg;have Hu:w6.cell? ⟨ya,0,none⟩=some (.int .i64 Kb):=(ia oa.out 0).trans rfl;have Gu:w6.cell? ⟨ya,1,none⟩=some (.int .i64 Ja):=(ia oa.out 1).trans rfl;have Fu:w6.cell? ⟨ya,2,none⟩=some (.int .i64 Ga):=(ia oa.out 2).trans rfl;have Eu:w6.cell? ⟨ya,3,none⟩=some (.int .i64 Ia):=(ia oa.out 3).trans rfl;have Du:w6.cell? ⟨ya,4,none⟩=some (.int .i64 Db):=(ia oa.out 4).trans rfl;have uJ:w6.cell? ⟨ya,5,none⟩=some (.int .i64 Bc):=(ia oa.out 5).trans rfl;have tJ:w6.cell? ⟨ya,6,none⟩=some (.string tc):=(ia oa.out 6).trans rfl;have Zt:=aa oa.out 0;have Yt:=aa oa.out 1;have Xt:=aa oa.out 2;have Wt:=aa oa.out 3;have Vt:=aa oa.out 4;have DI:=aa oa.out 5;have CI:=aa oa.out 6));go_ret;exact ⟨by first|rfl|(simp [Pa,Oa] <;> rfl)|(simp [*,Pa,Oa] <;> rfl),xaH⟩
def Yd.l0:Nat→List (vp)→Int→Int→Option (Int)
 | 0,_,_,_=>none
 | k + 1,x0,x1,x5=>if x5 < (x0.length:Int) then (if 0 ≤ x5 then ((Oj.f ((Rc x0 x5).f0) ((Rc x0 x5).f1) ((Rc x0 x5).f2) ((Rc x0 x5).f3) ((Rc x0 x5).f4) ((Rc x0 x5).f5) ((Rc x0 x5).f6) x1).bind fun t102=>(if t102 < 0 then (some (-1)) else (Yd.l0 k x0 t102 (wrap64 (x5 + 1))))) else (none)) else (some x1)
def Yd.f (k:Nat) (l0:List (vp)) (a1:Int):Option (Int):=if (wrap64 (a1 - (l0.length:Int))) < 0 then (some (-1)) else (Yd.l0 k l0 (wrap64 (a1 - (l0.length:Int))) 0)
theorem Yd.calls (k:Nat) (A0:Option Addr) (c0:Nat) (l0:List (vp)) (a1:Int) (r:Int) (w:World) (Ul:Kd.C yF w A0 l0.length l0) (hc0:l0.length ≤ c0) (h:Yd.f k l0 a1=some r) :
  Calls Try.prog 96 #[.slice A0 l0.length c0,.int .i64 a1] w fun e w'=>e = .returned (.int .i64 r)∧Below w.heap.size w w':=by
 have OW:=Try.underlying124;have ym:=ga.mk Ul;have eL:=ga.mk hc0;clear Ul hc0;have HB:=ga.mk (Below.refl w.heap.size w);have H:(if (wrap64 (a1 - (l0.length:Int))) < 0 then (some (-1)) else (Yd.l0 k l0 (wrap64 (a1 - (l0.length:Int))) 0))=some r:=h;clear h
 by_cases c3:(wrap64 (a1 - (l0.length:Int))) < 0
 ·rw [if_pos c3] at H;have Xh:decide ((wrap64 (a1 - (l0.length:Int))) < 0)=true:=decide_eq_true c3;clear c3;obtain rfl:=Option.some.inj H;go_enter Try.func96,Try.ntmps96;go_wp2;go_ret;exact ⟨by first|rfl|(simp [Pa,Oa] <;> rfl)|(simp [*,Pa,Oa] <;> rfl),BaH⟩
 ·rw [if_neg c3] at H;have Xh:decide ((wrap64 (a1 - (l0.length:Int))) < 0)=false:=decide_eq_false c3;clear c3;have H':=ga.mk H;clear H;go_enter Try.func96,Try.ntmps96;go_wp2
  go_loopg [1,5] k (fun kq v1 v5 w'=>∃ (Ie:Int) (Ka:Int),v1 = .int .i64 Ie∧v5 = .int .i64 Ka∧ga (Yd.l0 kq l0 Ie Ka=some r)∧ga (kq ≤ k)∧ga (Below w.heap.size w w'))
  case atStart=>exact ⟨(wrap64 (a1 - (l0.length:Int))),(0),AaH,AaH,H',⟨Nat.le_refl _⟩,⟨BaH⟩⟩
  case round =>
   clear H'
   try clear p2
   try clear c3
   try clear Xh
   (try clear HA);(try clear wg);(try clear HB);obtain ⟨Ie,Ka,rfl,rfl,HA,wg,HB⟩:=hrel;cases gk with
   | zero=>exact absurd HA.out (by simp [Yd.l0])
   | succ k1 =>
    have H:=HA.out;clear HA;simp only [Yd.l0] at H
    by_cases c4:Ka < (l0.length:Int)
    ·rw [if_pos c4] at H;have jk:decide (Ka < (l0.length:Int))=true:=decide_eq_true c4;clear c4
     by_cases c5:0 ≤ Ka
     ·rw [if_pos c5] at H;have fk:decide (0 ≤ Ka)=true:=decide_eq_true c5;clear c5;replace H:=Option.bind_eq_some_iff.mp H;obtain ⟨t102,v_,H⟩:=H;replace H:(if t102 < 0 then (some (-1)) else (Yd.l0 k1 l0 t102 (wrap64 (Ka + 1))))=some r:=H;have A6:=ga.mk v_;clear v_
      by_cases c7:t102 < 0
      ·rw [if_pos c7] at H;have Xk:decide (t102 < 0)=true:=decide_eq_true c7;clear c7;obtain rfl:=Option.some.inj H;have ng:0 ≤ (Ka:Int):=Ua;have mg:Ka < (l0.length:Int):=Ua;obtain ⟨We,ql,Ce,Rf,Qf,Pf,Nf,Tj,Sj⟩:=yK ym.out Ka ng mg;cases ql;replace Ce:=Sa HB.out Ce;replace Rf:=Sa HB.out Rf;replace Qf:=Sa HB.out Qf;replace Pf:=Sa HB.out Pf;replace Nf:=Sa HB.out Nf;replace Tj:=Sa HB.out Tj;replace Sj:=Sa HB.out Sj;replace ng:=eq_true ng;replace mg:=eq_true mg;go_wp2_with (first|((with_reducible refine yb (f:=112) rfl ?_);refine Pc (some 23) rfl rfl Try.func112 (by kernel_rfl) rfl #[.agg #[.int .i64 ((Rc l0 Ka).f0),.int .i64 ((Rc l0 Ka).f1),.int .i64 ((Rc l0 Ka).f2),.int .i64 ((Rc l0 Ka).f3),.int .i64 ((Rc l0 Ka).f4),.int .i64 ((Rc l0 Ka).f5),.string ((Rc l0 Ka).f6)],.int .i64 Ie] rfl waH ?_;(with_reducible refine (Oj.calls ((Rc l0 Ka).f0) ((Rc l0 Ka).f1) ((Rc l0 Ka).f2) ((Rc l0 Ka).f3) ((Rc l0 Ka).f4) ((Rc l0 Ka).f5) ((Rc l0 Ka).f6) Ie t102 _ A6.out).mono ?_);rintro e w8 ⟨rfl,hb⟩;refine ⟨_,rfl,?_⟩;have Eb:=ga.mk (Ra uaH hb);clear HB;have HB:=Eb;clear Eb;(try clear hb);(try clear Uj);(try clear hk);(try clear hi)));go_ret;exact ⟨by first|rfl|(simp [Pa,Oa] <;> rfl)|(simp [*,Pa,Oa] <;> rfl),BaH⟩
      ·rw [if_neg c7] at H;have Xk:decide (t102 < 0)=false:=decide_eq_false c7;clear c7;have H':=ga.mk H;clear H;have ng:0 ≤ (Ka:Int):=Ua;have mg:Ka < (l0.length:Int):=Ua;obtain ⟨We,ql,Ce,Rf,Qf,Pf,Nf,Tj,Sj⟩:=yK ym.out Ka ng mg;cases ql;replace Ce:=Sa HB.out Ce;replace Rf:=Sa HB.out Rf;replace Qf:=Sa HB.out Qf;replace Pf:=Sa HB.out Pf;replace Nf:=Sa HB.out Nf;replace Tj:=Sa HB.out Tj;replace Sj:=Sa HB.out Sj;replace ng:=eq_true ng;replace mg:=eq_true mg;go_wp2_with (first|((with_reducible refine yb (f:=112) rfl ?_);refine Pc (some 23) rfl rfl Try.func112 (by kernel_rfl) rfl #[.agg #[.int .i64 ((Rc l0 Ka).f0),.int .i64 ((Rc l0 Ka).f1),.int .i64 ((Rc l0 Ka).f2),.int .i64 ((Rc l0 Ka).f3),.int .i64 ((Rc l0 Ka).f4),.int .i64 ((Rc l0 Ka).f5),.string ((Rc l0 Ka).f6)],.int .i64 Ie] rfl waH ?_;(with_reducible refine (Oj.calls ((Rc l0 Ka).f0) ((Rc l0 Ka).f1) ((Rc l0 Ka).f2) ((Rc l0 Ka).f3) ((Rc l0 Ka).f4) ((Rc l0 Ka).f5) ((Rc l0 Ka).f6) Ie t102 _ A6.out).mono ?_);rintro e w9 ⟨rfl,hb⟩;refine ⟨_,rfl,?_⟩;have Eb:=ga.mk (Ra uaH hb);clear HB;have HB:=Eb;clear Eb;(try clear hb);(try clear Uj);(try clear hk);(try clear hi)))
       go_roundg k1
       case measure=>have:=wg.out;omega
       case rel=>exact ⟨(t102),(wrap64 (Ka + 1)),AaH,AaH,H',⟨by have:=wg.out;omega⟩,⟨BaH⟩⟩
     ·rw [if_neg c5] at H;exact absurd H (by simp)
    ·rw [if_neg c4] at H;have jk:decide (Ka < (l0.length:Int))=false:=decide_eq_false c4;clear c4;obtain rfl:=Option.some.inj H;go_wp2;go_ret;exact ⟨by first|rfl|(simp [Pa,Oa] <;> rfl)|(simp [*,Pa,Oa] <;> rfl),BaH⟩
def Pj.f (k:Nat) (Qa:List (vp)) (Ja:Int) (Ga:Int) (Ia:Int) (Db:Int) (a1:Int):Option (Int):=(Yd.f k Qa a1).bind fun t102=>(if t102 < 0 then (some (-1)) else (some t102))
theorem Pj.calls (k:Nat) (Ya:Option Addr) (Za:Nat) (Qa:List (vp)) (Ja:Int) (Ga:Int) (Ia:Int) (Db:Int) (a1:Int) (r:Int) (w:World) (Ud:Kd.C yF w Ya Qa.length Qa) (Rd:Qa.length ≤ Za) (h:Pj.f k Qa Ja Ga Ia Db a1=some r) :
  Calls Try.prog 70 #[.agg #[.slice Ya Qa.length Za,.int .i64 Ja,.int .i64 Ga,.int .i64 Ia,.int .i64 Db],.int .i64 a1] w fun e w'=>e = .returned (.int .i64 r)∧Below w.heap.size w w':=by
 have uaa:=Try.underlying86;have Ze:=ga.mk Ud;have Af:=ga.mk Rd;clear Ud Rd;have HB:=ga.mk (Below.refl w.heap.size w);have H:((Yd.f k Qa a1).bind fun t102=>(if t102 < 0 then (some (-1)) else (some t102)))=some r:=h;clear h;replace H:=Option.bind_eq_some_iff.mp H;obtain ⟨t102,Kz,H⟩:=H;replace H:(if t102 < 0 then (some (-1)) else (some t102))=some r:=H;have A3:=ga.mk Kz;clear Kz
 by_cases c4:t102 < 0
 ·rw [if_pos c4] at H;have jk:decide (t102 < 0)=true:=decide_eq_true c4;clear c4;obtain rfl:=Option.some.inj H;go_enter Try.func70,Try.ntmps70;go_wp2_with (first|((with_reducible refine Ab (N:=2) rfl ?_);refine Lb ?hg (N:=2) ?hd (cs:=#[.slice Ya Qa.length Za,.int .i64 Ja,.int .i64 Ga,.int .i64 Ia,.int .i64 Db]) (t:=86) ?hr ?_;(case hd=>rfl);(case hg=>rfl);(case hr=>first|(go_simp;done)|(go_simp;rfl));intro ya hg w5 Sb hb;have Eb:=ga.mk (Ra uaH hb);have Fb:=ga.mk (Sb);have Ob:=ga.mk ((by rw [hg];exact (La uaH):w.heap.size ≤ ya));have Ec:=ga.mk ((by rw [hg];exact (La uaH):w.heap.size ≤ ya));clear HB;have HB:=Eb;have oa:=Fb;have Vd:=Ob;have Ta:=Ec;clear Eb Fb Ob Ec hb Sb hg;have Uq:w5.cell? ⟨ya,0,none⟩=some (.slice Ya Qa.length Za):=(ia oa.out 0).trans rfl;have Rq:w5.cell? ⟨ya,1,none⟩=some (.int .i64 Ja):=(ia oa.out 1).trans rfl;have Qq:w5.cell? ⟨ya,2,none⟩=some (.int .i64 Ga):=(ia oa.out 2).trans rfl;have Pq:w5.cell? ⟨ya,3,none⟩=some (.int .i64 Ia):=(ia oa.out 3).trans rfl;have Oq:w5.cell? ⟨ya,4,none⟩=some (.int .i64 Db):=(ia oa.out 4).trans rfl;have Nq:=aa oa.out 0;have Mq:=aa oa.out 1;have Kq:=aa oa.out 2;have Jq:=aa oa.out 3;have Iq:=aa oa.out 4)|((with_reducible refine yb (f:=96) rfl ?_);refine Pc (some 8) rfl rfl Try.func96 (by kernel_rfl) rfl #[.slice Ya Qa.length Za,.int .i64 a1] rfl waH ?_;(with_reducible refine (Yd.calls k _ _ Qa a1 t102 _ ?Uc ?Tc A3.out).mono ?_);(case Uc=>repeat (first|exact (Kd.Nb Ze.out HB.out)|(with_reducible refine Kd.dc ?_ _)|(with_reducible refine Kd.Zb ?_ _)|(with_reducible refine Kd.Fc ?_)));(case Tc=>exact Af.out);rintro e w7 ⟨rfl,hb⟩;refine ⟨_,rfl,?_⟩;have Eb:=ga.mk (Va (g:=ya) (o:=.cells #[.slice Ya Qa.length Za,.int .i64 Ja,.int .i64 Ga,.int .i64 Ia,.int .i64 Db] 86 (0,0)) vaH hb);have Fb:=ga.mk (Ra taH hb);clear oa HB;have oa:=Eb;have HB:=Fb;clear Eb Fb;(try clear hb);(try clear Uj);(try clear hk);(try clear hi)));go_ret;exact ⟨by first|rfl|(simp [Pa,Oa] <;> rfl)|(simp [*,Pa,Oa] <;> rfl),xaH⟩
 ·rw [if_neg c4] at H;have jk:decide (t102 < 0)=false:=decide_eq_false c4;clear c4;obtain rfl:=Option.some.inj H;go_enter Try.func70,Try.ntmps70;go_wp2_with (first|((with_reducible refine Ab (N:=2) rfl ?_);refine Lb ?hg (N:=2) ?hd (cs:=#[.slice Ya Qa.length Za,.int .i64 Ja,.int .i64 Ga,.int .i64 Ia,.int .i64 Db]) (t:=86) ?hr ?_;(case hd=>rfl);(case hg=>rfl);(case hr=>first|(go_simp;done)|(go_simp;rfl));intro ya hg w8 Sb hb;have Eb:=ga.mk (Ra uaH hb);have Fb:=ga.mk (Sb);have Ob:=ga.mk ((by rw [hg];exact (La uaH):w.heap.size ≤ ya));have Ec:=ga.mk ((by rw [hg];exact (La uaH):w.heap.size ≤ ya));clear HB;have HB:=Eb;have oa:=Fb;have Vd:=Ob;have Ta:=Ec;clear Eb Fb Ob Ec hb Sb hg;have Ln:w8.cell? ⟨ya,0,none⟩=some (.slice Ya Qa.length Za):=(ia oa.out 0).trans rfl;have Kn:w8.cell? ⟨ya,1,none⟩=some (.int .i64 Ja):=(ia oa.out 1).trans rfl;have Jn:w8.cell? ⟨ya,2,none⟩=some (.int .i64 Ga):=(ia oa.out 2).trans rfl;have Gn:w8.cell? ⟨ya,3,none⟩=some (.int .i64 Ia):=(ia oa.out 3).trans rfl;have En:w8.cell? ⟨ya,4,none⟩=some (.int .i64 Db):=(ia oa.out 4).trans rfl;have gn:=aa oa.out 0;have en:=aa oa.out 1;have dn:=aa oa.out 2;have bn:=aa oa.out 3;have Zm:=aa oa.out 4)|((with_reducible refine yb (f:=96) rfl ?_);refine Pc (some 8) rfl rfl Try.func96 (by kernel_rfl) rfl #[.slice Ya Qa.length Za,.int .i64 a1] rfl waH ?_;(with_reducible refine (Yd.calls k _ _ Qa a1 t102 _ ?Uc ?Tc A3.out).mono ?_);(case Uc=>repeat (first|exact (Kd.Nb Ze.out HB.out)|(with_reducible refine Kd.dc ?_ _)|(with_reducible refine Kd.Zb ?_ _)|(with_reducible refine Kd.Fc ?_)));(case Tc=>exact Af.out);rintro e Us ⟨rfl,hb⟩;refine ⟨_,rfl,?_⟩;have Eb:=ga.mk (Va (g:=ya) (o:=.cells #[.slice Ya Qa.length Za,.int .i64 Ja,.int .i64 Ga,.int .i64 Ia,.int .i64 Db] 86 (0,0)) vaH hb);have Fb:=ga.mk (Ra taH hb);clear oa HB;have oa:=Eb;have HB:=Fb;clear Eb Fb;(try clear hb);(try clear Uj);(try clear hk);(try clear hi)));go_ret;exact ⟨by first|rfl|(simp [Pa,Oa] <;> rfl)|(simp [*,Pa,Oa] <;> rfl),xaH⟩
def Td.l0:Nat→List (Ez)→Int→Int→Option (Int)
 | 0,_,_,_=>none
 | k + 1,x0,x1,x5=>if x5 < (x0.length:Int) then (if 0 ≤ x5 then ((Pj.f k ((Fe x0 x5).f0) ((Fe x0 x5).f1) ((Fe x0 x5).f2) ((Fe x0 x5).f3) ((Fe x0 x5).f4) x1).bind fun t102=>(if t102 < 0 then (some (-1)) else (Td.l0 k x0 t102 (wrap64 (x5 + 1))))) else (none)) else (some x1)
def Td.f (k:Nat) (l0:List (Ez)) (a1:Int):Option (Int):=if (wrap64 (a1 - (l0.length:Int))) < 0 then (some (-1)) else (Td.l0 k l0 (wrap64 (a1 - (l0.length:Int))) 0)
theorem Td.calls (k:Nat) (A0:Option Addr) (c0:Nat) (l0:List (Ez)) (a1:Int) (r:Int) (w:World) (Ul:Kd.C tW w A0 l0.length l0) (hc0:l0.length ≤ c0) (h:Td.f k l0 a1=some r) :
  Calls Try.prog 39 #[.slice A0 l0.length c0,.int .i64 a1] w fun e w'=>e = .returned (.int .i64 r)∧Below w.heap.size w w':=by
 have uaa:=Try.underlying86;have ym:=ga.mk Ul;have eL:=ga.mk hc0;clear Ul hc0;have HB:=ga.mk (Below.refl w.heap.size w);have H:(if (wrap64 (a1 - (l0.length:Int))) < 0 then (some (-1)) else (Td.l0 k l0 (wrap64 (a1 - (l0.length:Int))) 0))=some r:=h;clear h
 by_cases c3:(wrap64 (a1 - (l0.length:Int))) < 0
 ·rw [if_pos c3] at H;have Xh:decide ((wrap64 (a1 - (l0.length:Int))) < 0)=true:=decide_eq_true c3;clear c3;obtain rfl:=Option.some.inj H;go_enter Try.func39,Try.ntmps39;go_wp2;go_ret;exact ⟨by first|rfl|(simp [Pa,Oa] <;> rfl)|(simp [*,Pa,Oa] <;> rfl),BaH⟩
 ·rw [if_neg c3] at H;have Xh:decide ((wrap64 (a1 - (l0.length:Int))) < 0)=false:=decide_eq_false c3;clear c3;have H':=ga.mk H;clear H;go_enter Try.func39,Try.ntmps39;go_wp2
  go_loopg [1,5] k (fun kq v1 v5 w'=>∃ (Ie:Int) (Ka:Int),v1 = .int .i64 Ie∧v5 = .int .i64 Ka∧ga (Td.l0 kq l0 Ie Ka=some r)∧ga (kq ≤ k)∧ga (Below w.heap.size w w'))
  case atStart=>exact ⟨(wrap64 (a1 - (l0.length:Int))),(0),AaH,AaH,H',⟨Nat.le_refl _⟩,⟨BaH⟩⟩
  case round =>
   clear H'
   try clear p2
   try clear c3
   try clear Xh
   (try clear HA);(try clear wg);(try clear HB);obtain ⟨Ie,Ka,rfl,rfl,HA,wg,HB⟩:=hrel;cases gk with
   | zero=>exact absurd HA.out (by simp [Td.l0])
   | succ k1 =>
    have H:=HA.out;clear HA;simp only [Td.l0] at H
    by_cases c4:Ka < (l0.length:Int)
    ·rw [if_pos c4] at H;have jk:decide (Ka < (l0.length:Int))=true:=decide_eq_true c4;clear c4
     by_cases c5:0 ≤ Ka
     ·rw [if_pos c5] at H;have fk:decide (0 ≤ Ka)=true:=decide_eq_true c5;clear c5;replace H:=Option.bind_eq_some_iff.mp H;obtain ⟨t102,v_,H⟩:=H;replace H:(if t102 < 0 then (some (-1)) else (Td.l0 k1 l0 t102 (wrap64 (Ka + 1))))=some r:=H;have A6:=ga.mk v_;clear v_
      by_cases c7:t102 < 0
      ·rw [if_pos c7] at H;have Xk:decide (t102 < 0)=true:=decide_eq_true c7;clear c7;obtain rfl:=Option.some.inj H;have ng:0 ≤ (Ka:Int):=Ua;have mg:Ka < (l0.length:Int):=Ua;obtain ⟨We,Fv,tv,ql,Ce,Rf,Qf,Pf,Nf,Xm,Ym⟩:=QO ym.out Ka ng mg;cases ql;replace Ce:=Sa HB.out Ce;replace Rf:=Sa HB.out Rf;replace Qf:=Sa HB.out Qf;replace Pf:=Sa HB.out Pf;replace Nf:=Sa HB.out Nf;have yq:=ga.mk Ym;have Dv:=ga.mk Xm;clear Ym Xm;replace ng:=eq_true ng;replace mg:=eq_true mg;go_wp2_with (first|((with_reducible refine yb (f:=70) rfl ?_);refine Pc (some 23) rfl rfl Try.func70 (by kernel_rfl) rfl #[.agg #[.slice Fv ((Fe l0 Ka).f0).length tv,.int .i64 ((Fe l0 Ka).f1),.int .i64 ((Fe l0 Ka).f2),.int .i64 ((Fe l0 Ka).f3),.int .i64 ((Fe l0 Ka).f4)],.int .i64 Ie] rfl waH ?_;(with_reducible refine (Pj.calls k1 _ _ ((Fe l0 Ka).f0) ((Fe l0 Ka).f1) ((Fe l0 Ka).f2) ((Fe l0 Ka).f3) ((Fe l0 Ka).f4) Ie t102 _ ?Uc ?Tc A6.out).mono ?_);(case Uc=>repeat (first|exact (Kd.Nb yq.out HB.out)|(with_reducible refine Kd.dc ?_ _)|(with_reducible refine Kd.Zb ?_ _)|(with_reducible refine Kd.Fc ?_)));(case Tc=>exact Dv.out);rintro e w8 ⟨rfl,hb⟩;refine ⟨_,rfl,?_⟩;have Eb:=ga.mk (Ra uaH hb);clear HB;have HB:=Eb;clear Eb;(try clear hb);(try clear Uj);(try clear hk);(try clear hi)));go_ret;exact ⟨by first|rfl|(simp [Pa,Oa] <;> rfl)|(simp [*,Pa,Oa] <;> rfl),BaH⟩
      ·rw [if_neg c7] at H;have Xk:decide (t102 < 0)=false:=decide_eq_false c7;clear c7;have H':=ga.mk H;clear H;have ng:0 ≤ (Ka:Int):=Ua;have mg:Ka < (l0.length:Int):=Ua;obtain ⟨We,Fv,tv,ql,Ce,Rf,Qf,Pf,Nf,Xm,Ym⟩:=QO ym.out Ka ng mg;cases ql;replace Ce:=Sa HB.out Ce;replace Rf:=Sa HB.out Rf;replace Qf:=Sa HB.out Qf;replace Pf:=Sa HB.out Pf;replace Nf:=Sa HB.out Nf;have yq:=ga.mk Ym;have Dv:=ga.mk Xm;clear Ym Xm;replace ng:=eq_true ng;replace mg:=eq_true mg;go_wp2_with (first|((with_reducible refine yb (f:=70) rfl ?_);refine Pc (some 23) rfl rfl Try.func70 (by kernel_rfl) rfl #[.agg #[.slice Fv ((Fe l0 Ka).f0).length tv,.int .i64 ((Fe l0 Ka).f1),.int .i64 ((Fe l0 Ka).f2),.int .i64 ((Fe l0 Ka).f3),.int .i64 ((Fe l0 Ka).f4)],.int .i64 Ie] rfl waH ?_;(with_reducible refine (Pj.calls k1 _ _ ((Fe l0 Ka).f0) ((Fe l0 Ka).f1) ((Fe l0 Ka).f2) ((Fe l0 Ka).f3) ((Fe l0 Ka).f4) Ie t102 _ ?Uc ?Tc A6.out).mono ?_);(case Uc=>repeat (first|exact (Kd.Nb yq.out HB.out)|(with_reducible refine Kd.dc ?_ _)|(with_reducible refine Kd.Zb ?_ _)|(with_reducible refine Kd.Fc ?_)));(case Tc=>exact Dv.out);rintro e w9 ⟨rfl,hb⟩;refine ⟨_,rfl,?_⟩;have Eb:=ga.mk (Ra uaH hb);clear HB;have HB:=Eb;clear Eb;(try clear hb);(try clear Uj);(try clear hk);(try clear hi)))
       go_roundg k1
       case measure=>have:=wg.out;omega
       case rel=>exact ⟨(t102),(wrap64 (Ka + 1)),AaH,AaH,H',⟨by have:=wg.out;omega⟩,⟨BaH⟩⟩
     ·rw [if_neg c5] at H;exact absurd H (by simp)
    ·rw [if_neg c4] at H;have jk:decide (Ka < (l0.length:Int))=false:=decide_eq_false c4;clear c4;obtain rfl:=Option.some.inj H;go_wp2;go_ret;exact ⟨by first|rfl|(simp [Pa,Oa] <;> rfl)|(simp [*,Pa,Oa] <;> rfl),BaH⟩
def Mi.f (k:Nat) (Qa:List Int) (Ja:Int) (Ga:Int) (Ia:Int) (Aa:List (Ez)) (a1:Int):Option (Int):=(Li.f Qa a1).bind fun t102=>(if t102 < 0 then (some (-1)) else ((Td.f k Aa t102).bind fun t103=>(if t103 < 0 then (some (-1)) else (some t103))))
theorem Mi.calls (k:Nat) (Ya:Option Addr) (Za:Nat) (Qa:List Int) (Ja:Int) (Ga:Int) (Ia:Int) (Mb:Option Addr) (Cb:Nat) (Aa:List (Ez)) (a1:Int) (r:Int) (w:World) (Ud:Kd.C (Kd.int .i64) w Ya Qa.length Qa) (Rd:Qa.length ≤ Za) (yf:Kd.C tW w Mb Aa.length Aa) (kf:Aa.length ≤ Cb) (h:Mi.f k Qa Ja Ga Ia Aa a1=some r) :
  Calls Try.prog 10 #[.agg #[.slice Ya Qa.length Za,.int .i64 Ja,.int .i64 Ga,.int .i64 Ia,.slice Mb Aa.length Cb],.int .i64 a1] w fun e w'=>e = .returned (.int .i64 r)∧Below w.heap.size w w':=by
 have zau:=Try.underlying25;have Ze:=ga.mk Ud;have Af:=ga.mk Rd;clear Ud Rd;have xg:=ga.mk yf;have ki:=ga.mk kf;clear yf kf;have HB:=ga.mk (Below.refl w.heap.size w);have H:((Li.f Qa a1).bind fun t102=>(if t102 < 0 then (some (-1)) else ((Td.f k Aa t102).bind fun t103=>(if t103 < 0 then (some (-1)) else (some t103)))))=some r:=h;clear h;replace H:=Option.bind_eq_some_iff.mp H;obtain ⟨t102,Kz,H⟩:=H;replace H:(if t102 < 0 then (some (-1)) else ((Td.f k Aa t102).bind fun t103=>(if t103 < 0 then (some (-1)) else (some t103))))=some r:=H;have A3:=ga.mk Kz;clear Kz
 by_cases c4:t102 < 0
 ·rw [if_pos c4] at H;have jk:decide (t102 < 0)=true:=decide_eq_true c4;clear c4;obtain rfl:=Option.some.inj H;go_enter Try.func10,Try.ntmps10;go_wp2_with (first|((with_reducible refine Ab (N:=2) rfl ?_);refine Lb ?hg (N:=2) ?hd (cs:=#[.slice Ya Qa.length Za,.int .i64 Ja,.int .i64 Ga,.int .i64 Ia,.slice Mb Aa.length Cb]) (t:=25) ?hr ?_;(case hd=>rfl);(case hg=>rfl);(case hr=>first|(go_simp;done)|(go_simp;rfl));intro ya hg w5 Sb hb;have Eb:=ga.mk (Ra uaH hb);have Fb:=ga.mk (Sb);have Ob:=ga.mk ((by rw [hg];exact (La uaH):w.heap.size ≤ ya));have Ec:=ga.mk ((by rw [hg];exact (La uaH):w.heap.size ≤ ya));clear HB;have HB:=Eb;have oa:=Fb;have Vd:=Ob;have Ta:=Ec;clear Eb Fb Ob Ec hb Sb hg;have Uq:w5.cell? ⟨ya,0,none⟩=some (.slice Ya Qa.length Za):=(ia oa.out 0).trans rfl;have Rq:w5.cell? ⟨ya,1,none⟩=some (.int .i64 Ja):=(ia oa.out 1).trans rfl;have Qq:w5.cell? ⟨ya,2,none⟩=some (.int .i64 Ga):=(ia oa.out 2).trans rfl;have Pq:w5.cell? ⟨ya,3,none⟩=some (.int .i64 Ia):=(ia oa.out 3).trans rfl;have Oq:w5.cell? ⟨ya,4,none⟩=some (.slice Mb Aa.length Cb):=(ia oa.out 4).trans rfl;have Nq:=aa oa.out 0;have Mq:=aa oa.out 1;have Kq:=aa oa.out 2;have Jq:=aa oa.out 3;have Iq:=aa oa.out 4)|((with_reducible refine yb (f:=38) rfl ?_);refine Pc (some 8) rfl rfl Try.func38 (by kernel_rfl) rfl #[.slice Ya Qa.length Za,.int .i64 a1] rfl waH ?_;(with_reducible refine (Li.calls _ _ Qa a1 t102 _ ?Uc ?Tc A3.out).mono ?_);(case Uc=>repeat (first|exact (Kd.Nb Ze.out HB.out)|(with_reducible refine Kd.dc ?_ _)|(with_reducible refine Kd.Zb ?_ _)|(with_reducible refine Kd.Fc ?_)));(case Tc=>exact Af.out);rintro e w' ⟨rfl,⟨nd,rfl⟩⟩;refine ⟨_,rfl,?_⟩));go_ret;exact ⟨by first|rfl|(simp [Pa,Oa] <;> rfl)|(simp [*,Pa,Oa] <;> rfl),xaH⟩
 ·rw [if_neg c4] at H;have jk:decide (t102 < 0)=false:=decide_eq_false c4;clear c4;replace H:=Option.bind_eq_some_iff.mp H;obtain ⟨t103,PK,H⟩:=H;replace H:(if t103 < 0 then (some (-1)) else (some t103))=some r:=H;have A7:=ga.mk PK;clear PK
  by_cases c8:t103 < 0
  ·rw [if_pos c8] at H;have Zq:decide (t103 < 0)=true:=decide_eq_true c8;clear c8;obtain rfl:=Option.some.inj H;go_enter Try.func10,Try.ntmps10;go_wp2_with (first|((with_reducible refine Ab (N:=2) rfl ?_);refine Lb ?hg (N:=2) ?hd (cs:=#[.slice Ya Qa.length Za,.int .i64 Ja,.int .i64 Ga,.int .i64 Ia,.slice Mb Aa.length Cb]) (t:=25) ?hr ?_;(case hd=>rfl);(case hg=>rfl);(case hr=>first|(go_simp;done)|(go_simp;rfl));intro ya hg w9 Sb hb;have Eb:=ga.mk (Ra uaH hb);have Fb:=ga.mk (Sb);have Ob:=ga.mk ((by rw [hg];exact (La uaH):w.heap.size ≤ ya));have Ec:=ga.mk ((by rw [hg];exact (La uaH):w.heap.size ≤ ya));clear HB;have HB:=Eb;have oa:=Fb;have Vd:=Ob;have Ta:=Ec;clear Eb Fb Ob Ec hb Sb hg;have Nh:w9.cell? ⟨ya,0,none⟩=some (.slice Ya Qa.length Za):=(ia oa.out 0).trans rfl;have Mh:w9.cell? ⟨ya,1,none⟩=some (.int .i64 Ja):=(ia oa.out 1).trans rfl;have Lh:w9.cell? ⟨ya,2,none⟩=some (.int .i64 Ga):=(ia oa.out 2).trans rfl;have Kh:w9.cell? ⟨ya,3,none⟩=some (.int .i64 Ia):=(ia oa.out 3).trans rfl;have Jh:w9.cell? ⟨ya,4,none⟩=some (.slice Mb Aa.length Cb):=(ia oa.out 4).trans rfl;have Ih:=aa oa.out 0;have Hh:=aa oa.out 1;have Gh:=aa oa.out 2;have Fh:=aa oa.out 3;have Eh:=aa oa.out 4)|((with_reducible refine yb (f:=38) rfl ?_);refine Pc (some 8) rfl rfl Try.func38 (by kernel_rfl) rfl #[.slice Ya Qa.length Za,.int .i64 a1] rfl waH ?_;(with_reducible refine (Li.calls _ _ Qa a1 t102 _ ?Uc ?Tc A3.out).mono ?_);(case Uc=>repeat (first|exact (Kd.Nb Ze.out HB.out)|(with_reducible refine Kd.dc ?_ _)|(with_reducible refine Kd.Zb ?_ _)|(with_reducible refine Kd.Fc ?_)));(case Tc=>exact Af.out);rintro e w' ⟨rfl,⟨nd,rfl⟩⟩;refine ⟨_,rfl,?_⟩)|((with_reducible refine yb (f:=39) rfl ?_);refine Pc (some 14) rfl rfl Try.func39 (by kernel_rfl) rfl #[.slice Mb Aa.length Cb,.int .i64 t102] rfl waH ?_;(with_reducible refine (Td.calls k _ _ Aa t102 t103 _ ?Uc ?Tc A7.out).mono ?_);(case Uc=>repeat (first|exact (Kd.Nb xg.out taH)|(with_reducible refine Kd.dc ?_ _)|(with_reducible refine Kd.Zb ?_ _)|(with_reducible refine Kd.Fc ?_)));(case Tc=>exact ki.out);rintro e ck ⟨rfl,hb⟩;refine ⟨_,rfl,?_⟩;have Eb:=ga.mk (Va (g:=ya) (o:=.cells #[.slice Ya Qa.length Za,.int .i64 Ja,.int .i64 Ga,.int .i64 Ia,.slice Mb Aa.length Cb] 25 (0,0)) vaH hb);have Fb:=ga.mk (Ra taH hb);clear oa HB;have oa:=Eb;have HB:=Fb;clear Eb Fb;(try clear hb);(try clear Uj);(try clear hk);(try clear hi)));go_ret;exact ⟨by first|rfl|(simp [Pa,Oa] <;> rfl)|(simp [*,Pa,Oa] <;> rfl),xaH⟩
  ·rw [if_neg c8] at H;have Zq:decide (t103 < 0)=false:=decide_eq_false c8;clear c8;obtain rfl:=Option.some.inj H;go_enter Try.func10,Try.ntmps10;go_wp2_with (first|((with_reducible refine Ab (N:=2) rfl ?_);refine Lb ?hg (N:=2) ?hd (cs:=#[.slice Ya Qa.length Za,.int .i64 Ja,.int .i64 Ga,.int .i64 Ia,.slice Mb Aa.length Cb]) (t:=25) ?hr ?_;(case hd=>rfl);(case hg=>rfl);(case hr=>first|(go_simp;done)|(go_simp;rfl));intro ya hg Ks Sb hb;have Eb:=ga.mk (Ra uaH hb);have Fb:=ga.mk (Sb);have Ob:=ga.mk ((by rw [hg];exact (La uaH):w.heap.size ≤ ya));have Ec:=ga.mk ((by rw [hg];exact (La uaH):w.heap.size ≤ ya));clear HB;have HB:=Eb;have oa:=Fb;have Vd:=Ob;have Ta:=Ec;clear Eb Fb Ob Ec hb Sb hg;have Gs:Ks.cell? ⟨ya,0,none⟩=some (.slice Ya Qa.length Za):=(ia oa.out 0).trans rfl;have Fs:Ks.cell? ⟨ya,1,none⟩=some (.int .i64 Ja):=(ia oa.out 1).trans rfl;have Es:Ks.cell? ⟨ya,2,none⟩=some (.int .i64 Ga):=(ia oa.out 2).trans rfl;have Ds:Ks.cell? ⟨ya,3,none⟩=some (.int .i64 Ia):=(ia oa.out 3).trans rfl;have Cs:Ks.cell? ⟨ya,4,none⟩=some (.slice Mb Aa.length Cb):=(ia oa.out 4).trans rfl;have Wr:=aa oa.out 0;have Vr:=aa oa.out 1;have Ur:=aa oa.out 2;have Tr:=aa oa.out 3;have Sr:=aa oa.out 4)|((with_reducible refine yb (f:=38) rfl ?_);refine Pc (some 8) rfl rfl Try.func38 (by kernel_rfl) rfl #[.slice Ya Qa.length Za,.int .i64 a1] rfl waH ?_;(with_reducible refine (Li.calls _ _ Qa a1 t102 _ ?Uc ?Tc A3.out).mono ?_);(case Uc=>repeat (first|exact (Kd.Nb Ze.out HB.out)|(with_reducible refine Kd.dc ?_ _)|(with_reducible refine Kd.Zb ?_ _)|(with_reducible refine Kd.Fc ?_)));(case Tc=>exact Af.out);rintro e w' ⟨rfl,⟨nd,rfl⟩⟩;refine ⟨_,rfl,?_⟩)|((with_reducible refine yb (f:=39) rfl ?_);refine Pc (some 14) rfl rfl Try.func39 (by kernel_rfl) rfl #[.slice Mb Aa.length Cb,.int .i64 t102] rfl waH ?_;(with_reducible refine (Td.calls k _ _ Aa t102 t103 _ ?Uc ?Tc A7.out).mono ?_);(case Uc=>repeat (first|exact (Kd.Nb xg.out taH)|(with_reducible refine Kd.dc ?_ _)|(with_reducible refine Kd.Zb ?_ _)|(with_reducible refine Kd.Fc ?_)));(case Tc=>exact ki.out);rintro e dz ⟨rfl,hb⟩;refine ⟨_,rfl,?_⟩;have Eb:=ga.mk (Va (g:=ya) (o:=.cells #[.slice Ya Qa.length Za,.int .i64 Ja,.int .i64 Ga,.int .i64 Ia,.slice Mb Aa.length Cb] 25 (0,0)) vaH hb);have Fb:=ga.mk (Ra taH hb);clear oa HB;have oa:=Eb;have HB:=Fb;clear Eb Fb;(try clear hb);(try clear Uj);(try clear hk);(try clear hi)));go_ret;exact ⟨by first|rfl|(simp [Pa,Oa] <;> rfl)|(simp [*,Pa,Oa] <;> rfl),xaH⟩
end Go.Proofs.Ytkigbdceceeenaa.P
end
