import Derived.Test.YtoomcmaifgkkfaaQRuler1
import Derived.Test.YtoomcmaifgkkfaaQRuler2
set_option maxHeartbeats 8000000
set_option maxRecDepth 100000
section
namespace Go.Proofs.Ytoomcmaifgkkfaa.P
open Go.RowKit Go.Proofs.Ia.Pb Go.Proofs.Ia.Ld Go.Proofs.Ia.De
set_option linter.unusedVariables false
set_option linter.unusedSimpArgs false
attribute [local go_sem] Bi zi Fj Ej mh jh Ai si
def Wg.f (Ma:List (jd)) (La:Int) (Na:Int) (Ka:Int) (oc:Int):Option (List Int):=if La=0 then (some (([Ka]:List Int))) else (if La=1 then (some (([Ka,oc]:List Int))) else (some (([]:List Int))))
theorem Wg.calls (qb:Option Addr) (mb:Nat) (Ma:List (jd)) (La:Int) (Na:Int) (Ka:Int) (oc:Int) (r:List Int) (w:World) (Ae:Kd.C Zf w qb Ma.length Ma) (we:Ma.length ≤ mb) (h:Wg.f Ma La Na Ka oc=some r) :
  Calls Try.prog 85 #[.agg #[.slice qb Ma.length mb,.int .i64 La,.int .i64 Na,.int .i64 Ka,.int .i64 oc]] w fun e w'=>∃ Xn:Value,e = .returned (Xn)∧Kd.R (Kd.int .i64) 3 w' w.heap.size (fun _=>True) Xn r∧Below w.heap.size w w':=by
 have BB:=Try.underlying83;have Ke:=ga.mk Ae;have Ve:=ga.mk we;clear Ae we;have HB:=ga.mk (Below.refl w.heap.size w);have H:(if La=0 then (some (([Ka]:List Int))) else (if La=1 then (some (([Ka,oc]:List Int))) else (some (([]:List Int)))))=some r:=h;clear h
 by_cases c2:La=0
 ·rw [if_pos c2] at H;have js:(La == 0)=true:=beq_iff_eq.mpr c2;have tv:(La != 0)=false:=bne_eq_false_iff_eq.mpr c2;clear c2;obtain ⟨Xd,lf⟩:∃ y_:List Int,y_=(([Ka]:List Int)):=⟨_,rfl⟩;replace H:(some Xd)=some r:=by first|(rw [lf];with_reducible exact H)|(have Md:=(Option.bind_some _ _).symm.trans H;rw [lf];with_reducible exact Md)|(have Md:=(Option.bind_some _ _).symm.trans H;with_reducible exact Md)|with_reducible exact H|(rw [lf];exact H)|exact H
  have xh:=ga.mk lf;clear lf;obtain rfl:=Option.some.inj H;go_enter Try.func85,Try.ntmps85;go_wp2_with (first|((with_reducible refine Ab (N:=1) rfl ?_);refine Kb ?hg (N:=1) ?hd (cs:=#[.slice qb Ma.length mb,.int .i64 La,.int .i64 Na,.int .i64 Ka,.int .i64 oc]) (t:=83) ?hr ?_;(case hd=>rfl);(case hg=>rfl);(case hr=>first|(go_simp;done)|(go_simp;rfl));intro za hg w3 Wb hb;have Eb:=ga.mk (Qa (by repeat (first|(with_reducible first|exact HB.out|apply oa|apply ia|apply qa)|exact HB.out)) hb);have Ib:=ga.mk (Wb);have Sb:=ga.mk ((by rw [hg];exact (Ja (by repeat (first|(with_reducible first|exact HB.out|apply oa|apply ia|apply qa)|exact HB.out))):w.heap.size ≤ za));have yc:=ga.mk ((by rw [hg];exact (Ja (by repeat (first|(with_reducible first|exact HB.out|apply oa|apply ia|apply qa)|exact HB.out))):w.heap.size ≤ za));clear HB;have HB:=Eb;have ta:=Ib;have Be:=Sb;have Sa:=yc;clear Eb Ib Sb yc hb Wb hg;have Q3:w3.cell? ⟨za,0,none⟩=some (.slice qb Ma.length mb):=(ja ta.out 0).trans rfl;have O3:w3.cell? ⟨za,1,none⟩=some (.int .i64 La):=(ja ta.out 1).trans rfl;have L3:w3.cell? ⟨za,2,none⟩=some (.int .i64 Na):=(ja ta.out 2).trans rfl;have K3:w3.cell? ⟨za,3,none⟩=some (.int .i64 Ka):=(ja ta.out 3).trans rfl;have I3:w3.cell? ⟨za,4,none⟩=some (.int .i64 oc):=(ja ta.out 4).trans rfl;have T2:=aa ta.out 0;have O2:=aa ta.out 1;have L2:=aa ta.out 2;have K2:=aa ta.out 3;have I2:=aa ta.out 4)|((with_reducible refine Ab (N:=9) rfl ?_);refine Kd.vk (Kd.int .i64) _ 3 ?hg (N:=9) ?hd (xs:=([Ka]:List Int)) (inner:=[.int .i64 Ka]) (ok:=fun _=>True) (Jh:=fun _=>True) ?hr ?hp (fun _ hk=>hk) trivial (Below.refl _ _) (Nat.le_refl _) (by simp) ?_;(case hd=>rfl);(case hg=>rfl);(case hr=>first|(go_simp;done)|(go_simp;rfl));(case hp=>exact (Sd.one (show Kd.M (Kd.int .i64) _ _ _ Ka [.int .i64 Ka] from rfl) (Sd.none _ _)));intro ji w5 OH hb Ol Re;clear Ol Re;(first|rw [← xh.out] at OH|(simp only [Int.reduceToNat] at OH;rw [← xh.out] at OH));have Eb:=ga.mk (Kd.Fe OH (Ja (by repeat (first|(with_reducible first|exact HB.out|apply oa|apply ia|apply qa|refine ua ?_ Sa.out)|exact HB.out))));have Ib:=ga.mk (Wa (g:=za) (o:=.cells #[.slice qb Ma.length mb,.int .i64 La,.int .i64 Na,.int .i64 Ka,.int .i64 oc] 83 (0,0)) (by (with_reducible repeat (first|refine Ca ?_ _|refine Ea ?_|refine Da ?_ _));exact ta.out) hb);have Sb:=ga.mk (Qa (by repeat (first|(with_reducible first|exact HB.out|apply oa|apply ia|apply qa|refine ua ?_ Sa.out)|exact HB.out)) hb);clear ta HB;have ke:=Eb;have ta:=Ib;have HB:=Sb;clear Eb Ib Sb hb OH));go_ret;exact ⟨_,by first|rfl|(simp [Pa,Oa] <;> rfl)|(simp [*,Pa,Oa] <;> rfl),by (with_reducible repeat (first|apply Kd.Va|apply Kd.Ua|apply Kd.jb));exact ke.out,by repeat (first|(with_reducible first|exact HB.out|apply oa|apply ia|apply qa|refine ua ?_ Sa.out)|exact HB.out)⟩
 ·rw [if_neg c2] at H;have js:(La == 0)=false:=beq_eq_false_iff_ne.mpr c2;have tv:(La != 0)=true:=bne_iff_ne.mpr c2
  by_cases c7:La=1
  ·rw [if_pos c7] at H;have Zr:(La == 1)=true:=beq_iff_eq.mpr c7;have ZB:(La != 1)=false:=bne_eq_false_iff_eq.mpr c7;clear c7;obtain ⟨Le,bh⟩:∃ y_:List Int,y_=(([Ka,oc]:List Int)):=⟨_,rfl⟩;replace H:(some Le)=some r:=by first|(rw [bh];with_reducible exact H)|(have Md:=(Option.bind_some _ _).symm.trans H;rw [bh];with_reducible exact Md)|(have Md:=(Option.bind_some _ _).symm.trans H;with_reducible exact Md)|with_reducible exact H|(rw [bh];exact H)|exact H
   have vq:=ga.mk bh;clear bh;obtain rfl:=Option.some.inj H;go_enter Try.func85,Try.ntmps85;go_wp2_with (first|((with_reducible refine Ab (N:=1) rfl ?_);refine Kb ?hg (N:=1) ?hd (cs:=#[.slice qb Ma.length mb,.int .i64 La,.int .i64 Na,.int .i64 Ka,.int .i64 oc]) (t:=83) ?hr ?_;(case hd=>rfl);(case hg=>rfl);(case hr=>first|(go_simp;done)|(go_simp;rfl));intro za hg w8 Wb hb;have Eb:=ga.mk (Qa (by repeat (first|(with_reducible first|exact HB.out|apply oa|apply ia|apply qa)|exact HB.out)) hb);have Ib:=ga.mk (Wb);have Sb:=ga.mk ((by rw [hg];exact (Ja (by repeat (first|(with_reducible first|exact HB.out|apply oa|apply ia|apply qa)|exact HB.out))):w.heap.size ≤ za));have yc:=ga.mk ((by rw [hg];exact (Ja (by repeat (first|(with_reducible first|exact HB.out|apply oa|apply ia|apply qa)|exact HB.out))):w.heap.size ≤ za));clear HB;have HB:=Eb;have ta:=Ib;have Be:=Sb;have Sa:=yc;clear Eb Ib Sb yc hb Wb hg;have Wn:w8.cell? ⟨za,0,none⟩=some (.slice qb Ma.length mb):=(ja ta.out 0).trans rfl;have Vn:w8.cell? ⟨za,1,none⟩=some (.int .i64 La):=(ja ta.out 1).trans rfl;have Un:w8.cell? ⟨za,2,none⟩=some (.int .i64 Na):=(ja ta.out 2).trans rfl;have Tn:w8.cell? ⟨za,3,none⟩=some (.int .i64 Ka):=(ja ta.out 3).trans rfl;have Sn:w8.cell? ⟨za,4,none⟩=some (.int .i64 oc):=(ja ta.out 4).trans rfl;have Rn:=aa ta.out 0;have Qn:=aa ta.out 1;have Pn:=aa ta.out 2;have Nn:=aa ta.out 3;have Mn:=aa ta.out 4)|((with_reducible refine Ab (N:=16) rfl ?_);refine Kd.vk (Kd.int .i64) _ 3 ?hg (N:=16) ?hd (xs:=([Ka,oc]:List Int)) (inner:=[.int .i64 Ka,.int .i64 oc]) (ok:=fun _=>True) (Jh:=fun _=>True) ?hr ?hp (fun _ hk=>hk) trivial (Below.refl _ _) (Nat.le_refl _) (by simp) ?_;(case hd=>rfl);(case hg=>rfl);(case hr=>first|(go_simp;done)|(go_simp;rfl));(case hp=>exact (Sd.one (show Kd.M (Kd.int .i64) _ _ _ Ka [.int .i64 Ka] from rfl) (Sd.one (show Kd.M (Kd.int .i64) _ _ _ oc [.int .i64 oc] from rfl) (Sd.none _ _))));intro sw Xq Ys hb Ol Re;clear Ol Re;(first|rw [← vq.out] at Ys|(simp only [Int.reduceToNat] at Ys;rw [← vq.out] at Ys));have Eb:=ga.mk (Kd.Fe Ys (Ja (by repeat (first|(with_reducible first|exact HB.out|apply oa|apply ia|apply qa|refine ua ?_ Sa.out)|exact HB.out))));have Ib:=ga.mk (Wa (g:=za) (o:=.cells #[.slice qb Ma.length mb,.int .i64 La,.int .i64 Na,.int .i64 Ka,.int .i64 oc] 83 (0,0)) (by (with_reducible repeat (first|refine Ca ?_ _|refine Ea ?_|refine Da ?_ _));exact ta.out) hb);have Sb:=ga.mk (Qa (by repeat (first|(with_reducible first|exact HB.out|apply oa|apply ia|apply qa|refine ua ?_ Sa.out)|exact HB.out)) hb);clear ta HB;have wm:=Eb;have ta:=Ib;have HB:=Sb;clear Eb Ib Sb hb Ys));go_ret;exact ⟨_,by first|rfl|(simp [Pa,Oa] <;> rfl)|(simp [*,Pa,Oa] <;> rfl),by (with_reducible repeat (first|apply Kd.Va|apply Kd.Ua|apply Kd.jb));exact wm.out,by repeat (first|(with_reducible first|exact HB.out|apply oa|apply ia|apply qa|refine ua ?_ Sa.out)|exact HB.out)⟩
  ·rw [if_neg c7] at H;have Zr:(La == 1)=false:=beq_eq_false_iff_ne.mpr c7;have ZB:(La != 1)=true:=bne_iff_ne.mpr c7;obtain ⟨fB,Yj⟩:∃ y_:List Int,y_=(([]:List Int)):=⟨_,rfl⟩;replace H:(some fB)=some r:=by first|(rw [Yj];with_reducible exact H)|(have Md:=(Option.bind_some _ _).symm.trans H;rw [Yj];with_reducible exact Md)|(have Md:=(Option.bind_some _ _).symm.trans H;with_reducible exact Md)|with_reducible exact H|(rw [Yj];exact H)|exact H
   have Pv:=ga.mk Yj;clear Yj;obtain rfl:=Option.some.inj H;go_enter Try.func85,Try.ntmps85;go_wp2_with (first|((with_reducible refine Ab (N:=1) rfl ?_);refine Kb ?hg (N:=1) ?hd (cs:=#[.slice qb Ma.length mb,.int .i64 La,.int .i64 Na,.int .i64 Ka,.int .i64 oc]) (t:=83) ?hr ?_;(case hd=>rfl);(case hg=>rfl);(case hr=>first|(go_simp;done)|(go_simp;rfl));intro za hg uz Wb hb;have Eb:=ga.mk (Qa (by repeat (first|(with_reducible first|exact HB.out|apply oa|apply ia|apply qa)|exact HB.out)) hb);have Ib:=ga.mk (Wb);have Sb:=ga.mk ((by rw [hg];exact (Ja (by repeat (first|(with_reducible first|exact HB.out|apply oa|apply ia|apply qa)|exact HB.out))):w.heap.size ≤ za));have yc:=ga.mk ((by rw [hg];exact (Ja (by repeat (first|(with_reducible first|exact HB.out|apply oa|apply ia|apply qa)|exact HB.out))):w.heap.size ≤ za));clear HB;have HB:=Eb;have ta:=Ib;have Be:=Sb;have Sa:=yc;clear Eb Ib Sb yc hb Wb hg;have Tr:uz.cell? ⟨za,0,none⟩=some (.slice qb Ma.length mb):=(ja ta.out 0).trans rfl;have Sr:uz.cell? ⟨za,1,none⟩=some (.int .i64 La):=(ja ta.out 1).trans rfl;have Qr:uz.cell? ⟨za,2,none⟩=some (.int .i64 Na):=(ja ta.out 2).trans rfl;have Pr:uz.cell? ⟨za,3,none⟩=some (.int .i64 Ka):=(ja ta.out 3).trans rfl;have Nr:uz.cell? ⟨za,4,none⟩=some (.int .i64 oc):=(ja ta.out 4).trans rfl;have Hr:=aa ta.out 0;have Gr:=aa ta.out 1;have Er:=aa ta.out 2;have Dr:=aa ta.out 3;have Cr:=aa ta.out 4)|((with_reducible refine Ab (N:=17) rfl ?_);refine Kd.vk (Kd.int .i64) _ 3 ?hg (N:=17) ?hd (xs:=([]:List Int)) (inner:=[]) (ok:=fun _=>True) (Jh:=fun _=>True) ?hr ?hp (fun _ hk=>hk) trivial (Below.refl _ _) (Nat.le_refl _) (by simp) ?_;(case hd=>rfl);(case hg=>rfl);(case hr=>first|(go_simp;done)|(go_simp;rfl));(case hp=>exact (Sd.none _ _));intro v109 jH Pz hb Ol Re;clear Ol Re;(first|rw [← Pv.out] at Pz|(simp only [Int.reduceToNat] at Pz;rw [← Pv.out] at Pz));have Eb:=ga.mk (Kd.Fe Pz (Ja (by repeat (first|(with_reducible first|exact HB.out|apply oa|apply ia|apply qa|refine ua ?_ Sa.out)|exact HB.out))));have Ib:=ga.mk (Wa (g:=za) (o:=.cells #[.slice qb Ma.length mb,.int .i64 La,.int .i64 Na,.int .i64 Ka,.int .i64 oc] 83 (0,0)) (by (with_reducible repeat (first|refine Ca ?_ _|refine Ea ?_|refine Da ?_ _));exact ta.out) hb);have Sb:=ga.mk (Qa (by repeat (first|(with_reducible first|exact HB.out|apply oa|apply ia|apply qa|refine ua ?_ Sa.out)|exact HB.out)) hb);clear ta HB;have Us:=Eb;have ta:=Ib;have HB:=Sb;clear Eb Ib Sb hb Pz));go_ret;exact ⟨_,by first|rfl|(simp [Pa,Oa] <;> rfl)|(simp [*,Pa,Oa] <;> rfl),by (with_reducible repeat (first|apply Kd.Va|apply Kd.Ua|apply Kd.jb));exact Us.out,by repeat (first|(with_reducible first|exact HB.out|apply oa|apply ia|apply qa|refine ua ?_ Sa.out)|exact HB.out)⟩
mutual
def Gb.l0:Nat→Int→List Bool→List Int→List Int→Int→Int→Int→List (jf)→Option (List Bool)
 | 0,_,_,_,_,_,_,_,_=>none
 | k + 1,x2,x3,x8,Yc,Zc,Xc,Wc,dc=>if (x8.length:Int) > 0 then (if 0 < (x8.length:Int) then (if 0 ≤ (rd x8 0) then (if (rd x8 0) < (dc.length:Int) then ((Wg.f ((Ta dc (rd x8 0)).f0) ((Ta dc (rd x8 0)).f1) ((Ta dc (rd x8 0)).f2) ((Ta dc (rd x8 0)).f3) ((Ta dc (rd x8 0)).f4)).bind fun t108=>(if 1 ≤ (x8.length:Int) then (Gb.l1 k x2 x3 (x8.drop (1:Int).toNat) t108 0 Yc Zc Xc Wc dc) else (none))) else (none)) else (none)) else (none)) else (some x3)
def Gb.l1:Nat→Int→List Bool→List Int→List Int→Int→List Int→Int→Int→Int→List (jf)→Option (List Bool)
 | 0,_,_,_,_,_,_,_,_,_,_=>none
 | k + 1,x2,x3,x8,x9,ND,Yc,Zc,Xc,Wc,dc=>if ND < (x9.length:Int) then (if 0 ≤ ND then (if (rd x9 ND)=x2 then (Gb.l1 k x2 x3 x8 x9 (wrap64 (ND + 1)) Yc Zc Xc Wc dc) else (if 0 ≤ (rd x9 ND) then (if (rd x9 ND) < (x3.length:Int) then (if (Eg false x3 (rd x9 ND)=true) then (Gb.l1 k x2 x3 x8 x9 (wrap64 (ND + 1)) Yc Zc Xc Wc dc) else (if x8.length < 17592186044416 then (Gb.l1 k x2 (x3.set ((rd x9 ND):Int).toNat true) (x8 ++ [rd x9 ND]) x9 (wrap64 (ND + 1)) Yc Zc Xc Wc dc) else (none))) else (none)) else (none))) else (none)) else (Gb.l0 k x2 x3 x8 Yc Zc Xc Wc dc)
end
def Gb.f (k:Nat) (Ma:List Int) (La:Int) (Na:Int) (Ka:Int) (Fa:List (jf)) (a1:Int) (a2:Int) (l3:List Bool):Option (List Bool):=if 0 ≤ a1 then (if a1 < (l3.length:Int) then (Gb.l0 k a2 (l3.set (a1:Int).toNat true) (([a1]:List Int)) Ma La Na Ka Fa) else (none)) else (none)
def Gb.T4:Bool × List (List Nat × List Nat):=(true,[([],[]),([0],[0]),([],[]),([2],[2]),([3],[3]),([1,4],[1,4]),([5],[5]),([6],[6]),([7,7,0,1,2,3,4,5,6,7],[7])])
def Gb.B4:List Nat:=[0,1,0,4,12,31,63,127,255]
theorem Gb.nT:Em .any (opsOf Try.f102 4)=Gb.T4:=by kernel_rfl
theorem Gb.GN:Yk Gb.T4.2 Gb.B4=true:=by kernel_rfl
theorem Gb.calls (k:Nat) (qb:Option Addr) (mb:Nat) (Ma:List Int) (La:Int) (Na:Int) (Ka:Int) (Lb:Option Addr) (Fb:Nat) (Fa:List (jf)) (a1:Int) (a2:Int) (uv:Nat→Prop) (Bg:Value) (l3:List Bool) (r:List Bool) (w0 w:World) (hB:Below w0.heap.size w0 w) (Ae:∀ W_,Kept w W_ (fun k_=>uv k_)→Kd.C (Kd.int .i64) W_ qb Ma.length Ma) (we:Ma.length ≤ mb) (Uf:∀ W_,Kept w W_ (fun k_=>uv k_)→Kd.C Gp W_ Lb Fa.length Fa) (Lf:Fa.length ≤ Fb) (D2:Kd.R Kd.bool 4 w w0.heap.size uv Bg l3) (h:Gb.f k Ma La Na Ka Fa a1 a2 l3=some r) :
  Calls Try.prog 102 #[.agg #[.slice qb Ma.length mb,.int .i64 La,.int .i64 Na,.int .i64 Ka,.slice Lb Fa.length Fb],.int .i64 a1,.int .i64 a2,Bg] w fun e w'=>e = .returned (.tuple #[])∧Kd.R Kd.bool 4 w' w0.heap.size (fun k_=>(uv k_ ∨ w.heap.size ≤ k_)) Bg r∧Below w0.heap.size w0 w'∧Kept w w' (fun k_=>uv k_):=by
 have Oz:=Try.underlying45;have BB:=Try.underlying83;have Ke:=ga.mk Ae;have Ve:=ga.mk we;clear Ae we;have kg:=ga.mk Uf;have Tg:=ga.mk Lf;clear Uf Lf;have JD:=ga.mk (show Kd.R Kd.bool 4 w w0.heap.size (fun k_=>(uv k_ ∨ w.heap.size ≤ k_)) Bg l3 from Kd.Mc D2 (fun k_ hk=>(.inl hk)));have HK:=ga.mk (Kept.refl w (fun k_=>uv k_));have HW0:=ga.mk hB.size;have HB:=ga.mk hB;clear hB;have H:(if 0 ≤ a1 then (if a1 < (l3.length:Int) then (Gb.l0 k a2 (l3.set (a1:Int).toNat true) (([a1]:List Int)) Ma La Na Ka Fa) else (none)) else (none))=some r:=h;clear h;obtain ⟨Xd,lf⟩:∃ y_:List Int,y_=(([a1]:List Int)):=⟨_,rfl⟩;replace H:(if 0 ≤ a1 then (if a1 < (l3.length:Int) then (Gb.l0 k a2 (l3.set (a1:Int).toNat true) Xd Ma La Na Ka Fa) else (none)) else (none))=some r:=by first|(rw [lf];with_reducible exact H)|(have Md:=(Option.bind_some _ _).symm.trans H;rw [lf];with_reducible exact Md)|(have Md:=(Option.bind_some _ _).symm.trans H;with_reducible exact Md)|with_reducible exact H|(rw [lf];exact H)|exact H
 have xh:=ga.mk lf;clear lf
 by_cases c5:0 ≤ a1
 ·rw [if_pos c5] at H;have qn:decide (0 ≤ a1)=true:=decide_eq_true c5;clear c5
  by_cases c6:a1 < (l3.length:Int)
  ·rw [if_pos c6] at H;have bp:decide (a1 < (l3.length:Int))=true:=decide_eq_true c6;clear c6;obtain ⟨Le,bh⟩:∃ y_:List Bool,y_=(l3.set (a1:Int).toNat true):=⟨_,rfl⟩;replace H:(Gb.l0 k a2 Le Xd Ma La Na Ka Fa)=some r:=by first|(rw [bh];with_reducible exact H)|(have Md:=(Option.bind_some _ _).symm.trans H;rw [bh];with_reducible exact Md)|(have Md:=(Option.bind_some _ _).symm.trans H;with_reducible exact Md)|with_reducible exact H|(rw [bh];exact H)|exact H
   have vq:=ga.mk bh;clear bh;have H':=ga.mk H;clear H;go_enter Try.func102,Try.ntmps102;go_wp2_with (first|((with_reducible refine Ab (N:=4) rfl ?_);refine Kb ?hg (N:=4) ?hd (cs:=#[.slice qb Ma.length mb,.int .i64 La,.int .i64 Na,.int .i64 Ka,.slice Lb Fa.length Fb]) (t:=45) ?hr ?_;(case hd=>rfl);(case hg=>rfl);(case hr=>first|(go_simp;done)|(go_simp;rfl));intro za hg w8 Wb hb;have Eb:=ga.mk (Kd.Dd (by (with_reducible repeat (first|apply Kd.Va|apply Kd.Ua|apply Kd.jb));exact JD.out) hb);have Ib:=ga.mk (Kept.below (S:=(fun k_=>uv k_)) (by repeat (first|(with_reducible first|exact HK.out|apply Kept.alloc|apply Kept.drewN|apply Kept.drew)|exact HK.out)) hb);have Sb:=ga.mk (Qa (by repeat (first|(with_reducible first|exact HB.out|apply oa|apply ia|apply qa)|exact HB.out)) hb);have yc:=ga.mk (Wb);have Ee:=ga.mk ((by rw [hg];exact (by first|exact HK.out.1|exact (show Kept w _ (fun k_=>uv k_) from by repeat (first|(with_reducible first|exact HK.out|apply Kept.alloc|apply Kept.drewN|apply Kept.drew)|exact HK.out)).1):w.heap.size ≤ za));have mg:=ga.mk ((by rw [hg];exact (Ja (by repeat (first|(with_reducible first|exact HB.out|apply oa|apply ia|apply qa)|exact HB.out))):w0.heap.size ≤ za));clear JD HK HB;have JD:=Eb;have HK:=Ib;have HB:=Sb;have ta:=yc;have Be:=Ee;have Sa:=mg;clear Eb Ib Sb yc Ee mg hb Wb hg)|((with_reducible refine Ab (N:=12) rfl ?_);refine Kd.vk (Kd.int .i64) _ 3 ?hg (N:=12) ?hd (xs:=([a1]:List Int)) (inner:=[.int .i64 a1]) (ok:=fun _=>True) (Jh:=fun _=>True) ?hr ?hp (fun _ hk=>hk) trivial (Below.refl _ _) (Nat.le_refl _) (by simp) ?_;(case hd=>rfl);(case hg=>rfl);(case hr=>first|(go_simp;done)|(go_simp;rfl));(case hp=>exact (Sd.one (show Kd.M (Kd.int .i64) _ _ _ a1 [.int .i64 a1] from rfl) (Sd.none _ _)));intro ji w9 MQ hb Ol Re;clear Ol Re;(first|rw [← xh.out] at MQ|(simp only [Int.reduceToNat] at MQ;rw [← xh.out] at MQ));have Eb:=ga.mk (Kd.Dd (by (with_reducible repeat (first|apply Kd.Va|apply Kd.Ua|apply Kd.jb));exact JD.out) hb);have Ib:=ga.mk (Kd.Fe (Kd.tS (M:=fun k_=>(uv k_ ∨ w.heap.size ≤ k_)) MQ (by first|exact HK.out.1|exact (show Kept w _ (fun k_=>uv k_) from by repeat (first|(with_reducible first|exact HK.out|apply Kept.alloc|apply Kept.drewN|apply Kept.drew|refine Kept.setCell ?_ (.inr Be.out) _)|exact HK.out)).1) (fun k_ h_=>.inr h_)) (Ja (by repeat (first|(with_reducible first|exact HB.out|apply oa|apply ia|apply qa|refine ua ?_ Sa.out)|exact HB.out))));have Sb:=ga.mk (Wa (g:=za) (o:=.cells #[.slice qb Ma.length mb,.int .i64 La,.int .i64 Na,.int .i64 Ka,.slice Lb Fa.length Fb] 45 (0,0)) (by (with_reducible repeat (first|refine Ca ?_ _|refine Ea ?_|refine Da ?_ _));exact ta.out) hb);have yc:=ga.mk (Kept.below (S:=(fun k_=>uv k_)) (by repeat (first|(with_reducible first|exact HK.out|apply Kept.alloc|apply Kept.drewN|apply Kept.drew|refine Kept.setCell ?_ (.inr Be.out) _)|exact HK.out)) hb);have Ee:=ga.mk (Qa (by repeat (first|(with_reducible first|exact HB.out|apply oa|apply ia|apply qa|refine ua ?_ Sa.out)|exact HB.out)) hb);clear JD ta HK HB;have JD:=Eb;have ke:=Ib;have ta:=Sb;have HK:=yc;have HB:=Ee;clear Eb Ib Sb yc Ee hb MQ;have p7:0 ≤ (a1:Int):=of_decide_eq_true (by first|(with_reducible assumption)|assumption);have q7:(a1:Int) < ((l3.length:Int):Int):=of_decide_eq_true (by first|(with_reducible assumption)|assumption);obtain ⟨lK,U4,eo7,gb7,gl7,cl7,HG7⟩:=Kd.Uk JD.out (by omega);(first|cases eo7|(injection eo7 with Si nv ov;(first|subst Si|(injection Si with Si;subst Si));subst ov;clear nv));have GB7:=ga.mk gb7;have GG7:=ga.mk HG7;clear gb7 gl7 HG7;have zav:=ga.mk (show (uv lK ∨ w.heap.size ≤ lK) from (JD.out.1 _ rfl));obtain ⟨uQ,paa⟩:=Kd.Fh false JD.out (a1:Int) p7 q7;replace p7:=eq_true p7;replace q7:=eq_true q7;obtain ⟨war,uar⟩:=Kd.Fh false JD.out (a1:Int) (of_decide_eq_true (by first|(with_reducible assumption)|assumption)) (of_decide_eq_true (by first|(with_reducible assumption)|assumption));have YK:=Kd.Jm JD.out (a1:Int) true)|((with_reducible refine gf (t:=4) (p:=15) rfl ?_);refine Ie (t:=4) (p:=15) (v:=?gan) (w1:=(w9.setCell ⟨lK,(a1:Int).toNat,none⟩ (.bool true))) ?hg ?ho ?hn ?hr ?_;(case ho=>rfl);(case hg=>rfl);(case hn=>rfl);(case hr=>first|(go_simp;done)|(go_simp;rfl));intro uz hw;have hg:w9.grownBy uz (some lK):=(by rw [hw];exact YK.2);have Hl:Kd.R Kd.bool 4 uz w0.heap.size (fun k_=>(uv k_ ∨ w.heap.size ≤ k_)) (.slice (some ⟨lK,0,none⟩) l3.length U4) Le:=(by rw [hw,vq.out];exact YK.1);clear YK;have Eb:=ga.mk (Hl);have Ib:=ga.mk (Kf (g:=za) (o:=.cells #[.slice qb Ma.length mb,.int .i64 La,.int .i64 Na,.int .i64 Ka,.slice Lb Fa.length Fb] 45 (0,0)) (by (with_reducible repeat (first|refine Ca ?_ _|refine Ea ?_|refine Da ?_ _));exact ta.out) hg (Kd.Rq JD.out ta.out (by decide)));have Sb:=ga.mk (Kd.Nk (v:=(.slice (some ⟨lK,0,none⟩) l3.length U4)) (by (with_reducible repeat (first|apply Kd.Va|apply Kd.Ua|apply Kd.jb));exact ke.out) (Kd.Mk JD.out) (by decide) hg);have yc:=ga.mk ((by rw [hw];exact ua (HB.out) GB7.out:Below w0.heap.size w0 uz));have Ee:=ga.mk (Kept.Sg (S:=(fun k_=>uv k_)) hg (by repeat (first|(with_reducible first|exact HK.out|apply Kept.alloc|apply Kept.drewN|apply Kept.drew|refine Kept.setCell ?_ (.inr Be.out) _)|exact HK.out)) (fun k_ e_=>(JD.out.1 k_ e_)));clear JD ta ke HB HK;have JD:=Eb;have ta:=Ib;have ke:=Sb;have HB:=yc;have HK:=Ee;clear Eb Ib Sb yc Ee hg hw Hl))
   go_loopg [8] k (fun kq v8 w'=>∃ (Cc:List Bool) (ye:List Int),ga (Gb.l0 kq a2 Cc ye Ma La Na Ka Fa=some r)∧ga (kq ≤ k)∧ga (Kd.R Kd.bool 4 w' w0.heap.size (fun k_=>(uv k_ ∨ w.heap.size ≤ k_)) (.slice (some ⟨lK,0,none⟩) l3.length U4) Cc)∧ga (Kd.Q (Kd.int .i64) 3 w' w0.heap.size (fun k_=>(uv k_ ∨ w.heap.size ≤ k_)) v8 ye)∧ga (w'.heap[za]? = some (.cells #[(.slice qb Ma.length mb),.int .i64 La,.int .i64 Na,.int .i64 Ka,(.slice Lb Fa.length Fb)] 45 (0,0)))∧ga (Kept w w' (fun k_=>uv k_))∧ga (Below w0.heap.size w0 w'))
   case atStart=>exact ⟨(Le),(Xd),H',⟨Nat.le_refl _⟩,⟨by (with_reducible repeat (first|apply Kd.Va|apply Kd.Ua|apply Kd.jb));exact JD.out⟩,⟨Kd.SK (by (with_reducible repeat (first|apply Kd.Va|apply Kd.Ua|apply Kd.jb));exact Kd.Mc ke.out (fun _ hk=>hk.1))⟩,⟨by (with_reducible repeat (first|refine Ca ?_ _|refine Ea ?_|refine Da ?_ _));exact ta.out⟩,⟨by repeat (first|(with_reducible first|exact HK.out|apply Kept.alloc|apply Kept.drewN|apply Kept.drew|refine Kept.setCell ?_ (.inr Be.out) _)|exact HK.out)⟩,⟨by repeat (first|(with_reducible first|exact HB.out|apply oa|apply ia|apply qa|refine ua ?_ Sa.out)|exact HB.out)⟩⟩
   case round =>
    clear H'
    try clear c1
    try clear p2
    try clear c5
    try clear qn
    try clear c6
    try clear bp
    try clear p7
    try clear q7
    try clear hx7
    try clear hf7
    try clear cT
    try clear uQ
    try clear p7
    try clear q7
    (try clear HA);(try clear uf);(try clear qc);(try clear vm);(try clear ta);(try clear HK);(try clear HB);obtain ⟨Cc,ye,HA,uf,qc,vm,ta,HK,HB⟩:=hrel;have ij:=(Kd.Jb qc.out).1;rw [ij] at qc;(try simp only [ij]);(try simp only [ij] at ta);(try simp only [ij] at vm);cases gk with
    | zero=>exact absurd HA.out (by simp [Gb.l0])
    | succ k1 =>
     have H:=HA.out;clear HA;simp only [Gb.l0] at H
     by_cases Yt:(ye.length:Int) > 0
     ·rw [if_pos Yt] at H;have Kv:decide (0 < (ye.length:Int))=true:=decide_eq_true Yt;have OY:decide (0 < ye.length)=true:=decide_eq_true (by omega);clear Yt
      by_cases Bs:0 < (ye.length:Int)
      ·rw [if_pos Bs] at H;have Jv:decide (0 < (ye.length:Int))=true:=decide_eq_true Bs;have dS:decide (0 < ye.length)=true:=decide_eq_true (by omega);clear Bs
       by_cases Qz:0 ≤ (rd ye 0)
       ·rw [if_pos Qz] at H;have yD:decide (0 ≤ (rd ye 0))=true:=decide_eq_true Qz;clear Qz
        by_cases jt:(rd ye 0) < (Fa.length:Int)
        ·rw [if_pos jt] at H;have cC:decide ((rd ye 0) < (Fa.length:Int))=true:=decide_eq_true jt;clear jt;replace H:=Option.bind_eq_some_iff.mp H;obtain ⟨t108,PS,H⟩:=H;replace H:(if 1 ≤ (ye.length:Int) then (Gb.l1 k1 a2 Cc (ye.drop (1:Int).toNat) t108 0 Ma La Na Ka Fa) else (none))=some r:=H;have uP:=ga.mk PS;clear PS
         by_cases Bp:1 ≤ (ye.length:Int)
         ·rw [if_pos Bp] at H;have vn:=eq_true Bp;have uy:decide (1 ≤ (ye.length:Int))=true:=decide_eq_true Bp;clear Bp;obtain ⟨xJ,KH⟩:∃ y_:List Int,y_=(ye.drop (1:Int).toNat):=⟨_,rfl⟩;replace H:(Gb.l1 k1 a2 Cc xJ t108 0 Ma La Na Ka Fa)=some r:=by first|(rw [KH];with_reducible exact H)|(have Md:=(Option.bind_some _ _).symm.trans H;rw [KH];with_reducible exact Md)|(have Md:=(Option.bind_some _ _).symm.trans H;with_reducible exact Md)|with_reducible exact H|(rw [KH];exact H)|exact H
          have YY:=ga.mk KH;clear KH;have H':=ga.mk H;clear H;obtain ⟨Xaq,UR,L4,_⟩:=Kd.Cy vm.out;subst L4
          try go_wp2
          have Eb:=ga.mk (Kd.jb qc.out);have Ib:=ga.mk (Kd.Ni vm.out);have Sb:=ga.mk (Ea ta.out);have yc:=ga.mk (Kept.drew HK.out);have Ee:=ga.mk (qa HB.out);clear qc vm ta HK HB;have qc:=Eb;have vm:=Ib;have ta:=Sb;have HK:=yc;have HB:=Ee;clear Eb Ib Sb yc Ee;have PT:0 ≤ (0:Int):=(by omega);have JT:0 < (ye.length:Int):=of_decide_eq_true (by first|(with_reducible assumption)|assumption);obtain ⟨BD,iaq,Fw⟩:=Kd.Te (Kd.nC vm.out).2.2 0 PT JT;cases iaq;have nar:(0 < ye.length)=True:=eq_true (by omega);(try rw [show ((0:Int)).toNat=0 from rfl] at Fw);(try rw [Addr.add_zero'] at Fw);replace PT:=eq_true PT;replace JT:=eq_true JT;have OT:0 ≤ ((rd ye 0):Int):=of_decide_eq_true (by first|(with_reducible assumption)|assumption);have FT:(rd ye 0) < (Fa.length:Int):=of_decide_eq_true (by first|(with_reducible assumption)|assumption);obtain ⟨uq,SS,fS,haq,Zz,Yz,Xz,Wz,Vz,ML,RL⟩:=Sk (Kd.dL kg.out HK.out) (rd ye 0) OT FT;have qaf:=Vz;have raf:=Wz;have saf:=Xz;have taf:=Yz;have uaf:=Zz;cases haq;have Ks:=ga.mk RL;have GX:=ga.mk ML;clear RL ML;replace OT:=eq_true OT;replace FT:=eq_true FT;refine cl (n:=9) (S:=fun w'=>w'.cell? ⟨za,0,none⟩=some (.slice qb Ma.length mb)∧w'.cell? ⟨za,1,none⟩=some (.int .i64 La)∧w'.cell? ⟨za,2,none⟩=some (.int .i64 Na)∧w'.cell? ⟨za,3,none⟩=some (.int .i64 Ka)∧w'.cell? ⟨za,4,none⟩=some (.slice (some uq) Fa.length Fb)∧w'.cell? BD=some (.int .i64 (rd ye 0))∧w'.cell? (uq.add (((rd ye 0)).toNat * 5))=some (.slice SS ((Ta Fa (rd ye 0)).f0).length fS)∧w'.cell? ⟨(uq.add (((rd ye 0)).toNat * 5)).block,(uq.add (((rd ye 0)).toNat * 5)).off + 1,none⟩=some (.int .i64 ((Ta Fa (rd ye 0)).f1))∧w'.cell? ⟨(uq.add (((rd ye 0)).toNat * 5)).block,(uq.add (((rd ye 0)).toNat * 5)).off + 2,none⟩=some (.int .i64 ((Ta Fa (rd ye 0)).f2))∧w'.cell? ⟨(uq.add (((rd ye 0)).toNat * 5)).block,(uq.add (((rd ye 0)).toNat * 5)).off + 3,none⟩=some (.int .i64 ((Ta Fa (rd ye 0)).f3))∧w'.cell? ⟨(uq.add (((rd ye 0)).toNat * 5)).block,(uq.add (((rd ye 0)).toNat * 5)).off + 4,none⟩=some (.int .i64 ((Ta Fa (rd ye 0)).f4))) (ds:=[]) #[false,false,false,false,false,false,false,false,false] (by kernel_rfl) rfl rfl ⟨(ja ta.out 0).trans rfl,(ja ta.out 1).trans rfl,(ja ta.out 2).trans rfl,(ja ta.out 3).trans rfl,(ja ta.out 4).trans rfl,Fw,Zz,Yz,Xz,Wz,Vz⟩ (fun hHeld=>?_);refine qi Gb.nT Gb.GN (fun Wf Hs=>?_);generalize wr.drew=w20 at qc vm ta HK HB Ks Fw Zz Yz Xz Wz Vz hHeld ⊢;refine Bd (i:=0) (N:=some 19) (v:=?_) (a':=?_) #[true,false,false,false,false,false,false,false,false] rfl rfl (Lc Wf.out (by kernel_rfl)) (fun _ _ _ h=>h) (Or.inl ⟨by rfl,?_⟩) ?_ ?_;rotate_left
          ·intro w';go_simp;with_reducible rfl
          rotate_left
          ·simp only [Act.put,List.setIfInBounds_toArray,List.set_cons_zero,List.set_cons_succ,fc,ic]
           rfl
          refine Bd (i:=2) (N:=some 21) (v:=?_) (a':=?_) #[true,false,true,false,false,false,false,false,false] rfl rfl (Lc Wf.out (by kernel_rfl)) (fun _ _ _ h=>h) (Or.inl ⟨by rfl,?_⟩) ?_ ?_;rotate_left
          ·intro w';go_simp;with_reducible rfl
          rotate_left
          ·simp only [Act.put,List.setIfInBounds_toArray,List.set_cons_zero,List.set_cons_succ,fc,ic]
           rfl
          refine Bd (i:=3) (N:=some 22) (v:=?_) (a':=?_) #[true,false,true,true,false,false,false,false,false] rfl rfl (Lc Wf.out (by kernel_rfl)) (fun _ _ _ h=>h) (Or.inl ⟨by rfl,?_⟩) ?_ ?_;rotate_left
          ·intro w';go_simp;with_reducible rfl
          rotate_left
          ·simp only [Act.put,List.setIfInBounds_toArray,List.set_cons_zero,List.set_cons_succ,fc,ic]
           rfl
          refine th (i:=1) (N:=some 20) (v:=?_) (a':=?_) #[true,true,true,true,false,false,false,false,false] rfl rfl (Ze Wf.out Hs.out (by kernel_rfl)) (fun _ _ _ h=>h) (Or.inl ⟨by rfl,?_⟩) hHeld ?_ ?_;rotate_left
          ·rintro w' ⟨s0,s1,s2,s3,s4,s5,s6,s7,s8,s9,GJ⟩;go_simp;with_reducible rfl
          rotate_left
          ·simp only [Act.put,List.setIfInBounds_toArray,List.set_cons_zero,List.set_cons_succ,fc,ic]
           rfl
          refine th (i:=4) (N:=some 23) (v:=?_) (a':=?_) #[true,true,true,true,true,false,false,false,false] rfl rfl (Ze Wf.out Hs.out (by kernel_rfl)) (fun _ _ _ h=>h) (Or.inl ⟨by rfl,?_⟩) hHeld ?_ ?_;rotate_left
          ·rintro w' ⟨s0,s1,s2,s3,s4,s5,s6,s7,s8,s9,GJ⟩;go_simp;with_reducible rfl
          rotate_left
          ·simp only [Act.put,List.setIfInBounds_toArray,List.set_cons_zero,List.set_cons_succ,fc,ic]
           rfl
          refine Bd (i:=5) (N:=some 24) (v:=?_) (a':=?_) #[true,true,true,true,true,true,false,false,false] rfl rfl (Lc Wf.out (by kernel_rfl)) (fun _ _ _ h=>h) (Or.inl ⟨by rfl,?_⟩) ?_ ?_;rotate_left
          ·intro w';go_simp;with_reducible rfl
          rotate_left
          ·simp only [Act.put,List.setIfInBounds_toArray,List.set_cons_zero,List.set_cons_succ,fc,ic]
           rfl
          refine th (i:=6) (N:=some 25) (v:=?_) (a':=?_) #[true,true,true,true,true,true,true,false,false] rfl rfl (Ze Wf.out Hs.out (by kernel_rfl)) (fun _ _ _ h=>h) (Or.inl ⟨by rfl,?_⟩) hHeld ?_ ?_;rotate_left
          ·rintro w' ⟨s0,s1,s2,s3,s4,s5,s6,s7,s8,s9,GJ⟩;go_simp;with_reducible rfl
          rotate_left
          ·simp only [Act.put,List.setIfInBounds_toArray,List.set_cons_zero,List.set_cons_succ,fc,ic]
           rfl
          refine Dw (i:=7) (N:=some 26) #[true,true,true,true,true,true,true,true,false] rfl rfl (Ln Wf.out (by kernel_rfl)) (by decide) (fun K hK=>?_);refine Ts Try.func85 (by kernel_rfl) rfl #[.agg #[.slice SS ((Ta Fa (rd ye 0)).f0).length fS,.int .i64 ((Ta Fa (rd ye 0)).f1),.int .i64 ((Ta Fa (rd ye 0)).f2),.int .i64 ((Ta Fa (rd ye 0)).f3),.int .i64 ((Ta Fa (rd ye 0)).f4)]] (by rfl) rfl rfl (by (try simp only [List.map_toArray,List.map_cons,List.map_nil]);first|done|rfl|(simp only [List.length_drop,List.length_take];rfl)) ?_;with_reducible refine (Wg.calls _ _ ((Ta Fa (rd ye 0)).f0) ((Ta Fa (rd ye 0)).f1) ((Ta Fa (rd ye 0)).f2) ((Ta Fa (rd ye 0)).f3) ((Ta Fa (rd ye 0)).f4) t108 _ ?Fc ?Ec uP.out).mono ?_
          (case Fc=>repeat (first|exact (by repeat (first|(with_reducible exact Ks.out)|(with_reducible refine Kd.Ub ?_ _)|(with_reducible refine Kd.Tb ?_ _)|(with_reducible refine Kd.mc ?_)|exact Ks.out))|(with_reducible refine Kd.Ub ?_ _)|(with_reducible refine Kd.Tb ?_ _)|(with_reducible refine Kd.mc ?_)))
          (case Ec=>exact GX.out)
          rintro e Rs ⟨v109,rfl,Ri,hb⟩;have K6:=(hb.cell (World.block_lt_of_cell? _ _ (hHeld.2.2.2.2.2.1))).trans (hHeld.2.2.2.2.2.1);have Caq:=(hb.cell (World.block_lt_of_cell? _ _ (hHeld.2.2.2.2.2.2.1))).trans (hHeld.2.2.2.2.2.2.1);have Baq:=(hb.cell (World.block_lt_of_cell? _ _ (hHeld.2.2.2.2.2.2.2.1))).trans (hHeld.2.2.2.2.2.2.2.1);have Aaq:=(hb.cell (World.block_lt_of_cell? _ _ (hHeld.2.2.2.2.2.2.2.2.1))).trans (hHeld.2.2.2.2.2.2.2.2.1);have zaq:=(hb.cell (World.block_lt_of_cell? _ _ (hHeld.2.2.2.2.2.2.2.2.2.1))).trans (hHeld.2.2.2.2.2.2.2.2.2.1);have cae:=(hb.cell (World.block_lt_of_cell? _ _ (hHeld.2.2.2.2.2.2.2.2.2.2))).trans (hHeld.2.2.2.2.2.2.2.2.2.2);refine ⟨_,rfl,?_⟩;have Eb:=ga.mk (Kd.Dd (by (with_reducible repeat (first|apply Kd.Va|apply Kd.Ua|apply Kd.jb));exact qc.out) hb);have Ib:=ga.mk (Kd.WI (by (with_reducible repeat (first|apply Kd.Yh|apply Kd.Xh|apply Kd.Ni));exact vm.out) (Kd.Mh Ri) hb);have Sb:=ga.mk (Kd.Fe (Kd.qm (Kd.tS (M:=fun k_=>(uv k_ ∨ w.heap.size ≤ k_)) Ri (by first|exact HK.out.1|exact (show Kept w _ (fun k_=>uv k_) from by repeat (first|(with_reducible first|exact HK.out|apply Kept.alloc|apply Kept.drewN|apply Kept.drew|refine Kept.setCell ?_ (.inr Be.out) _)|exact HK.out)).1) (fun k_ h_=>.inr h_)) (Kd.xad (by (with_reducible repeat (first|apply Kd.Yh|apply Kd.Xh|apply Kd.Ni));exact vm.out))) (Ja (by repeat (first|(with_reducible first|exact HB.out|apply oa|apply ia|apply qa|refine ua ?_ Sa.out)|exact HB.out))));have yc:=ga.mk (Wa (g:=za) (o:=.cells #[.slice qb Ma.length mb,.int .i64 La,.int .i64 Na,.int .i64 Ka,.slice (some uq) Fa.length Fb] 45 (0,0)) (by (with_reducible repeat (first|refine Ca ?_ _|refine Ea ?_|refine Da ?_ _));exact ta.out) hb);have Ee:=ga.mk (Kd.Nb (by repeat (first|(with_reducible exact Ks.out)|(with_reducible refine Kd.Ub ?_ _)|(with_reducible refine Kd.Tb ?_ _)|(with_reducible refine Kd.mc ?_)|exact Ks.out)) hb);have mg:=ga.mk (Kept.below (S:=(fun k_=>uv k_)) (by repeat (first|(with_reducible first|exact HK.out|apply Kept.alloc|apply Kept.drewN|apply Kept.drew|refine Kept.setCell ?_ (.inr Be.out) _)|exact HK.out)) hb);have di:=ga.mk (Qa (by repeat (first|(with_reducible first|exact HB.out|apply oa|apply ia|apply qa|refine ua ?_ Sa.out)|exact HB.out)) hb);clear qc vm ta Ks HK HB;have qc:=Eb;have vm:=Ib;have Us:=Sb;have ta:=yc;have Ks:=Ee;have HK:=mg;have HB:=di;clear Eb Ib Sb yc Ee mg di;(try clear hb);(try clear Qj);(try clear hk);(try clear hi);(try clear Ri);refine hK.out _ _ ⟨(ja ta.out 0).trans rfl,(ja ta.out 1).trans rfl,(ja ta.out 2).trans rfl,(ja ta.out 3).trans rfl,(ja ta.out 4).trans rfl,K6,Caq,Baq,Aaq,zaq,cae⟩ (fun hHeld=>?_);clear hK K;refine Fp (a':=?_) ?_ ?_;rotate_left
          ·show Act.put _ (some 26) _=_
           simp only [Act.put,List.setIfInBounds_toArray,List.set_cons_zero,List.set_cons_succ,fc,ic]
           rfl
          refine Bd (i:=8) (N:=some 9) (v:=?_) (a':=?_) #[true,true,true,true,true,true,true,true,true] rfl rfl (Lc Wf.out (by kernel_rfl)) (fun _ _ _ h=>h) (Or.inl ⟨by rfl,?_⟩) ?_ ?_;rotate_left
          ·intro w';go_simp;with_reducible rfl
          rotate_left
          ·simp only [Act.put,List.setIfInBounds_toArray,List.set_cons_zero,List.set_cons_succ,fc,ic]
           rfl
          refine pq (Jk Wf.out (by kernel_rfl)) ?_;have zT:(1:Int) ≤ ((ye.length:Int):Int):=of_decide_eq_true (by first|(with_reducible assumption)|assumption);obtain ⟨Ian,SH,_,JL,_⟩:=info_parts info3;have jK:=BI (P:=Try.prog) 22 3 .i64 Try.underlying22 SH 1 JL (some BD) ye.length UR 1 (by omega) zT;have LC:=Kd.uS (k:=(1:Int).toNat) vm.out (by omega);obtain ⟨JZ,PW⟩:∃ A1,A1=(if UR=(1:Int).toNat then (some BD) else ((some BD):Option Addr).map (·.add ((1:Int).toNat * 1))):=⟨_,rfl⟩;obtain ⟨Fz,W3⟩:∃ c1,c1=UR - (1:Int).toNat:=⟨_,rfl⟩;have KO:xJ.length=ye.length - (1:Int).toNat:=(by rw [YY.out,List.length_drop]);rw [← YY.out] at LC;rw [← KO,← PW,← W3] at jK;replace LC:Kd.Q (Kd.int .i64) 3 Rs w0.heap.size (fun k_=>(uv k_ ∨ w.heap.size ≤ k_)∧some k_ ≠ (v109:Value).ownBlock) (.slice JZ xJ.length Fz) xJ:=(by rw [PW,W3,KO];exact LC);have Haq:ga ((Value.slice JZ xJ.length Fz).ownBlock=(.slice (some BD) ye.length UR:Value).ownBlock):=⟨by rw [PW];split <;> (cases ((some BD):Option Addr) <;> rfl)⟩;clear KO SH JL vm PW W3;have rae:=ga.mk LC;clear LC;replace zT:=eq_true zT;have n_:=ga.mk (Kd.Mc (vp:=fun k_=>((((uv k_ ∨ w.heap.size ≤ k_))∧True)∧some k_ ≠ (.slice JZ xJ.length Fz:Value).ownBlock)) Us.out (fun k_ hk=>⟨⟨hk.1.1,trivial⟩,(by rw [Haq.out];exact hk.2)⟩));clear Us;have Us:=n_;clear n_
          try go_wp2
          go_loopg [8,10] k1 (fun kq v8 v10 w'=>∃ (Rj:List Bool) (He:List Int) (qe:Int),v10 = .int .i64 qe∧ga (Gb.l1 kq a2 Rj He t108 qe Ma La Na Ka Fa=some r)∧ga (kq ≤ k1)∧ga (Kd.R Kd.bool 4 w' w0.heap.size (fun k_=>(uv k_ ∨ w.heap.size ≤ k_)) (.slice (some ⟨lK,0,none⟩) Cc.length U4) Rj)∧ga (Kd.Q (Kd.int .i64) 3 w' w0.heap.size (fun k_=>(uv k_ ∨ w.heap.size ≤ k_)∧some k_ ≠ (v109:Value).ownBlock) v8 He)∧ga (Kd.R (Kd.int .i64) 3 w' w0.heap.size (fun k_=>(uv k_ ∨ w.heap.size ≤ k_)∧some k_ ≠ (v8:Value).ownBlock) v109 t108)∧ga (w'.heap[za]? = some (.cells #[(.slice qb Ma.length mb),.int .i64 La,.int .i64 Na,.int .i64 Ka,(.slice (some uq) Fa.length Fb)] 45 (0,0)))∧ga (Kept w w' (fun k_=>uv k_))∧ga (Below w0.heap.size w0 w'))
          case atStart=>exact ⟨(Cc),(xJ),(0),(by first|rfl|(simp;done)|(simp [*];done)),H',⟨Nat.le_refl _⟩,⟨by (try simp only [ij]);(with_reducible repeat (first|apply Kd.Va|apply Kd.Ua|apply Kd.jb));exact qc.out⟩,⟨by (try simp only [ij]);(with_reducible repeat (first|apply Kd.Yh|apply Kd.Xh|apply Kd.Ni));exact rae.out⟩,⟨by (try simp only [ij]);(with_reducible repeat (first|apply Kd.Va|apply Kd.Ua|apply Kd.jb));exact Kd.Mc Us.out (fun _ hk=>⟨hk.1.1,hk.2⟩)⟩,⟨by (try simp only [ij]);(with_reducible repeat (first|refine Ca ?_ _|refine Ea ?_|refine Da ?_ _));exact ta.out⟩,⟨by repeat (first|(with_reducible first|exact HK.out|apply Kept.alloc|apply Kept.drewN|apply Kept.drew|refine Kept.setCell ?_ (.inr Be.out) _)|exact HK.out)⟩,⟨by repeat (first|(with_reducible first|exact HB.out|apply oa|apply ia|apply qa|refine ua ?_ Sa.out)|exact HB.out)⟩⟩
          case round =>
           clear H'
           try clear c1
           try clear p1
           try clear q1
           try clear hx1
           try clear qi1
           try clear c2
           try clear p2
           try clear q2
           try clear c5
           try clear qn
           try clear c6
           try clear bp
           try clear p7
           try clear q7
           try clear hx7
           try clear hf7
           try clear c8
           try clear cT
           try clear GC
           try clear EC
           try clear LO
           try clear Caw
           try clear Yt
           try clear Kv
           try clear OY
           try clear Bs
           try clear Jv
           try clear dS
           try clear Qz
           try clear yD
           try clear jt
           try clear cC
           try clear Bp
           try clear vn
           try clear uy
           try clear Fz
           try clear zT
           try clear Fw
           try clear Zz
           try clear Yz
           try clear Xz
           try clear Wz
           try clear Vz
           try clear uQ
           try clear PT
           try clear OT
           try clear p2
           try clear p7
           try clear JT
           try clear FT
           try clear zT
           try clear q7
           (try clear HA);(try clear Pj);(try clear qc);(try clear vm);(try clear Gh);(try clear ta);(try clear HK);(try clear HB);obtain ⟨Rj,He,qe,rfl,HA,Pj,qc,vm,Gh,ta,HK,HB⟩:=hrel;have Gj:=(Kd.Jb qc.out).1;rw [Gj] at qc;(try simp only [Gj]);(try simp only [Gj] at ta);(try simp only [Gj] at vm);(try simp only [Gj] at Gh);cases gk with
           | zero=>exact absurd HA.out (by simp [Gb.l1])
           | succ k2 =>
            have H:=HA.out;clear HA;simp only [Gb.l1] at H
            by_cases Hv:qe < (t108.length:Int)
            ·rw [if_pos Hv] at H;have bC:decide (qe < (t108.length:Int))=true:=decide_eq_true Hv;clear Hv
             by_cases EG:0 ≤ qe
             ·rw [if_pos EG] at H;have cS:decide (0 ≤ qe)=true:=decide_eq_true EG;clear EG
              by_cases sP:(rd t108 qe)=a2
              ·rw [if_pos sP] at H;have Uac:((rd t108 qe) == a2)=true:=beq_iff_eq.mpr sP;have Tac:((rd t108 qe) != a2)=false:=bne_eq_false_iff_eq.mpr sP;clear sP;have H':=ga.mk H;clear H;obtain ⟨D7,j5,J4⟩:=Kd.Nd Gh.out;subst J4;have Et:0 ≤ (qe:Int):=of_decide_eq_true (by first|(with_reducible assumption)|assumption);have Ct:qe < (t108.length:Int):=of_decide_eq_true (by first|(with_reducible assumption)|assumption);obtain ⟨uk,xK,mo⟩:=Kd.Te (Kd.Jb Gh.out).2.2 qe Et Ct;cases xK;replace Et:=eq_true Et;replace Ct:=eq_true Ct;go_wp2;(try simp only [← Gj])
               go_roundg k2
               case measure=>have:=uf.out;have:=Pj.out;omega
               case rel=>exact ⟨(Rj),(He),(wrap64 (qe + 1)),(by first|rfl|(simp;done)|(simp [*];done)),H',⟨by have:=uf.out;have:=Pj.out;omega⟩,⟨by (try simp only [ij]);(try simp only [Gj]);(with_reducible repeat (first|apply Kd.Va|apply Kd.Ua|apply Kd.jb));exact qc.out⟩,⟨by (try simp only [ij]);(try simp only [Gj]);(with_reducible repeat (first|apply Kd.Yh|apply Kd.Xh|apply Kd.Ni));exact vm.out⟩,⟨by (try simp only [ij]);(try simp only [Gj]);(with_reducible repeat (first|apply Kd.Va|apply Kd.Ua|apply Kd.jb));exact Gh.out⟩,⟨by (try simp only [ij]);(try simp only [Gj]);(with_reducible repeat (first|refine Ca ?_ _|refine Ea ?_|refine Da ?_ _));exact ta.out⟩,⟨by repeat (first|(with_reducible first|exact HK.out|apply Kept.alloc|apply Kept.drewN|apply Kept.drew|refine Kept.setCell ?_ (.inr Be.out) _)|exact HK.out)⟩,⟨by repeat (first|(with_reducible first|exact HB.out|apply oa|apply ia|apply qa|refine ua ?_ Sa.out)|exact HB.out)⟩⟩
              ·rw [if_neg sP] at H;have Uac:((rd t108 qe) == a2)=false:=beq_eq_false_iff_ne.mpr sP;have Tac:((rd t108 qe) != a2)=true:=bne_iff_ne.mpr sP
               by_cases fH:0 ≤ (rd t108 qe)
               ·rw [if_pos fH] at H;have eav:decide (0 ≤ (rd t108 qe))=true:=decide_eq_true fH;clear fH
                by_cases sy:(rd t108 qe) < (Rj.length:Int)
                ·rw [if_pos sy] at H;have Nq:decide ((rd t108 qe) < (Rj.length:Int))=true:=decide_eq_true sy;clear sy;obtain ⟨cad,xR⟩:∃ b_:Bool,b_=(Eg false Rj (rd t108 qe)):=⟨_,rfl⟩;replace H:(if (cad=true) then (Gb.l1 k2 a2 Rj He t108 (wrap64 (qe + 1)) Ma La Na Ka Fa) else (if He.length < 17592186044416 then (Gb.l1 k2 a2 (Rj.set ((rd t108 qe):Int).toNat true) (He ++ [rd t108 qe]) t108 (wrap64 (qe + 1)) Ma La Na Ka Fa) else (none)))=some r:=by rw [← xR] at H;exact H
                 have ZY:=ga.mk xR;clear xR
                 by_cases Ez:(cad=true)
                 ·subst Ez;have H1:(Gb.l1 k2 a2 Rj He t108 (wrap64 (qe + 1)) Ma La Na Ka Fa)=some r:=by rw [if_pos rfl] at H;exact H
                  clear H;have H:=H1;clear H1;have H':=ga.mk H;clear H;obtain ⟨kP,ZO,I4⟩:=Kd.Nd Gh.out;subst I4;have Et:0 ≤ (qe:Int):=of_decide_eq_true (by first|(with_reducible assumption)|assumption);have Ct:qe < (t108.length:Int):=of_decide_eq_true (by first|(with_reducible assumption)|assumption);obtain ⟨uk,xK,mo⟩:=Kd.Te (Kd.Jb Gh.out).2.2 qe Et Ct;cases xK;replace Et:=eq_true Et;replace Ct:=eq_true Ct;have Xv:0 ≤ (qe:Int):=of_decide_eq_true (by first|(with_reducible assumption)|assumption);have Uv:qe < (t108.length:Int):=of_decide_eq_true (by first|(with_reducible assumption)|assumption);obtain ⟨RI,wK,ku⟩:=Kd.Te (Kd.Jb Gh.out).2.2 qe Xv Uv;obtain rfl:uk=RI:=(by injection wK);replace Xv:=eq_true Xv;replace Uv:=eq_true Uv;have QJ:0 ≤ ((rd t108 qe):Int):=of_decide_eq_true (by first|(with_reducible assumption)|assumption);have MJ:(rd t108 qe) < (Rj.length:Int):=of_decide_eq_true (by first|(with_reducible assumption)|assumption);obtain ⟨jS,P4,jo⟩:=Kd.Lk (Kd.Jb qc.out).2.2 (rd t108 qe) QJ MJ;(try rw [← ZY.out] at jo);obtain rfl:(⟨lK,0,none⟩:Addr)=jS:=(by injection P4);(first|simp only [add_plain] at jo|simp only [Hq] at jo|simp only [Addr.add,Nat.zero_add] at jo|skip);replace QJ:=eq_true QJ;replace MJ:=eq_true MJ;go_wp2;(try simp only [← Gj])
                  go_roundg k2
                  case measure=>have:=uf.out;have:=Pj.out;omega
                  case rel=>exact ⟨(Rj),(He),(wrap64 (qe + 1)),(by first|rfl|(simp;done)|(simp [*];done)),H',⟨by have:=uf.out;have:=Pj.out;omega⟩,⟨by (try simp only [ij]);(try simp only [Gj]);(with_reducible repeat (first|apply Kd.Va|apply Kd.Ua|apply Kd.jb));exact qc.out⟩,⟨by (try simp only [ij]);(try simp only [Gj]);(with_reducible repeat (first|apply Kd.Yh|apply Kd.Xh|apply Kd.Ni));exact vm.out⟩,⟨by (try simp only [ij]);(try simp only [Gj]);(with_reducible repeat (first|apply Kd.Va|apply Kd.Ua|apply Kd.jb));exact Gh.out⟩,⟨by (try simp only [ij]);(try simp only [Gj]);(with_reducible repeat (first|refine Ca ?_ _|refine Ea ?_|refine Da ?_ _));exact ta.out⟩,⟨by repeat (first|(with_reducible first|exact HK.out|apply Kept.alloc|apply Kept.drewN|apply Kept.drew|refine Kept.setCell ?_ (.inr Be.out) _)|exact HK.out)⟩,⟨by repeat (first|(with_reducible first|exact HB.out|apply oa|apply ia|apply qa|refine ua ?_ Sa.out)|exact HB.out)⟩⟩
                 ·replace Ez:=Bool.eq_false_iff.mpr Ez;subst Ez;have H1:(if He.length < 17592186044416 then (Gb.l1 k2 a2 (Rj.set ((rd t108 qe):Int).toNat true) (He ++ [rd t108 qe]) t108 (wrap64 (qe + 1)) Ma La Na Ka Fa) else (none))=some r:=by rw [if_neg (show ¬ (false=true) by decide)] at H;exact H
                  clear H;have H:=H1;clear H1;obtain ⟨qw,Mt⟩:∃ y_:List Bool,y_=(Rj.set ((rd t108 qe):Int).toNat true):=⟨_,rfl⟩;replace H:(if He.length < 17592186044416 then (Gb.l1 k2 a2 qw (He ++ [rd t108 qe]) t108 (wrap64 (qe + 1)) Ma La Na Ka Fa) else (none))=some r:=by first|(rw [Mt];with_reducible exact H)|(have Md:=(Option.bind_some _ _).symm.trans H;rw [Mt];with_reducible exact Md)|(have Md:=(Option.bind_some _ _).symm.trans H;with_reducible exact Md)|with_reducible exact H|(rw [Mt];exact H)|exact H
                  have PN:=ga.mk Mt;clear Mt
                  by_cases KI:He.length < 17592186044416
                  ·rw [if_pos KI] at H;have Iad:=ga.mk KI;clear KI;obtain ⟨e8,FH⟩:∃ y_:List Int,y_=(He ++ [rd t108 qe]):=⟨_,rfl⟩;replace H:(Gb.l1 k2 a2 qw e8 t108 (wrap64 (qe + 1)) Ma La Na Ka Fa)=some r:=by first|(rw [FH];with_reducible exact H)|(have Md:=(Option.bind_some _ _).symm.trans H;rw [FH];with_reducible exact Md)|(have Md:=(Option.bind_some _ _).symm.trans H;with_reducible exact Md)|with_reducible exact H|(rw [FH];exact H)|exact H
                   have Bad:=ga.mk FH;clear FH;have H':=ga.mk H;clear H;obtain ⟨Cay,maq,Vap⟩:=Kd.Nd Gh.out;subst Vap;have Et:0 ≤ (qe:Int):=of_decide_eq_true (by first|(with_reducible assumption)|assumption);have Ct:qe < (t108.length:Int):=of_decide_eq_true (by first|(with_reducible assumption)|assumption);obtain ⟨uk,xK,mo⟩:=Kd.Te (Kd.Jb Gh.out).2.2 qe Et Ct;cases xK;replace Et:=eq_true Et;replace Ct:=eq_true Ct;have Xv:0 ≤ (qe:Int):=of_decide_eq_true (by first|(with_reducible assumption)|assumption);have Uv:qe < (t108.length:Int):=of_decide_eq_true (by first|(with_reducible assumption)|assumption);obtain ⟨RI,wK,ku⟩:=Kd.Te (Kd.Jb Gh.out).2.2 qe Xv Uv;obtain rfl:uk=RI:=(by injection wK);replace Xv:=eq_true Xv;replace Uv:=eq_true Uv;have QJ:0 ≤ ((rd t108 qe):Int):=of_decide_eq_true (by first|(with_reducible assumption)|assumption);have MJ:(rd t108 qe) < (Rj.length:Int):=of_decide_eq_true (by first|(with_reducible assumption)|assumption);obtain ⟨jS,P4,jo⟩:=Kd.Lk (Kd.Jb qc.out).2.2 (rd t108 qe) QJ MJ;(try rw [← ZY.out] at jo);obtain rfl:(⟨lK,0,none⟩:Addr)=jS:=(by injection P4);(first|simp only [add_plain] at jo|simp only [Hq] at jo|simp only [Addr.add,Nat.zero_add] at jo|skip);replace QJ:=eq_true QJ;replace MJ:=eq_true MJ;have P0:0 ≤ (qe:Int):=of_decide_eq_true (by first|(with_reducible assumption)|assumption);have M0:qe < (t108.length:Int):=of_decide_eq_true (by first|(with_reducible assumption)|assumption);obtain ⟨mad,gaq,paf⟩:=Kd.Te (Kd.Jb Gh.out).2.2 qe P0 M0;obtain rfl:uk=mad:=(by injection gaq);replace P0:=eq_true P0;replace M0:=eq_true M0;have p32:0 ≤ ((rd t108 qe):Int):=of_decide_eq_true (by first|(with_reducible assumption)|assumption);have q32:((rd t108 qe):Int) < ((Rj.length:Int):Int):=of_decide_eq_true (by first|(with_reducible assumption)|assumption);obtain ⟨Oan,Xao⟩:=Kd.Fh false qc.out ((rd t108 qe):Int) p32 q32;replace p32:=eq_true p32;replace q32:=eq_true q32;have Q6:=Kd.Jm qc.out ((rd t108 qe):Int) true;go_wp2_with (first|((with_reducible refine gf (t:=4) (p:=56) rfl ?_);refine Ie (t:=4) (p:=56) (v:=?Wam) (w1:=(wr.setCell ⟨lK,((rd t108 qe):Int).toNat,none⟩ (.bool true))) ?hg ?ho ?hn ?hr ?_;(case ho=>rfl);(case hg=>rfl);(case hn=>rfl);(case hr=>first|(go_simp;done)|(go_simp;rfl));intro OD hw;have hg:wr.grownBy OD (some lK):=(by rw [hw];exact Q6.2);have Hl:Kd.R Kd.bool 4 OD w0.heap.size (fun k_=>(uv k_ ∨ w.heap.size ≤ k_)) (.slice (some ⟨lK,0,none⟩) Rj.length U4) qw:=(by rw [hw,PN.out];exact Q6.1);clear Q6;have Eb:=ga.mk (Hl);have Ib:=ga.mk (Kd.mX (v:=(.slice (some ⟨lK,0,none⟩) Rj.length U4)) (by (with_reducible repeat (first|apply Kd.Yh|apply Kd.Xh|apply Kd.Ni));exact vm.out) (Kd.Mk qc.out) (by decide) hg);have Sb:=ga.mk (Kd.Nk (v:=(.slice (some ⟨lK,0,none⟩) Rj.length U4)) (by (with_reducible repeat (first|apply Kd.Va|apply Kd.Ua|apply Kd.jb));exact Gh.out) (Kd.Mk qc.out) (by decide) hg);have yc:=ga.mk (Kf (g:=za) (o:=.cells #[.slice qb Ma.length mb,.int .i64 La,.int .i64 Na,.int .i64 Ka,.slice (some uq) Fa.length Fb] 45 (0,0)) (by (with_reducible repeat (first|refine Ca ?_ _|refine Ea ?_|refine Da ?_ _));exact ta.out) hg (Kd.Rq qc.out ta.out (by decide)));have Ee:=ga.mk ((by rw [hw];exact ua (HB.out) GB7.out:Below w0.heap.size w0 OD));have mg:=ga.mk (Kept.Sg (S:=(fun k_=>uv k_)) hg (by repeat (first|(with_reducible first|exact HK.out|apply Kept.alloc|apply Kept.drewN|apply Kept.drew|refine Kept.setCell ?_ (.inr Be.out) _)|exact HK.out)) (fun k_ e_=>(qc.out.1 k_ e_)));clear qc vm Gh ta HB HK;have qc:=Eb;have vm:=Ib;have Gh:=Sb;have ta:=yc;have HB:=Ee;have HK:=mg;clear Eb Ib Sb yc Ee mg hg hw Hl;have O0:0 ≤ (qe:Int):=of_decide_eq_true (by first|(with_reducible assumption)|assumption);have L0:qe < (t108.length:Int):=of_decide_eq_true (by first|(with_reducible assumption)|assumption);obtain ⟨lad,faq,oaf⟩:=Kd.Te (Kd.Jb Gh.out).2.2 qe O0 L0;obtain rfl:uk=lad:=(by injection faq);replace O0:=eq_true O0;replace L0:=eq_true L0)|((with_reducible refine lg (b:=.append) (xs:=#[.tmp 57,.tmp 62]) rfl ?_);at_builtin;refine Kd.XI (Kd.int .i64) (w0:=w0) w0.heap.size rfl (.tmp 57) (.tmp 62) 22 3 (.int .i64 0) 8 rfl Try.underlying22 info3 rfl (by decide) (by omega) u8 He (rd t108 qe) [.int .i64 (rd t108 qe)] (fun k_=>(uv k_ ∨ w.heap.size ≤ k_)∧some k_ ≠ (.slice (some uk) t108.length maq:Value).ownBlock) (fun _=>False) rfl rfl ?aP (fun _ hk=>hk.elim) ?aF ?aO ?aB ?aS ?aL ?_;(case aP=>exact rfl);(case aB=>exact (by repeat (first|(with_reducible first|exact HB.out|apply oa|apply ia|apply qa|refine ua ?_ Sa.out)|exact HB.out)));(case aF=>exact (fun k_ hk=>⟨(.inr (Nat.le_trans (by first|exact HK.out.1|exact (show Kept w _ (fun k_=>uv k_) from by repeat (first|(with_reducible first|exact HK.out|apply Kept.alloc|apply Kept.drewN|apply Kept.drew|refine Kept.setCell ?_ (.inr Be.out) _)|exact HK.out)).1) hk)),Kd.fresh' (Kd.Km (by (with_reducible repeat (first|apply Kd.Va|apply Kd.Ua|apply Kd.jb));exact Gh.out)) k_ hk⟩));(case aO=>exact (by (with_reducible repeat (first|apply Kd.Yh|apply Kd.Xh|apply Kd.Ni));exact vm.out));(case aS=>exact (Ja (by repeat (first|(with_reducible first|exact HB.out|apply oa|apply ia|apply qa|refine ua ?_ Sa.out)|exact HB.out))));(case aL=>have:=Iad.out;omega);intro vaw OZ ho hb hg hat;rw [← Bad.out] at ho;have Eb:=ga.mk (Kd.Nk (by (with_reducible repeat (first|apply Kd.Va|apply Kd.Ua|apply Kd.jb));exact qc.out) (Kd.lX (by (with_reducible repeat (first|apply Kd.Yh|apply Kd.Xh|apply Kd.Ni));exact vm.out)) (by decide) hg);have Ib:=ga.mk (Kd.Yg (ok:=(fun k_=>(uv k_ ∨ w.heap.size ≤ k_))) (by (with_reducible repeat (first|apply Kd.Va|apply Kd.Ua|apply Kd.jb));exact Gh.out) hg hat);have Sb:=ga.mk (Kf (g:=za) (o:=.cells #[.slice qb Ma.length mb,.int .i64 La,.int .i64 Na,.int .i64 Ka,.slice (some uq) Fa.length Fb] 45 (0,0)) (by (with_reducible repeat (first|refine Ca ?_ _|refine Ea ?_|refine Da ?_ _));exact ta.out) hg (Kd.wad vm.out ta.out (by decide)));have yc:=ga.mk (hb);have Ee:=ga.mk (Kept.Sg (S:=(fun k_=>uv k_)) hg (by repeat (first|(with_reducible first|exact HK.out|apply Kept.alloc|apply Kept.drewN|apply Kept.drew|refine Kept.setCell ?_ (.inr Be.out) _)|exact HK.out)) (fun k_ e_=>(vm.out.1 k_ e_).1));have mg:=ga.mk (ho);clear qc Gh ta HB HK vm;have qc:=Eb;have Gh:=Ib;have ta:=Sb;have HB:=yc;have HK:=Ee;have oae:=mg;clear Eb Ib Sb yc Ee mg ho hb hg hat));(try simp only [← Gj])
                   go_roundg k2
                   case measure=>have:=uf.out;have:=Pj.out;omega
                   case rel=>exact ⟨(qw),(e8),(wrap64 (qe + 1)),(by first|rfl|(simp;done)|(simp [*];done)),H',⟨by have:=uf.out;have:=Pj.out;omega⟩,⟨by (try simp only [ij]);(try simp only [Gj]);(with_reducible repeat (first|apply Kd.Va|apply Kd.Ua|apply Kd.jb));exact qc.out⟩,⟨by (try simp only [ij]);(try simp only [Gj]);(with_reducible repeat (first|apply Kd.Yh|apply Kd.Xh|apply Kd.Ni));exact oae.out⟩,⟨by (try simp only [ij]);(try simp only [Gj]);(with_reducible repeat (first|apply Kd.Va|apply Kd.Ua|apply Kd.jb));exact Gh.out⟩,⟨by (try simp only [ij]);(try simp only [Gj]);(with_reducible repeat (first|refine Ca ?_ _|refine Ea ?_|refine Da ?_ _));exact ta.out⟩,⟨by repeat (first|(with_reducible first|exact HK.out|apply Kept.alloc|apply Kept.drewN|apply Kept.drew|refine Kept.setCell ?_ (.inr Be.out) _)|exact HK.out)⟩,⟨by repeat (first|(with_reducible first|exact HB.out|apply oa|apply ia|apply qa|refine ua ?_ Sa.out)|exact HB.out)⟩⟩
                  ·rw [if_neg KI] at H;exact absurd H (by simp)
                ·rw [if_neg sy] at H;exact absurd H (by simp)
               ·rw [if_neg fH] at H;exact absurd H (by simp)
             ·rw [if_neg EG] at H;exact absurd H (by simp)
            ·rw [if_neg Hv] at H;have bC:decide (qe < (t108.length:Int))=false:=decide_eq_false Hv;clear Hv;have H':=ga.mk H;clear H;obtain ⟨kJ,EI,G4⟩:=Kd.Nd Gh.out;subst G4;go_wp2;(try simp only [← ij,← Gj])
             go_roundg k2
             case measure=>have:=uf.out;have:=Pj.out;omega
             case rel=>exact ⟨(Rj),(He),H',⟨by have:=uf.out;have:=Pj.out;omega⟩,⟨by (try simp only [ij]);(try simp only [Gj]);(with_reducible repeat (first|apply Kd.Va|apply Kd.Ua|apply Kd.jb));exact qc.out⟩,⟨by (try simp only [ij]);(try simp only [Gj]);(with_reducible repeat (first|apply Kd.Yh|apply Kd.Xh|apply Kd.Ni));exact Kd.Gs vm.out (fun _ hk=>hk.1)⟩,⟨by (try simp only [ij]);(try simp only [Gj]);(with_reducible repeat (first|refine Ca ?_ _|refine Ea ?_|refine Da ?_ _));exact ta.out⟩,⟨by repeat (first|(with_reducible first|exact HK.out|apply Kept.alloc|apply Kept.drewN|apply Kept.drew|refine Kept.setCell ?_ (.inr Be.out) _)|exact HK.out)⟩,⟨by repeat (first|(with_reducible first|exact HB.out|apply oa|apply ia|apply qa|refine ua ?_ Sa.out)|exact HB.out)⟩⟩
         ·rw [if_neg Bp] at H;exact absurd H (by simp)
        ·rw [if_neg jt] at H;exact absurd H (by simp)
       ·rw [if_neg Qz] at H;exact absurd H (by simp)
      ·rw [if_neg Bs] at H;exact absurd H (by simp)
     ·rw [if_neg Yt] at H;have Kv:decide (0 < (ye.length:Int))=false:=decide_eq_false Yt;have OY:decide (0 < ye.length)=false:=decide_eq_false (by omega);clear Yt;obtain rfl:=Option.some.inj H;obtain ⟨Vaq,laq,E4,_⟩:=Kd.Cy vm.out;subst E4;go_wp2
      first|go_end0|((try simp only [Exit.inBlock,Exit.then]);refine bodyPost_ret (results_none rfl _ _ _) rfl ?_)
      exact ⟨by first|rfl|(simp [Pa,Oa] <;> rfl)|(simp [*,Pa,Oa] <;> rfl),(by first|exact (by (with_reducible repeat (first|apply Kd.Va|apply Kd.Ua|apply Kd.jb));exact qc.out)|(simp only [ij];exact (by (with_reducible repeat (first|apply Kd.Va|apply Kd.Ua|apply Kd.jb));exact qc.out))),by repeat (first|(with_reducible first|exact HB.out|apply oa|apply ia|apply qa|refine ua ?_ Sa.out)|exact HB.out),by repeat (first|(with_reducible first|exact HK.out|apply Kept.alloc|apply Kept.drewN|apply Kept.drew|refine Kept.setCell ?_ (.inr Be.out) _)|exact HK.out)⟩
  ·rw [if_neg c6] at H;exact absurd H (by simp)
 ·rw [if_neg c5] at H;exact absurd H (by simp)
def Ed.l0:Nat→Int→List Int→Int→Option (List Int)
 | 0,_,_,_=>none
 | k + 1,x0,x3,x4=>if x4 < x0 then (if x3.length < 17592186044416 then (Ed.l0 k x0 (x3 ++ [0]) (wrap64 (x4 + 1))) else (none)) else (some x3)
def Ed.f (k:Nat) (a0:Int):Option (List Int):=Ed.l0 k a0 (([]:List Int)) 0
theorem Ed.calls (k:Nat) (a0:Int) (r:List Int) (w:World) (h:Ed.f k a0=some r) :
  Calls Try.prog 90 #[.int .i64 a0] w fun e w'=>∃ Xn:Value,e = .returned (Xn)∧Kd.R (Kd.int .i64) 3 w' w.heap.size (fun _=>True) Xn r∧Below w.heap.size w w':=by
 have HB:=ga.mk (Below.refl w.heap.size w);have H:(Ed.l0 k a0 (([]:List Int)) 0)=some r:=h;clear h;obtain ⟨Yf,ig⟩:∃ y_:List Int,y_=(([]:List Int)):=⟨_,rfl⟩;replace H:(Ed.l0 k a0 Yf 0)=some r:=by first|(rw [ig];with_reducible exact H)|(have Md:=(Option.bind_some _ _).symm.trans H;rw [ig];with_reducible exact Md)|(have Md:=(Option.bind_some _ _).symm.trans H;with_reducible exact Md)|with_reducible exact H|(rw [ig];exact H)|exact H
 have Fk:=ga.mk ig;clear ig;have H':=ga.mk H;clear H;go_enter Try.func90,Try.ntmps90;go_wp2_with (first|((with_reducible refine Ab (N:=5) rfl ?_);refine Kd.vk (Kd.int .i64) _ 3 ?hg (N:=5) ?hd (xs:=([]:List Int)) (inner:=[]) (ok:=fun _=>True) (Jh:=fun _=>True) ?hr ?hp (fun _ hk=>hk) trivial (Below.refl _ _) (Nat.le_refl _) (by simp) ?_;(case hd=>rfl);(case hg=>rfl);(case hr=>first|(go_simp;done)|(go_simp;rfl));(case hp=>exact (Sd.none _ _));intro lH w2 D2 hb Ol Re;clear Ol Re;(first|rw [← Fk.out] at D2|(simp only [Int.reduceToNat] at D2;rw [← Fk.out] at D2));have Eb:=ga.mk (Kd.Fe D2 (Ja (by repeat (first|(with_reducible first|exact HB.out|apply oa|apply ia|apply qa)|exact HB.out))));have Ib:=ga.mk (Qa (by repeat (first|(with_reducible first|exact HB.out|apply oa|apply ia|apply qa)|exact HB.out)) hb);clear HB;have Vq:=Eb;have HB:=Ib;clear Eb Ib hb D2))
 go_loopg [3,4] k (fun kq v3 v4 w'=>∃ (Cc:List Int) (Zb:Int),v4 = .int .i64 Zb∧ga (Ed.l0 kq a0 Cc Zb=some r)∧ga (kq ≤ k)∧ga (Kd.R (Kd.int .i64) 3 w' w.heap.size (fun _=>True) v3 Cc)∧ga (Below w.heap.size w w'))
 case atStart=>exact ⟨(Yf),(0),(by first|rfl|(simp;done)|(simp [*];done)),H',⟨Nat.le_refl _⟩,⟨by (with_reducible repeat (first|apply Kd.Va|apply Kd.Ua|apply Kd.jb));exact Vq.out⟩,⟨by repeat (first|(with_reducible first|exact HB.out|apply oa|apply ia|apply qa)|exact HB.out)⟩⟩
 case round =>
  clear H'
  try clear p2
  (try clear HA);(try clear uf);(try clear qc);(try clear HB);obtain ⟨Cc,Zb,rfl,HA,uf,qc,HB⟩:=hrel;cases gk with
  | zero=>exact absurd HA.out (by simp [Ed.l0])
  | succ k1 =>
   have H:=HA.out;clear HA;simp only [Ed.l0] at H
   by_cases c4:Zb < a0
   ·rw [if_pos c4] at H;have Dk:decide (Zb < a0)=true:=decide_eq_true c4;clear c4
    by_cases c5:Cc.length < 17592186044416
    ·rw [if_pos c5] at H;have taq:=ga.mk c5;clear c5;obtain ⟨Xf,dn⟩:∃ y_:List Int,y_=(Cc ++ [0]):=⟨_,rfl⟩;replace H:(Ed.l0 k1 a0 Xf (wrap64 (Zb + 1)))=some r:=by first|(rw [dn];with_reducible exact H)|(have Md:=(Option.bind_some _ _).symm.trans H;rw [dn];with_reducible exact Md)|(have Md:=(Option.bind_some _ _).symm.trans H;with_reducible exact Md)|with_reducible exact H|(rw [dn];exact H)|exact H
     have bJ:=ga.mk dn;clear dn;have H':=ga.mk H;clear H;go_wp2_with (first|((with_reducible refine lg (b:=.append) (xs:=#[.tmp 11,.tmp 12]) rfl ?_);at_builtin;refine Kd.um (Kd.int .i64) (w0:=w) w.heap.size rfl (.tmp 11) (.tmp 12) 22 3 (.int .i64 0) 8 rfl Try.underlying22 info3 rfl (by decide) (by omega) u3 Cc 0 [.int .i64 0] (fun _=>True) (fun _=>False) rfl rfl ?aP (fun _ hk=>hk.elim) ?aF ?aO ?aB ?aS ?aL ?_;(case aP=>exact rfl);(case aB=>exact (by repeat (first|(with_reducible first|exact HB.out|apply oa|apply ia|apply qa)|exact HB.out)));(case aF=>exact (fun _ _=>trivial));(case aO=>exact (by (with_reducible repeat (first|apply Kd.Va|apply Kd.Ua|apply Kd.jb));exact qc.out));(case aS=>exact (Ja (by repeat (first|(with_reducible first|exact HB.out|apply oa|apply ia|apply qa)|exact HB.out))));(case aL=>have:=taq.out;omega);intro v105 w6 ho hb hg hat;rw [← bJ.out] at ho;have Eb:=ga.mk (hb);have Ib:=ga.mk (ho);clear HB qc;have HB:=Eb;have Qv:=Ib;clear Eb Ib ho hb hg hat))
     go_roundg k1
     case measure=>have:=uf.out;omega
     case rel=>exact ⟨(Xf),(wrap64 (Zb + 1)),(by first|rfl|(simp;done)|(simp [*];done)),H',⟨by have:=uf.out;omega⟩,⟨by (with_reducible repeat (first|apply Kd.Va|apply Kd.Ua|apply Kd.jb));exact Qv.out⟩,⟨by repeat (first|(with_reducible first|exact HB.out|apply oa|apply ia|apply qa)|exact HB.out)⟩⟩
    ·rw [if_neg c5] at H;exact absurd H (by simp)
   ·rw [if_neg c4] at H;have Dk:decide (Zb < a0)=false:=decide_eq_false c4;clear c4;obtain rfl:=Option.some.inj H;go_wp2;go_ret;exact ⟨_,by first|rfl|(simp [Pa,Oa] <;> rfl)|(simp [*,Pa,Oa] <;> rfl),by (with_reducible repeat (first|apply Kd.Va|apply Kd.Ua|apply Kd.jb));exact qc.out,by repeat (first|(with_reducible first|exact HB.out|apply oa|apply ia|apply qa)|exact HB.out)⟩
mutual
def Mb.l0:Nat→List Int→List Int→List Int→List Int→Int→Int→Int→List (jf)→Option (List Int)
 | 0,_,_,_,_,_,_,_,_=>none
 | k + 1,x3,x4,x5,Yc,Zc,Xc,Wc,dc=>if (x5.length:Int) > 0 then (if 0 < (x5.length:Int) then (if 0 ≤ (rd x5 0) then (if (rd x5 0) < (dc.length:Int) then ((Wg.f ((Ta dc (rd x5 0)).f0) ((Ta dc (rd x5 0)).f1) ((Ta dc (rd x5 0)).f2) ((Ta dc (rd x5 0)).f3) ((Ta dc (rd x5 0)).f4)).bind fun t115=>(if 1 ≤ (x5.length:Int) then (Mb.l1 k x3 x4 (x5.drop (1:Int).toNat) t115 0 Yc Zc Xc Wc dc) else (none))) else (none)) else (none)) else (none)) else (Mb.l2 k x3 x4 0)
def Mb.l1:Nat→List Int→List Int→List Int→List Int→Int→List Int→Int→Int→Int→List (jf)→Option (List Int)
 | 0,_,_,_,_,_,_,_,_,_,_=>none
 | k + 1,x3,x4,x5,x6,x7,Yc,Zc,Xc,Wc,dc=>if x7 < (x6.length:Int) then (if 0 ≤ x7 then (if 0 ≤ (rd x6 x7) then (if (rd x6 x7) < (x4.length:Int) then (if (rd x4 (rd x6 x7))=0 then (if x5.length < 17592186044416 then (Mb.l1 k x3 (x4.set ((rd x6 x7):Int).toNat 1) (x5 ++ [rd x6 x7]) x6 (wrap64 (x7 + 1)) Yc Zc Xc Wc dc) else (none)) else (Mb.l1 k x3 x4 x5 x6 (wrap64 (x7 + 1)) Yc Zc Xc Wc dc)) else (none)) else (none)) else (none)) else (Mb.l0 k x3 x4 x5 Yc Zc Xc Wc dc)
def Mb.l2:Nat→List Int→List Int→Int→Option (List Int)
 | 0,_,_,_=>none
 | k + 1,x3,x4,x8=>if x8 < (x4.length:Int) then (if 0 ≤ x8 then (if (rd x4 x8)=1 then (if x3.length < 17592186044416 then (Mb.l2 k (x3 ++ [x8]) x4 (wrap64 (x8 + 1))) else (none)) else (Mb.l2 k x3 x4 (wrap64 (x8 + 1)))) else (none)) else (some x3)
end
def Mb.f (k:Nat) (Ma:List Int) (La:Int) (Na:Int) (Ka:Int) (Fa:List (jf)):Option (List Int):=(some (([]:List Int):List Int)).bind fun Xd=>((Xa.f k Ma La Na Ka Fa).bind fun t105=>(if t105=true then ((Ed.f k (Fa.length:Int)).bind fun t106=>(if 0 < (t106.length:Int) then (Mb.l0 k Xd (t106.set (0:Int).toNat 1) (([0]:List Int)) Ma La Na Ka Fa) else (none))) else (some Xd)))
def Mb.T8:Bool × List (List Nat × List Nat):=(true,[([],[]),([0],[0]),([],[]),([2],[2]),([3],[3]),([1,4],[1,4]),([5],[5]),([6],[6]),([7,7,0,1,2,3,4,5,6,7],[7])])
def Mb.B8:List Nat:=[0,1,0,4,12,31,63,127,255]
theorem Mb.kan:Em .any (opsOf Try.f68 8)=Mb.T8:=by kernel_rfl
theorem Mb.fad:Yk Mb.T8.2 Mb.B8=true:=by kernel_rfl
theorem Mb.calls (k:Nat) (qb:Option Addr) (mb:Nat) (Ma:List Int) (La:Int) (Na:Int) (Ka:Int) (Lb:Option Addr) (Fb:Nat) (Fa:List (jf)) (r:List Int) (w:World) (Ae:Kd.C (Kd.int .i64) w qb Ma.length Ma) (we:Ma.length ≤ mb) (Uf:Kd.C Gp w Lb Fa.length Fa) (Lf:Fa.length ≤ Fb) (h:Mb.f k Ma La Na Ka Fa=some r) :
  Calls Try.prog 68 #[.agg #[.slice qb Ma.length mb,.int .i64 La,.int .i64 Na,.int .i64 Ka,.slice Lb Fa.length Fb]] w fun e w'=>∃ Xn:Value,e = .returned (Xn)∧Kd.R (Kd.int .i64) 3 w' w.heap.size (fun _=>True) Xn r∧Below w.heap.size w w':=by
 have Oz:=Try.underlying45;have BB:=Try.underlying83;have Ke:=ga.mk Ae;have Ve:=ga.mk we;clear Ae we;have kg:=ga.mk Uf;have Tg:=ga.mk Lf;clear Uf Lf;have HB:=ga.mk (Below.refl w.heap.size w);have H:((some (([]:List Int):List Int)).bind fun Xd=>((Xa.f k Ma La Na Ka Fa).bind fun t105=>(if t105=true then ((Ed.f k (Fa.length:Int)).bind fun t106=>(if 0 < (t106.length:Int) then (Mb.l0 k Xd (t106.set (0:Int).toNat 1) (([0]:List Int)) Ma La Na Ka Fa) else (none))) else (some Xd))))=some r:=h;clear h;obtain ⟨Xd,lf⟩:∃ y_:List Int,y_=(([]:List Int)):=⟨_,rfl⟩;replace H:((Xa.f k Ma La Na Ka Fa).bind fun t105=>(if t105=true then ((Ed.f k (Fa.length:Int)).bind fun t106=>(if 0 < (t106.length:Int) then (Mb.l0 k Xd (t106.set (0:Int).toNat 1) (([0]:List Int)) Ma La Na Ka Fa) else (none))) else (some Xd)))=some r:=by first|(rw [lf];with_reducible exact H)|(have Md:=(Option.bind_some _ _).symm.trans H;rw [lf];with_reducible exact Md)|(have Md:=(Option.bind_some _ _).symm.trans H;with_reducible exact Md)|with_reducible exact H|(rw [lf];exact H)|exact H
 have xh:=ga.mk lf;clear lf;replace H:=Option.bind_eq_some_iff.mp H;obtain ⟨t105,zC,H⟩:=H;replace H:(if t105=true then ((Ed.f k (Fa.length:Int)).bind fun t106=>(if 0 < (t106.length:Int) then (Mb.l0 k Xd (t106.set (0:Int).toNat 1) (([0]:List Int)) Ma La Na Ka Fa) else (none))) else (some Xd))=some r:=H;have A2:=ga.mk zC;clear zC
 by_cases c3:t105=true
 ·subst c3;have H1:((Ed.f k (Fa.length:Int)).bind fun t106=>(if 0 < (t106.length:Int) then (Mb.l0 k Xd (t106.set (0:Int).toNat 1) (([0]:List Int)) Ma La Na Ka Fa) else (none)))=some r:=by rw [if_pos rfl] at H;exact H
  clear H;have H:=H1;clear H1;replace H:=Option.bind_eq_some_iff.mp H;obtain ⟨t106,lJ,H⟩:=H;replace H:(if 0 < (t106.length:Int) then (Mb.l0 k Xd (t106.set (0:Int).toNat 1) (([0]:List Int)) Ma La Na Ka Fa) else (none))=some r:=H;have A4:=ga.mk lJ;clear lJ
  by_cases c5:0 < (t106.length:Int)
  ·rw [if_pos c5] at H;have qn:decide (0 < (t106.length:Int))=true:=decide_eq_true c5;have gz:decide (0 < t106.length)=true:=decide_eq_true (by omega);clear c5;obtain ⟨eB,bn⟩:∃ y_:List Int,y_=(t106.set (0:Int).toNat 1):=⟨_,rfl⟩;replace H:(Mb.l0 k Xd eB (([0]:List Int)) Ma La Na Ka Fa)=some r:=by first|(rw [bn];with_reducible exact H)|(have Md:=(Option.bind_some _ _).symm.trans H;rw [bn];with_reducible exact Md)|(have Md:=(Option.bind_some _ _).symm.trans H;with_reducible exact Md)|with_reducible exact H|(rw [bn];exact H)|exact H
   have FD:=ga.mk bn;clear bn;obtain ⟨xP,Ot⟩:∃ y_:List Int,y_=(([0]:List Int)):=⟨_,rfl⟩;replace H:(Mb.l0 k Xd eB xP Ma La Na Ka Fa)=some r:=by first|(rw [Ot];with_reducible exact H)|(have Md:=(Option.bind_some _ _).symm.trans H;rw [Ot];with_reducible exact Md)|(have Md:=(Option.bind_some _ _).symm.trans H;with_reducible exact Md)|with_reducible exact H|(rw [Ot];exact H)|exact H
   have aJ:=ga.mk Ot;clear Ot;have H':=ga.mk H;clear H;go_enter Try.func68,Try.ntmps68;go_wp2_with (first|((with_reducible refine Ab (N:=1) rfl ?_);refine Kb ?hg (N:=1) ?hd (cs:=#[.slice qb Ma.length mb,.int .i64 La,.int .i64 Na,.int .i64 Ka,.slice Lb Fa.length Fb]) (t:=45) ?hr ?_;(case hd=>rfl);(case hg=>rfl);(case hr=>first|(go_simp;done)|(go_simp;rfl));intro za hg w7 Wb hb;have Eb:=ga.mk (Qa (by repeat (first|(with_reducible first|exact HB.out|apply oa|apply ia|apply qa)|exact HB.out)) hb);have Ib:=ga.mk (Wb);have Sb:=ga.mk ((by rw [hg];exact (Ja (by repeat (first|(with_reducible first|exact HB.out|apply oa|apply ia|apply qa)|exact HB.out))):w.heap.size ≤ za));have yc:=ga.mk ((by rw [hg];exact (Ja (by repeat (first|(with_reducible first|exact HB.out|apply oa|apply ia|apply qa)|exact HB.out))):w.heap.size ≤ za));clear HB;have HB:=Eb;have ta:=Ib;have Be:=Sb;have Sa:=yc;clear Eb Ib Sb yc hb Wb hg)|((with_reducible refine Ab (N:=9) rfl ?_);refine Kd.vk (Kd.int .i64) _ 3 ?hg (N:=9) ?hd (xs:=([]:List Int)) (inner:=[]) (ok:=fun _=>True) (Jh:=fun _=>True) ?hr ?hp (fun _ hk=>hk) trivial (Below.refl _ _) (Nat.le_refl _) (by simp) ?_;(case hd=>rfl);(case hg=>rfl);(case hr=>first|(go_simp;done)|(go_simp;rfl));(case hp=>exact (Sd.none _ _));intro ji w8 NH hb Ol Re;clear Ol Re;(first|rw [← xh.out] at NH|(simp only [Int.reduceToNat] at NH;rw [← xh.out] at NH));have Eb:=ga.mk (Kd.Fe NH (Ja (by repeat (first|(with_reducible first|exact HB.out|apply oa|apply ia|apply qa|refine ua ?_ Sa.out)|exact HB.out))));have Ib:=ga.mk (Wa (g:=za) (o:=.cells #[.slice qb Ma.length mb,.int .i64 La,.int .i64 Na,.int .i64 Ka,.slice Lb Fa.length Fb] 45 (0,0)) (by (with_reducible repeat (first|refine Ca ?_ _|refine Ea ?_|refine Da ?_ _));exact ta.out) hb);have Sb:=ga.mk (Qa (by repeat (first|(with_reducible first|exact HB.out|apply oa|apply ia|apply qa|refine ua ?_ Sa.out)|exact HB.out)) hb);clear ta HB;have ke:=Eb;have ta:=Ib;have HB:=Sb;clear Eb Ib Sb hb NH;have Wh:w8.cell? ⟨za,0,none⟩=some (.slice qb Ma.length mb):=(ja ta.out 0).trans rfl;have Vh:w8.cell? ⟨za,1,none⟩=some (.int .i64 La):=(ja ta.out 1).trans rfl;have Uh:w8.cell? ⟨za,2,none⟩=some (.int .i64 Na):=(ja ta.out 2).trans rfl;have Th:w8.cell? ⟨za,3,none⟩=some (.int .i64 Ka):=(ja ta.out 3).trans rfl;have Sh:w8.cell? ⟨za,4,none⟩=some (.slice Lb Fa.length Fb):=(ja ta.out 4).trans rfl;have Rh:=aa ta.out 0;have Qh:=aa ta.out 1;have Ph:=aa ta.out 2;have Oh:=aa ta.out 3;have Nh:=aa ta.out 4)|((with_reducible refine zb (f:=66) rfl ?_);refine Pc (some 11) rfl rfl Try.func66 (by kernel_rfl) rfl #[.agg #[.slice qb Ma.length mb,.int .i64 La,.int .i64 Na,.int .i64 Ka,.slice Lb Fa.length Fb]] rfl (by (try simp only [List.map_toArray,List.map_cons,List.map_nil]);first|done|rfl|(simp only [List.length_drop,List.length_take];rfl)) ?_;(with_reducible refine (Xa.calls k _ _ Ma La Na Ka _ _ Fa true _ ?Fc ?Ec ?Wd ?Vd A2.out).mono ?_);(case Fc=>repeat (first|exact (Kd.Nb Ke.out HB.out)|(with_reducible refine Kd.Ub ?_ _)|(with_reducible refine Kd.Tb ?_ _)|(with_reducible refine Kd.mc ?_)));(case Ec=>exact Ve.out);(case Wd=>repeat (first|exact (Kd.Nb kg.out HB.out)|(with_reducible refine Kd.Ub ?_ _)|(with_reducible refine Kd.Tb ?_ _)|(with_reducible refine Kd.mc ?_)));(case Vd=>exact Tg.out);rintro e uj ⟨rfl,hb⟩;refine ⟨_,rfl,?_⟩;have Eb:=ga.mk (Kd.Dd (by (with_reducible repeat (first|apply Kd.Va|apply Kd.Ua|apply Kd.jb));exact ke.out) hb);have Ib:=ga.mk (Wa (g:=za) (o:=.cells #[.slice qb Ma.length mb,.int .i64 La,.int .i64 Na,.int .i64 Ka,.slice Lb Fa.length Fb] 45 (0,0)) (by (with_reducible repeat (first|refine Ca ?_ _|refine Ea ?_|refine Da ?_ _));exact ta.out) hb);have Sb:=ga.mk (Qa (by repeat (first|(with_reducible first|exact HB.out|apply oa|apply ia|apply qa|refine ua ?_ Sa.out)|exact HB.out)) hb);clear ke ta HB;have ke:=Eb;have ta:=Ib;have HB:=Sb;clear Eb Ib Sb;(try clear hb);(try clear Qj);(try clear hk);(try clear hi);have oq:uj.cell? ⟨za,0,none⟩=some (.slice qb Ma.length mb):=(ja ta.out 0).trans rfl;have mq:uj.cell? ⟨za,1,none⟩=some (.int .i64 La):=(ja ta.out 1).trans rfl;have lq:uj.cell? ⟨za,2,none⟩=some (.int .i64 Na):=(ja ta.out 2).trans rfl;have jq:uj.cell? ⟨za,3,none⟩=some (.int .i64 Ka):=(ja ta.out 3).trans rfl;have iq:uj.cell? ⟨za,4,none⟩=some (.slice Lb Fa.length Fb):=(ja ta.out 4).trans rfl;have Zp:=aa ta.out 0;have Yp:=aa ta.out 1;have Xp:=aa ta.out 2;have Wp:=aa ta.out 3;have Vp:=aa ta.out 4)|((with_reducible refine zb (f:=90) rfl ?_);refine Pc (some 17) rfl rfl Try.func90 (by kernel_rfl) rfl #[.int .i64 (Fa.length:Int)] rfl (by (try simp only [List.map_toArray,List.map_cons,List.map_nil]);first|done|rfl|(simp only [List.length_drop,List.length_take];rfl)) ?_;(with_reducible refine (Ed.calls k (Fa.length:Int) t106 _ A4.out).mono ?_);rintro e eH ⟨v107,rfl,Ri,hb⟩;refine ⟨_,rfl,?_⟩;have Eb:=ga.mk (Kd.mj (by (with_reducible repeat (first|apply Kd.Va|apply Kd.Ua|apply Kd.jb));exact ke.out) (Kd.Mh Ri) hb);have Ib:=ga.mk (Kd.Fe (Kd.qm Ri (Kd.Km (by (with_reducible repeat (first|apply Kd.Va|apply Kd.Ua|apply Kd.jb));exact ke.out))) (Ja (by repeat (first|(with_reducible first|exact HB.out|apply oa|apply ia|apply qa|refine ua ?_ Sa.out)|exact HB.out))));have Sb:=ga.mk (Wa (g:=za) (o:=.cells #[.slice qb Ma.length mb,.int .i64 La,.int .i64 Na,.int .i64 Ka,.slice Lb Fa.length Fb] 45 (0,0)) (by (with_reducible repeat (first|refine Ca ?_ _|refine Ea ?_|refine Da ?_ _));exact ta.out) hb);have yc:=ga.mk (Qa (by repeat (first|(with_reducible first|exact HB.out|apply oa|apply ia|apply qa|refine ua ?_ Sa.out)|exact HB.out)) hb);clear ke ta HB;have ke:=Eb;have Gk:=Ib;have ta:=Sb;have HB:=yc;clear Eb Ib Sb yc;(try clear hb);(try clear Qj);(try clear hk);(try clear hi);(try clear Ri);have p6:0 ≤ (0:Int):=(by omega);have q6:(0:Int) < ((t106.length:Int):Int):=of_decide_eq_true (by first|(with_reducible assumption)|assumption);have qi6:(0 < t106.length)=True:=eq_true (by omega);obtain ⟨St,oy,eo6,gb6,gl6,cl6,HG6⟩:=Kd.Uk Gk.out (by omega);(first|cases eo6|(injection eo6 with Si nv ov;(first|subst Si|(injection Si with Si;subst Si));subst ov;clear nv));have GB6:=ga.mk gb6;have GG6:=ga.mk HG6;clear gb6 gl6 HG6;obtain ⟨kD,XQ⟩:=Kd.Fh 0 Gk.out (0:Int) p6 q6;(try rw [show ((0:Int)).toNat=0 from rfl] at kD);(try simp only [Nat.reduceMul,Nat.zero_mul,Nat.zero_add,Nat.reduceAdd] at kD);(try rw [show ((0:Int)).toNat=0 from rfl] at XQ);(try simp only [Nat.reduceMul,Nat.zero_mul,Nat.zero_add,Nat.reduceAdd] at XQ);replace p6:=eq_true p6;replace q6:=eq_true q6;have n_:=ga.mk (Kd.Mc (vp:=(fun k_=>some k_ ≠ (ji:Value).ownBlock)) Gk.out (fun k_ hk=>hk.2));clear Gk;have Gk:=n_;clear n_;obtain ⟨SX,RX⟩:=Kd.Fh 0 Gk.out (0:Int) (by omega) (of_decide_eq_true (by first|(with_reducible assumption)|assumption));(try simp only [Int.reduceToNat,Int.toNat_zero,Int.toNat_ofNat,Nat.reduceMul,Nat.zero_mul,Nat.zero_add] at SX RX);(try rw [show ((0:Int)).toNat=0 from rfl] at SX);(try rw [show ((0:Int)).toNat=0 from rfl] at RX);have XK:=Kd.Jm Gk.out (0:Int) 1)|((with_reducible refine gf (t:=3) (p:=19) rfl ?_);refine Ie (t:=3) (p:=19) (v:=?QZ) (w1:=(eH.setCell ⟨St,(0:Int).toNat,none⟩ (.int .i64 1))) ?hg ?ho ?hn ?hr ?_;(case ho=>rfl);(case hg=>rfl);(case hn=>rfl);(case hr=>first|(go_simp;done)|(go_simp;rfl));intro Iq hw;have hg:eH.grownBy Iq (some St):=(by rw [hw];exact XK.2);have Hl:Kd.R (Kd.int .i64) 3 Iq w.heap.size (fun k_=>some k_ ≠ (ji:Value).ownBlock) (.slice (some ⟨St,0,none⟩) t106.length oy) eB:=(by rw [hw,FD.out];exact XK.1);clear XK;have Eb:=ga.mk (Kf (g:=za) (o:=.cells #[.slice qb Ma.length mb,.int .i64 La,.int .i64 Na,.int .i64 Ka,.slice Lb Fa.length Fb] 45 (0,0)) (by (with_reducible repeat (first|refine Ca ?_ _|refine Ea ?_|refine Da ?_ _));exact ta.out) hg (Kd.Rq Gk.out ta.out (by decide)));have Ib:=ga.mk (Kd.Yg (v:=(.slice (some ⟨St,0,none⟩) t106.length oy)) (v1:=(.slice (some ⟨St,0,none⟩) t106.length oy)) (ok:=(fun _=>True)) (by (with_reducible repeat (first|apply Kd.Va|apply Kd.Ua|apply Kd.jb));exact ke.out) hg (.inl rfl));have Sb:=ga.mk (Hl);have yc:=ga.mk ((by rw [hw];exact ua (HB.out) GB6.out:Below w.heap.size w Iq));clear ta ke Gk HB;have ta:=Eb;have ke:=Ib;have Gk:=Sb;have HB:=yc;clear Eb Ib Sb yc hg hw Hl)|((with_reducible refine Ab (N:=20) rfl ?_);refine Kd.vk (Kd.int .i64) _ 3 ?hg (N:=20) ?hd (xs:=([0]:List Int)) (inner:=[.int .i64 0]) (ok:=fun _=>True) (Jh:=fun _=>True) ?hr ?hp (fun _ hk=>hk) trivial (Below.refl _ _) (Nat.le_refl _) (by simp) ?_;(case hd=>rfl);(case hg=>rfl);(case hr=>first|(go_simp;done)|(go_simp;rfl));(case hp=>exact (Sd.one (show Kd.M (Kd.int .i64) _ _ _ 0 [.int .i64 0] from rfl) (Sd.none _ _)));intro jan aD cK hb Ol Re;clear Ol Re;(first|rw [← aJ.out] at cK|(simp only [Int.reduceToNat] at cK;rw [← aJ.out] at cK));have Eb:=ga.mk (Kd.mj (by (with_reducible repeat (first|apply Kd.Va|apply Kd.Ua|apply Kd.jb));exact ke.out) (Kd.Mh cK) hb);have Ib:=ga.mk (Kd.mj (by (with_reducible repeat (first|apply Kd.Va|apply Kd.Ua|apply Kd.jb));exact Gk.out) (Kd.Mh cK) hb);have Sb:=ga.mk (Kd.Fe (Kd.qm (Kd.qm cK (Kd.Km (by (with_reducible repeat (first|apply Kd.Va|apply Kd.Ua|apply Kd.jb));exact ke.out))) (Kd.Km (by (with_reducible repeat (first|apply Kd.Va|apply Kd.Ua|apply Kd.jb));exact Gk.out))) (Ja (by repeat (first|(with_reducible first|exact HB.out|apply oa|apply ia|apply qa|refine ua ?_ Sa.out)|exact HB.out))));have yc:=ga.mk (Wa (g:=za) (o:=.cells #[.slice qb Ma.length mb,.int .i64 La,.int .i64 Na,.int .i64 Ka,.slice Lb Fa.length Fb] 45 (0,0)) (by (with_reducible repeat (first|refine Ca ?_ _|refine Ea ?_|refine Da ?_ _));exact ta.out) hb);have Ee:=ga.mk (Qa (by repeat (first|(with_reducible first|exact HB.out|apply oa|apply ia|apply qa|refine ua ?_ Sa.out)|exact HB.out)) hb);clear ke Gk ta HB;have ke:=Eb;have Gk:=Ib;have JS:=Sb;have ta:=yc;have HB:=Ee;clear Eb Ib Sb yc Ee hb cK))
   go_loopg [5] k (fun kq v5 w'=>∃ (Zb:List Int) (Aa:List Int),ga (Mb.l0 kq Xd Zb Aa Ma La Na Ka Fa=some r)∧ga (kq ≤ k)∧ga (Kd.R (Kd.int .i64) 3 w' w.heap.size (fun k_=>some k_ ≠ ((.slice (some ⟨St,0,none⟩) t106.length oy):Value).ownBlock∧some k_ ≠ (v5:Value).ownBlock) ji Xd)∧ga (Kd.R (Kd.int .i64) 3 w' w.heap.size (fun k_=>some k_ ≠ (ji:Value).ownBlock∧some k_ ≠ (v5:Value).ownBlock) (.slice (some ⟨St,0,none⟩) t106.length oy) Zb)∧ga (Kd.Q (Kd.int .i64) 3 w' w.heap.size (fun k_=>some k_ ≠ (ji:Value).ownBlock∧some k_ ≠ ((.slice (some ⟨St,0,none⟩) t106.length oy):Value).ownBlock) v5 Aa)∧ga (w'.heap[za]? = some (.cells #[(.slice qb Ma.length mb),.int .i64 La,.int .i64 Na,.int .i64 Ka,(.slice Lb Fa.length Fb)] 45 (0,0)))∧ga (Below w.heap.size w w'))
   case atStart=>exact ⟨(eB),(xP),H',⟨Nat.le_refl _⟩,⟨by (with_reducible repeat (first|apply Kd.Va|apply Kd.Ua|apply Kd.jb));exact Kd.Mc ke.out (fun _ hk=>⟨hk.1.2,hk.2⟩)⟩,⟨by (with_reducible repeat (first|apply Kd.Va|apply Kd.Ua|apply Kd.jb));exact Gk.out⟩,⟨Kd.SK (by (with_reducible repeat (first|apply Kd.Va|apply Kd.Ua|apply Kd.jb));exact Kd.Mc JS.out (fun _ hk=>⟨hk.1.2,hk.2⟩))⟩,⟨by (with_reducible repeat (first|refine Ca ?_ _|refine Ea ?_|refine Da ?_ _));exact ta.out⟩,⟨by repeat (first|(with_reducible first|exact HB.out|apply oa|apply ia|apply qa|refine ua ?_ Sa.out)|exact HB.out)⟩⟩
   case round =>
    clear H'
    try clear p2
    try clear c3
    try clear c5
    try clear qn
    try clear gz
    try clear c6
    try clear p6
    try clear q6
    try clear fE
    try clear qi6
    try clear hf6
    try clear c9
    try clear Wh
    try clear Vh
    try clear Uh
    try clear Th
    try clear Sh
    try clear oq
    try clear mq
    try clear lq
    try clear jq
    try clear iq
    try clear Rh
    try clear Qh
    try clear Ph
    try clear Oh
    try clear Nh
    try clear Zp
    try clear Yp
    try clear Xp
    try clear Wp
    try clear Vp
    try clear kD
    try clear p6
    try clear q6
    (try clear HA);(try clear uf);(try clear qc);(try clear ec);(try clear Zg);(try clear ta);(try clear HB);obtain ⟨Zb,Aa,HA,uf,qc,ec,Zg,ta,HB⟩:=hrel;have nh:=(Kd.Jb ec.out).1;rw [nh] at ec;(try simp only [nh]);(try simp only [nh] at ta);(try simp only [nh] at qc);(try simp only [nh] at Zg);cases gk with
    | zero=>exact absurd HA.out (by simp [Mb.l0])
    | succ k1 =>
     have H:=HA.out;clear HA;simp only [Mb.l0] at H
     by_cases Bp:(Aa.length:Int) > 0
     ·rw [if_pos Bp] at H;have vn:decide (0 < (Aa.length:Int))=true:=decide_eq_true Bp;have uy:decide (0 < Aa.length)=true:=decide_eq_true (by omega);clear Bp
      by_cases xp:0 < (Aa.length:Int)
      ·rw [if_pos xp] at H;have Iv:decide (0 < (Aa.length:Int))=true:=decide_eq_true xp;have xD:decide (0 < Aa.length)=true:=decide_eq_true (by omega);clear xp
       by_cases Jq:0 ≤ (rd Aa 0)
       ·rw [if_pos Jq] at H;have wD:decide (0 ≤ (rd Aa 0))=true:=decide_eq_true Jq;clear Jq
        by_cases qt:(rd Aa 0) < (Fa.length:Int)
        ·rw [if_pos qt] at H;have vD:decide ((rd Aa 0) < (Fa.length:Int))=true:=decide_eq_true qt;clear qt;replace H:=Option.bind_eq_some_iff.mp H;obtain ⟨t115,OS,H⟩:=H;replace H:(if 1 ≤ (Aa.length:Int) then (Mb.l1 k1 Xd Zb (Aa.drop (1:Int).toNat) t115 0 Ma La Na Ka Fa) else (none))=some r:=H;have JZ:=ga.mk OS;clear OS
         by_cases Hv:1 ≤ (Aa.length:Int)
         ·rw [if_pos Hv] at H;have bC:=eq_true Hv;have LI:decide (1 ≤ (Aa.length:Int))=true:=decide_eq_true Hv;clear Hv;obtain ⟨qw,Mt⟩:∃ y_:List Int,y_=(Aa.drop (1:Int).toNat):=⟨_,rfl⟩;replace H:(Mb.l1 k1 Xd Zb qw t115 0 Ma La Na Ka Fa)=some r:=by first|(rw [Mt];with_reducible exact H)|(have Md:=(Option.bind_some _ _).symm.trans H;rw [Mt];with_reducible exact Md)|(have Md:=(Option.bind_some _ _).symm.trans H;with_reducible exact Md)|with_reducible exact H|(rw [Mt];exact H)|exact H
          have PN:=ga.mk Mt;clear Mt;have H':=ga.mk H;clear H;obtain ⟨Iay,TR,RW,_⟩:=Kd.Cy Zg.out;subst RW
          try go_wp2
          have Eb:=ga.mk (Kd.jb qc.out);have Ib:=ga.mk (Kd.jb ec.out);have Sb:=ga.mk (Kd.Ni Zg.out);have yc:=ga.mk (Ea ta.out);have Ee:=ga.mk (qa HB.out);clear qc ec Zg ta HB;have qc:=Eb;have ec:=Ib;have Zg:=Sb;have ta:=yc;have HB:=Ee;clear Eb Ib Sb yc Ee;have Py:0 ≤ (0:Int):=(by omega);have Oy:0 < (Aa.length:Int):=of_decide_eq_true (by first|(with_reducible assumption)|assumption);obtain ⟨Gz,NR,Um⟩:=Kd.Te (Kd.nC Zg.out).2.2 0 Py Oy;cases NR;have mar:(0 < Aa.length)=True:=eq_true (by omega);(try rw [show ((0:Int)).toNat=0 from rfl] at Um);(try rw [Addr.add_zero'] at Um);replace Py:=eq_true Py;replace Oy:=eq_true Oy;have Et:0 ≤ ((rd Aa 0):Int):=of_decide_eq_true (by first|(with_reducible assumption)|assumption);have Ct:(rd Aa 0) < (Fa.length:Int):=of_decide_eq_true (by first|(with_reducible assumption)|assumption);obtain ⟨uk,QS,eS,xK,mo,qu,ou,nu,lu,LL,QL⟩:=Sk kg.out (rd Aa 0) Et Ct;have DL:=lu;have EL:=nu;have FL:=ou;have GL:=qu;have IL:=mo;cases xK;replace mo:=Ra HB.out mo;replace qu:=Ra HB.out qu;replace ou:=Ra HB.out ou;replace nu:=Ra HB.out nu;replace lu:=Ra HB.out lu;have TN:=ga.mk QL;have FX:=ga.mk LL;clear QL LL;replace Et:=eq_true Et;replace Ct:=eq_true Ct;refine cl (n:=9) (S:=fun w'=>w'.cell? ⟨za,0,none⟩=some (.slice qb Ma.length mb)∧w'.cell? ⟨za,1,none⟩=some (.int .i64 La)∧w'.cell? ⟨za,2,none⟩=some (.int .i64 Na)∧w'.cell? ⟨za,3,none⟩=some (.int .i64 Ka)∧w'.cell? ⟨za,4,none⟩=some (.slice (some uk) Fa.length Fb)∧w'.cell? Gz=some (.int .i64 (rd Aa 0))∧w'.cell? (uk.add (((rd Aa 0)).toNat * 5))=some (.slice QS ((Ta Fa (rd Aa 0)).f0).length eS)∧w'.cell? ⟨(uk.add (((rd Aa 0)).toNat * 5)).block,(uk.add (((rd Aa 0)).toNat * 5)).off + 1,none⟩=some (.int .i64 ((Ta Fa (rd Aa 0)).f1))∧w'.cell? ⟨(uk.add (((rd Aa 0)).toNat * 5)).block,(uk.add (((rd Aa 0)).toNat * 5)).off + 2,none⟩=some (.int .i64 ((Ta Fa (rd Aa 0)).f2))∧w'.cell? ⟨(uk.add (((rd Aa 0)).toNat * 5)).block,(uk.add (((rd Aa 0)).toNat * 5)).off + 3,none⟩=some (.int .i64 ((Ta Fa (rd Aa 0)).f3))∧w'.cell? ⟨(uk.add (((rd Aa 0)).toNat * 5)).block,(uk.add (((rd Aa 0)).toNat * 5)).off + 4,none⟩=some (.int .i64 ((Ta Fa (rd Aa 0)).f4))) (ds:=[]) #[false,false,false,false,false,false,false,false,false] (by kernel_rfl) rfl rfl ⟨(ja ta.out 0).trans rfl,(ja ta.out 1).trans rfl,(ja ta.out 2).trans rfl,(ja ta.out 3).trans rfl,(ja ta.out 4).trans rfl,Um,(Ra HB.out IL),(Ra HB.out GL),(Ra HB.out FL),(Ra HB.out EL),(Ra HB.out DL)⟩ (fun hHeld=>?_);refine qi Mb.kan Mb.fad (fun Wf Hs=>?_);generalize wr.drew=cO at qc ec Zg ta HB TN Um mo qu ou nu lu hHeld ⊢;refine Bd (i:=0) (N:=some 24) (v:=?_) (a':=?_) #[true,false,false,false,false,false,false,false,false] rfl rfl (Lc Wf.out (by kernel_rfl)) (fun _ _ _ h=>h) (Or.inl ⟨by rfl,?_⟩) ?_ ?_;rotate_left
          ·intro w';go_simp;with_reducible rfl
          rotate_left
          ·simp only [Act.put,List.setIfInBounds_toArray,List.set_cons_zero,List.set_cons_succ,fc,ic]
           rfl
          refine Bd (i:=2) (N:=some 26) (v:=?_) (a':=?_) #[true,false,true,false,false,false,false,false,false] rfl rfl (Lc Wf.out (by kernel_rfl)) (fun _ _ _ h=>h) (Or.inl ⟨by rfl,?_⟩) ?_ ?_;rotate_left
          ·intro w';go_simp;with_reducible rfl
          rotate_left
          ·simp only [Act.put,List.setIfInBounds_toArray,List.set_cons_zero,List.set_cons_succ,fc,ic]
           rfl
          refine Bd (i:=3) (N:=some 27) (v:=?_) (a':=?_) #[true,false,true,true,false,false,false,false,false] rfl rfl (Lc Wf.out (by kernel_rfl)) (fun _ _ _ h=>h) (Or.inl ⟨by rfl,?_⟩) ?_ ?_;rotate_left
          ·intro w';go_simp;with_reducible rfl
          rotate_left
          ·simp only [Act.put,List.setIfInBounds_toArray,List.set_cons_zero,List.set_cons_succ,fc,ic]
           rfl
          refine th (i:=1) (N:=some 25) (v:=?_) (a':=?_) #[true,true,true,true,false,false,false,false,false] rfl rfl (Ze Wf.out Hs.out (by kernel_rfl)) (fun _ _ _ h=>h) (Or.inl ⟨by rfl,?_⟩) hHeld ?_ ?_;rotate_left
          ·rintro w' ⟨s0,s1,s2,s3,s4,s5,s6,s7,s8,s9,GJ⟩;go_simp;with_reducible rfl
          rotate_left
          ·simp only [Act.put,List.setIfInBounds_toArray,List.set_cons_zero,List.set_cons_succ,fc,ic]
           rfl
          refine th (i:=4) (N:=some 28) (v:=?_) (a':=?_) #[true,true,true,true,true,false,false,false,false] rfl rfl (Ze Wf.out Hs.out (by kernel_rfl)) (fun _ _ _ h=>h) (Or.inl ⟨by rfl,?_⟩) hHeld ?_ ?_;rotate_left
          ·rintro w' ⟨s0,s1,s2,s3,s4,s5,s6,s7,s8,s9,GJ⟩;go_simp;with_reducible rfl
          rotate_left
          ·simp only [Act.put,List.setIfInBounds_toArray,List.set_cons_zero,List.set_cons_succ,fc,ic]
           rfl
          refine Bd (i:=5) (N:=some 29) (v:=?_) (a':=?_) #[true,true,true,true,true,true,false,false,false] rfl rfl (Lc Wf.out (by kernel_rfl)) (fun _ _ _ h=>h) (Or.inl ⟨by rfl,?_⟩) ?_ ?_;rotate_left
          ·intro w';go_simp;with_reducible rfl
          rotate_left
          ·simp only [Act.put,List.setIfInBounds_toArray,List.set_cons_zero,List.set_cons_succ,fc,ic]
           rfl
          refine th (i:=6) (N:=some 30) (v:=?_) (a':=?_) #[true,true,true,true,true,true,true,false,false] rfl rfl (Ze Wf.out Hs.out (by kernel_rfl)) (fun _ _ _ h=>h) (Or.inl ⟨by rfl,?_⟩) hHeld ?_ ?_;rotate_left
          ·rintro w' ⟨s0,s1,s2,s3,s4,s5,s6,s7,s8,s9,GJ⟩;go_simp;with_reducible rfl
          rotate_left
          ·simp only [Act.put,List.setIfInBounds_toArray,List.set_cons_zero,List.set_cons_succ,fc,ic]
           rfl
          refine Dw (i:=7) (N:=some 31) #[true,true,true,true,true,true,true,true,false] rfl rfl (Ln Wf.out (by kernel_rfl)) (by decide) (fun K hK=>?_);refine Ts Try.func85 (by kernel_rfl) rfl #[.agg #[.slice QS ((Ta Fa (rd Aa 0)).f0).length eS,.int .i64 ((Ta Fa (rd Aa 0)).f1),.int .i64 ((Ta Fa (rd Aa 0)).f2),.int .i64 ((Ta Fa (rd Aa 0)).f3),.int .i64 ((Ta Fa (rd Aa 0)).f4)]] (by rfl) rfl rfl (by (try simp only [List.map_toArray,List.map_cons,List.map_nil]);first|done|rfl|(simp only [List.length_drop,List.length_take];rfl)) ?_;with_reducible refine (Wg.calls _ _ ((Ta Fa (rd Aa 0)).f0) ((Ta Fa (rd Aa 0)).f1) ((Ta Fa (rd Aa 0)).f2) ((Ta Fa (rd Aa 0)).f3) ((Ta Fa (rd Aa 0)).f4) t115 _ ?Fc ?Ec JZ.out).mono ?_
          (case Fc=>repeat (first|exact (Kd.Nb TN.out HB.out)|(with_reducible refine Kd.Ub ?_ _)|(with_reducible refine Kd.Tb ?_ _)|(with_reducible refine Kd.mc ?_)))
          (case Ec=>exact FX.out)
          rintro e En ⟨kH,rfl,Ri,hb⟩;have K6:=(hb.cell (World.block_lt_of_cell? _ _ (hHeld.2.2.2.2.2.1))).trans (hHeld.2.2.2.2.2.1);refine ⟨_,rfl,?_⟩;have Eb:=ga.mk (Kd.mj (by (with_reducible repeat (first|apply Kd.Va|apply Kd.Ua|apply Kd.jb));exact qc.out) (Kd.Mh Ri) hb);have Ib:=ga.mk (Kd.mj (by (with_reducible repeat (first|apply Kd.Va|apply Kd.Ua|apply Kd.jb));exact ec.out) (Kd.Mh Ri) hb);have Sb:=ga.mk (Kd.WI (by (with_reducible repeat (first|apply Kd.Yh|apply Kd.Xh|apply Kd.Ni));exact Zg.out) (Kd.Mh Ri) hb);have yc:=ga.mk (Kd.Fe (Kd.qm (Kd.qm (Kd.qm Ri (Kd.Km (by (with_reducible repeat (first|apply Kd.Va|apply Kd.Ua|apply Kd.jb));exact qc.out))) (Kd.Km (by (with_reducible repeat (first|apply Kd.Va|apply Kd.Ua|apply Kd.jb));exact ec.out))) (Kd.xad (by (with_reducible repeat (first|apply Kd.Yh|apply Kd.Xh|apply Kd.Ni));exact Zg.out))) (Ja (by repeat (first|(with_reducible first|exact HB.out|apply oa|apply ia|apply qa|refine ua ?_ Sa.out)|exact HB.out))));have Ee:=ga.mk (Wa (g:=za) (o:=.cells #[.slice qb Ma.length mb,.int .i64 La,.int .i64 Na,.int .i64 Ka,.slice (some uk) Fa.length Fb] 45 (0,0)) (by (with_reducible repeat (first|refine Ca ?_ _|refine Ea ?_|refine Da ?_ _));exact ta.out) hb);have mg:=ga.mk (Qa (by repeat (first|(with_reducible first|exact HB.out|apply oa|apply ia|apply qa|refine ua ?_ Sa.out)|exact HB.out)) hb);clear qc ec Zg ta HB;have qc:=Eb;have ec:=Ib;have Zg:=Sb;have XN:=yc;have ta:=Ee;have HB:=mg;clear Eb Ib Sb yc Ee mg;(try clear hb);(try clear Qj);(try clear hk);(try clear hi);(try clear Ri);refine hK.out _ _ ⟨(ja ta.out 0).trans rfl,(ja ta.out 1).trans rfl,(ja ta.out 2).trans rfl,(ja ta.out 3).trans rfl,(ja ta.out 4).trans rfl,K6,(Ra HB.out IL),(Ra HB.out GL),(Ra HB.out FL),(Ra HB.out EL),(Ra HB.out DL)⟩ (fun hHeld=>?_);clear hK K;refine Fp (a':=?_) ?_ ?_;rotate_left
          ·show Act.put _ (some 31) _=_
           simp only [Act.put,List.setIfInBounds_toArray,List.set_cons_zero,List.set_cons_succ,fc,ic]
           rfl
          refine Bd (i:=8) (N:=some 6) (v:=?_) (a':=?_) #[true,true,true,true,true,true,true,true,true] rfl rfl (Lc Wf.out (by kernel_rfl)) (fun _ _ _ h=>h) (Or.inl ⟨by rfl,?_⟩) ?_ ?_;rotate_left
          ·intro w';go_simp;with_reducible rfl
          rotate_left
          ·simp only [Act.put,List.setIfInBounds_toArray,List.set_cons_zero,List.set_cons_succ,fc,ic]
           rfl
          refine pq (Jk Wf.out (by kernel_rfl)) ?_;have n_:=ga.mk (Kd.Gs (vp:=(fun k_=>some k_ ≠ (ji:Value).ownBlock∧some k_ ≠ (.slice (some ⟨St,0,none⟩) Zb.length oy:Value).ownBlock∧some k_ ≠ (kH:Value).ownBlock)) Zg.out (fun k_ hk=>⟨hk.1.1,⟨hk.1.2,hk.2⟩⟩));clear Zg;have Zg:=n_;clear n_;have K0:(1:Int) ≤ ((Aa.length:Int):Int):=of_decide_eq_true (by first|(with_reducible assumption)|assumption);obtain ⟨Gaw,hY,_,WX,_⟩:=info_parts info3;have S3:=BI (P:=Try.prog) 22 3 .i64 Try.underlying22 hY 1 WX (some Gz) Aa.length TR 1 (by omega) K0;have FQ:=Kd.uS (k:=(1:Int).toNat) Zg.out (by omega);obtain ⟨E7,OW⟩:∃ A1,A1=(if TR=(1:Int).toNat then (some Gz) else ((some Gz):Option Addr).map (·.add ((1:Int).toNat * 1))):=⟨_,rfl⟩;obtain ⟨fH,V3⟩:∃ c1,c1=TR - (1:Int).toNat:=⟨_,rfl⟩;have Z0:qw.length=Aa.length - (1:Int).toNat:=(by rw [PN.out,List.length_drop]);rw [← PN.out] at FQ;rw [← Z0,← OW,← V3] at S3;replace FQ:Kd.Q (Kd.int .i64) 3 En w.heap.size (fun k_=>some k_ ≠ (ji:Value).ownBlock∧some k_ ≠ (.slice (some ⟨St,0,none⟩) Zb.length oy:Value).ownBlock∧some k_ ≠ (kH:Value).ownBlock) (.slice E7 qw.length fH) qw:=(by rw [OW,V3,Z0];exact FQ);have n7:ga ((Value.slice E7 qw.length fH).ownBlock=(.slice (some Gz) Aa.length TR:Value).ownBlock):=⟨by rw [OW];split <;> (cases ((some Gz):Option Addr) <;> rfl)⟩;clear Z0 hY WX Zg OW V3;have pae:=ga.mk FQ;clear FQ;replace K0:=eq_true K0;have n_:=ga.mk (Kd.Mc (vp:=fun k_=>((some k_ ≠ (.slice (some ⟨St,0,none⟩) Zb.length oy:Value).ownBlock∧some k_ ≠ (.slice E7 qw.length fH:Value).ownBlock)∧some k_ ≠ (kH:Value).ownBlock)) qc.out (fun k_ hk=>⟨⟨hk.1.1,(by rw [n7.out];exact hk.1.2)⟩,hk.2⟩));clear qc;have qc:=n_;clear n_;have n_:=ga.mk (Kd.Mc (vp:=fun k_=>((some k_ ≠ (ji:Value).ownBlock∧some k_ ≠ (.slice E7 qw.length fH:Value).ownBlock)∧some k_ ≠ (kH:Value).ownBlock)) ec.out (fun k_ hk=>⟨⟨hk.1.1,(by rw [n7.out];exact hk.1.2)⟩,hk.2⟩));clear ec;have ec:=n_;clear n_;have n_:=ga.mk (Kd.Mc (vp:=fun k_=>(((True∧some k_ ≠ (ji:Value).ownBlock)∧some k_ ≠ (.slice (some ⟨St,0,none⟩) Zb.length oy:Value).ownBlock)∧some k_ ≠ (.slice E7 qw.length fH:Value).ownBlock)) XN.out (fun k_ hk=>⟨⟨⟨trivial,hk.1.1.2⟩,hk.1.2⟩,(by rw [n7.out];exact hk.2)⟩));clear XN;have XN:=n_;clear n_
          try go_wp2
          go_loopg [5,7] k1 (fun kq v5 v7 w'=>∃ (Hf:List Int) (BC:List Int) (Jc:Int),v7 = .int .i64 Jc∧ga (Mb.l1 kq Xd Hf BC t115 Jc Ma La Na Ka Fa=some r)∧ga (kq ≤ k1)∧ga (Kd.R (Kd.int .i64) 3 w' w.heap.size (fun k_=>some k_ ≠ ((.slice (some ⟨St,0,none⟩) Zb.length oy):Value).ownBlock∧some k_ ≠ (v5:Value).ownBlock∧some k_ ≠ (kH:Value).ownBlock) ji Xd)∧ga (Kd.R (Kd.int .i64) 3 w' w.heap.size (fun k_=>some k_ ≠ (ji:Value).ownBlock∧some k_ ≠ (v5:Value).ownBlock∧some k_ ≠ (kH:Value).ownBlock) (.slice (some ⟨St,0,none⟩) Zb.length oy) Hf)∧ga (Kd.Q (Kd.int .i64) 3 w' w.heap.size (fun k_=>some k_ ≠ (ji:Value).ownBlock∧some k_ ≠ ((.slice (some ⟨St,0,none⟩) Zb.length oy):Value).ownBlock∧some k_ ≠ (kH:Value).ownBlock) v5 BC)∧ga (Kd.R (Kd.int .i64) 3 w' w.heap.size (fun k_=>some k_ ≠ (ji:Value).ownBlock∧some k_ ≠ ((.slice (some ⟨St,0,none⟩) Zb.length oy):Value).ownBlock∧some k_ ≠ (v5:Value).ownBlock) kH t115)∧ga (w'.heap[za]? = some (.cells #[(.slice qb Ma.length mb),.int .i64 La,.int .i64 Na,.int .i64 Ka,(.slice (some uk) Fa.length Fb)] 45 (0,0)))∧ga (Below w.heap.size w w'))
          case atStart=>exact ⟨(Zb),(qw),(0),(by first|rfl|(simp;done)|(simp [*];done)),H',⟨Nat.le_refl _⟩,⟨by (try simp only [nh]);(with_reducible repeat (first|apply Kd.Va|apply Kd.Ua|apply Kd.jb));exact Kd.Mc qc.out (fun _ hk=>⟨hk.1.1,⟨hk.1.2,hk.2⟩⟩)⟩,⟨by (try simp only [nh]);(with_reducible repeat (first|apply Kd.Va|apply Kd.Ua|apply Kd.jb));exact Kd.Mc ec.out (fun _ hk=>⟨hk.1.1,⟨hk.1.2,hk.2⟩⟩)⟩,⟨by (try simp only [nh]);(with_reducible repeat (first|apply Kd.Yh|apply Kd.Xh|apply Kd.Ni));exact pae.out⟩,⟨by (try simp only [nh]);(with_reducible repeat (first|apply Kd.Va|apply Kd.Ua|apply Kd.jb));exact Kd.Mc XN.out (fun _ hk=>⟨hk.1.1.2,⟨hk.1.2,hk.2⟩⟩)⟩,⟨by (try simp only [nh]);(with_reducible repeat (first|refine Ca ?_ _|refine Ea ?_|refine Da ?_ _));exact ta.out⟩,⟨by repeat (first|(with_reducible first|exact HB.out|apply oa|apply ia|apply qa|refine ua ?_ Sa.out)|exact HB.out)⟩⟩
          case round =>
           clear H'
           try clear c1
           try clear p1
           try clear q1
           try clear hx1
           try clear qi1
           try clear c2
           try clear p2
           try clear q2
           try clear c3
           try clear c5
           try clear qn
           try clear gz
           try clear c6
           try clear p6
           try clear q6
           try clear fE
           try clear qi6
           try clear hf6
           try clear c8
           try clear c9
           try clear uJ
           try clear p11
           try clear RP
           try clear Qan
           try clear pan
           try clear Bp
           try clear vn
           try clear uy
           try clear xp
           try clear Iv
           try clear xD
           try clear Jq
           try clear wD
           try clear qt
           try clear vD
           try clear Hv
           try clear bC
           try clear LI
           try clear fH
           try clear K0
           try clear Wh
           try clear Vh
           try clear Uh
           try clear Th
           try clear Sh
           try clear oq
           try clear mq
           try clear lq
           try clear jq
           try clear iq
           try clear Rh
           try clear Qh
           try clear Ph
           try clear Oh
           try clear Nh
           try clear Zp
           try clear Yp
           try clear Xp
           try clear Wp
           try clear Vp
           try clear Um
           try clear mo
           try clear qu
           try clear ou
           try clear nu
           try clear lu
           try clear kD
           try clear Py
           try clear Et
           try clear p2
           try clear p6
           try clear Oy
           try clear Ct
           try clear K0
           try clear q6
           (try clear HA);(try clear Pj);(try clear qc);(try clear ec);(try clear Zg);(try clear Xk);(try clear ta);(try clear HB);obtain ⟨Hf,BC,Jc,rfl,HA,Pj,qc,ec,Zg,Xk,ta,HB⟩:=hrel;have ak:=(Kd.Jb ec.out).1;rw [ak] at ec;(try simp only [ak]);(try simp only [ak] at ta);(try simp only [ak] at qc);(try simp only [ak] at Zg);(try simp only [ak] at Xk);cases gk with
           | zero=>exact absurd HA.out (by simp [Mb.l1])
           | succ k2 =>
            have H:=HA.out;clear HA;simp only [Mb.l1] at H
            by_cases sy:Jc < (t115.length:Int)
            ·rw [if_pos sy] at H;have Nq:decide (Jc < (t115.length:Int))=true:=decide_eq_true sy;clear sy
             by_cases VA:0 ≤ Jc
             ·rw [if_pos VA] at H;have ry:decide (0 ≤ Jc)=true:=decide_eq_true VA;clear VA
              by_cases Ez:0 ≤ (rd t115 Jc)
              ·rw [if_pos Ez] at H;have uD:decide (0 ≤ (rd t115 Jc))=true:=decide_eq_true Ez;clear Ez
               by_cases FN:(rd t115 Jc) < (Hf.length:Int)
               ·rw [if_pos FN] at H;have ZR:decide ((rd t115 Jc) < (Hf.length:Int))=true:=decide_eq_true FN;clear FN
                by_cases fP:(rd Hf (rd t115 Jc))=0
                ·rw [if_pos fP] at H;have KY:((rd Hf (rd t115 Jc)) == 0)=true:=beq_iff_eq.mpr fP;have JY:((rd Hf (rd t115 Jc)) != 0)=false:=bne_eq_false_iff_eq.mpr fP;clear fP;obtain ⟨gH,Lt⟩:∃ y_:List Int,y_=(Hf.set ((rd t115 Jc):Int).toNat 1):=⟨_,rfl⟩;replace H:(if BC.length < 17592186044416 then (Mb.l1 k2 Xd gH (BC ++ [rd t115 Jc]) t115 (wrap64 (Jc + 1)) Ma La Na Ka Fa) else (none))=some r:=by first|(rw [Lt];with_reducible exact H)|(have Md:=(Option.bind_some _ _).symm.trans H;rw [Lt];with_reducible exact Md)|(have Md:=(Option.bind_some _ _).symm.trans H;with_reducible exact Md)|with_reducible exact H|(rw [Lt];exact H)|exact H
                 have xS:=ga.mk Lt;clear Lt
                 by_cases JI:BC.length < 17592186044416
                 ·rw [if_pos JI] at H;have Had:=ga.mk JI;clear JI;obtain ⟨wP,Jt⟩:∃ y_:List Int,y_=(BC ++ [rd t115 Jc]):=⟨_,rfl⟩;replace H:(Mb.l1 k2 Xd gH wP t115 (wrap64 (Jc + 1)) Ma La Na Ka Fa)=some r:=by first|(rw [Jt];with_reducible exact H)|(have Md:=(Option.bind_some _ _).symm.trans H;rw [Jt];with_reducible exact Md)|(have Md:=(Option.bind_some _ _).symm.trans H;with_reducible exact Md)|with_reducible exact H|(rw [Jt];exact H)|exact H
                  have vS:=ga.mk Jt;clear Jt;have H':=ga.mk H;clear H;obtain ⟨Bay,YO,Uap⟩:=Kd.Nd Xk.out;subst Uap;have jv:0 ≤ (Jc:Int):=of_decide_eq_true (by first|(with_reducible assumption)|assumption);have gv:Jc < (t115.length:Int):=of_decide_eq_true (by first|(with_reducible assumption)|assumption);obtain ⟨Pq,uK,Ip⟩:=Kd.Te (Kd.Jb Xk.out).2.2 Jc jv gv;cases uK;replace jv:=eq_true jv;replace gv:=eq_true gv;have Mz:0 ≤ ((rd t115 Jc):Int):=of_decide_eq_true (by first|(with_reducible assumption)|assumption);have Lz:(rd t115 Jc) < (Hf.length:Int):=of_decide_eq_true (by first|(with_reducible assumption)|assumption);obtain ⟨jC,MR,vl⟩:=Kd.Te (Kd.Jb ec.out).2.2 (rd t115 Jc) Mz Lz;obtain rfl:(⟨St,0,none⟩:Addr)=jC:=(by injection MR);(first|simp only [add_plain] at vl|simp only [Hq] at vl|simp only [Addr.add,Nat.zero_add] at vl|skip);replace Mz:=eq_true Mz;replace Lz:=eq_true Lz;have NT:0 ≤ (Jc:Int):=of_decide_eq_true (by first|(with_reducible assumption)|assumption);have ET:Jc < (t115.length:Int):=of_decide_eq_true (by first|(with_reducible assumption)|assumption);obtain ⟨kad,eaq,aU⟩:=Kd.Te (Kd.Jb Xk.out).2.2 Jc NT ET;obtain rfl:Pq=kad:=(by injection eaq);replace NT:=eq_true NT;replace ET:=eq_true ET;have H8:0 ≤ ((rd t115 Jc):Int):=of_decide_eq_true (by first|(with_reducible assumption)|assumption);have G8:((rd t115 Jc):Int) < ((Hf.length:Int):Int):=of_decide_eq_true (by first|(with_reducible assumption)|assumption);obtain ⟨C1,Wao⟩:=Kd.Fh 0 ec.out ((rd t115 Jc):Int) H8 G8;replace H8:=eq_true H8;replace G8:=eq_true G8;have P6:=Kd.Jm ec.out ((rd t115 Jc):Int) 1;go_wp2_with (first|((with_reducible refine gf (t:=3) (p:=53) rfl ?_);refine Ie (t:=3) (p:=53) (v:=?Vam) (w1:=(wr.setCell ⟨St,((rd t115 Jc):Int).toNat,none⟩ (.int .i64 1))) ?hg ?ho ?hn ?hr ?_;(case ho=>rfl);(case hg=>rfl);(case hn=>rfl);(case hr=>first|(go_simp;done)|(go_simp;rfl));intro OZ hw;have hg:wr.grownBy OZ (some St):=(by rw [hw];exact P6.2);have Hl:Kd.R (Kd.int .i64) 3 OZ w.heap.size (fun k_=>some k_ ≠ (ji:Value).ownBlock∧some k_ ≠ (u5:Value).ownBlock∧some k_ ≠ (.slice (some Pq) t115.length YO:Value).ownBlock) (.slice (some ⟨St,0,none⟩) Hf.length oy) gH:=(by rw [hw,xS.out];exact P6.1);clear P6;have Eb:=ga.mk (Kd.Yg (v:=(.slice (some ⟨St,0,none⟩) Hf.length oy)) (v1:=(.slice (some ⟨St,0,none⟩) Hf.length oy)) (ok:=(fun k_=>some k_ ≠ (u5:Value).ownBlock∧some k_ ≠ (.slice (some Pq) t115.length YO:Value).ownBlock)) (by (with_reducible repeat (first|apply Kd.Va|apply Kd.Ua|apply Kd.jb));exact Kd.Mc qc.out (fun _ hk=>⟨⟨hk.2.1,hk.2.2⟩,hk.1⟩)) hg (.inl rfl));have Ib:=ga.mk (Hl);have Sb:=ga.mk (Kd.nX (v:=(.slice (some ⟨St,0,none⟩) Hf.length oy)) (v1:=(.slice (some ⟨St,0,none⟩) Hf.length oy)) (ok:=(fun k_=>some k_ ≠ (ji:Value).ownBlock∧some k_ ≠ (.slice (some Pq) t115.length YO:Value).ownBlock)) (by (with_reducible repeat (first|apply Kd.Yh|apply Kd.Xh|apply Kd.Ni));exact Kd.Gs Zg.out (fun _ hk=>⟨⟨hk.1,hk.2.2⟩,hk.2.1⟩)) hg (.inl rfl));have yc:=ga.mk (Kd.Yg (v:=(.slice (some ⟨St,0,none⟩) Hf.length oy)) (v1:=(.slice (some ⟨St,0,none⟩) Hf.length oy)) (ok:=(fun k_=>some k_ ≠ (ji:Value).ownBlock∧some k_ ≠ (u5:Value).ownBlock)) (by (with_reducible repeat (first|apply Kd.Va|apply Kd.Ua|apply Kd.jb));exact Kd.Mc Xk.out (fun _ hk=>⟨⟨hk.1,hk.2.2⟩,hk.2.1⟩)) hg (.inl rfl));have Ee:=ga.mk (Kf (g:=za) (o:=.cells #[.slice qb Ma.length mb,.int .i64 La,.int .i64 Na,.int .i64 Ka,.slice (some uk) Fa.length Fb] 45 (0,0)) (by (with_reducible repeat (first|refine Ca ?_ _|refine Ea ?_|refine Da ?_ _));exact ta.out) hg (Kd.Rq ec.out ta.out (by decide)));have mg:=ga.mk ((by rw [hw];exact ua (HB.out) GB6.out:Below w.heap.size w OZ));clear qc ec Zg Xk ta HB;have qc:=Eb;have ec:=Ib;have Zg:=Sb;have Xk:=yc;have ta:=Ee;have HB:=mg;clear Eb Ib Sb yc Ee mg hg hw Hl;have MT:0 ≤ (Jc:Int):=of_decide_eq_true (by first|(with_reducible assumption)|assumption);have DT:Jc < (t115.length:Int):=of_decide_eq_true (by first|(with_reducible assumption)|assumption);obtain ⟨jad,daq,ZT⟩:=Kd.Te (Kd.Jb Xk.out).2.2 Jc MT DT;obtain rfl:Pq=jad:=(by injection daq);replace MT:=eq_true MT;replace DT:=eq_true DT)|((with_reducible refine lg (b:=.append) (xs:=#[.tmp 54,.tmp 59]) rfl ?_);at_builtin;refine Kd.XI (Kd.int .i64) (w0:=w) w.heap.size rfl (.tmp 54) (.tmp 59) 22 3 (.int .i64 0) 8 rfl Try.underlying22 info3 rfl (by decide) (by omega) u5 BC (rd t115 Jc) [.int .i64 (rd t115 Jc)] (fun k_=>some k_ ≠ (ji:Value).ownBlock∧some k_ ≠ (.slice (some ⟨St,0,none⟩) Hf.length oy:Value).ownBlock∧some k_ ≠ (.slice (some Pq) t115.length YO:Value).ownBlock) (fun _=>False) rfl rfl ?aP (fun _ hk=>hk.elim) ?aF ?aO ?aB ?aS ?aL ?_;(case aP=>exact rfl);(case aB=>exact (by repeat (first|(with_reducible first|exact HB.out|apply oa|apply ia|apply qa|refine ua ?_ Sa.out)|exact HB.out)));(case aF=>exact (fun k_ hk=>⟨Kd.fresh' (Kd.Km (by (with_reducible repeat (first|apply Kd.Va|apply Kd.Ua|apply Kd.jb));exact qc.out)) k_ hk,Kd.fresh' (Kd.Km (by (with_reducible repeat (first|apply Kd.Va|apply Kd.Ua|apply Kd.jb));exact ec.out)) k_ hk,Kd.fresh' (Kd.Km (by (with_reducible repeat (first|apply Kd.Va|apply Kd.Ua|apply Kd.jb));exact Xk.out)) k_ hk⟩));(case aO=>exact (by (with_reducible repeat (first|apply Kd.Yh|apply Kd.Xh|apply Kd.Ni));exact Kd.Gs Zg.out (fun _ hk=>⟨hk.1.1,⟨hk.2,hk.1.2⟩⟩)));(case aS=>exact (Ja (by repeat (first|(with_reducible first|exact HB.out|apply oa|apply ia|apply qa|refine ua ?_ Sa.out)|exact HB.out))));(case aL=>have:=Had.out;omega);intro v127 vC ho hb hg hat;rw [← vS.out] at ho;have Eb:=ga.mk (Kd.Yg (ok:=(fun k_=>some k_ ≠ (.slice (some ⟨St,0,none⟩) Hf.length oy:Value).ownBlock∧some k_ ≠ (.slice (some Pq) t115.length YO:Value).ownBlock)) (by (with_reducible repeat (first|apply Kd.Va|apply Kd.Ua|apply Kd.jb));exact Kd.Mc qc.out (fun _ hk=>⟨⟨hk.2,hk.1.2⟩,hk.1.1⟩)) hg hat);have Ib:=ga.mk (Kd.Yg (ok:=(fun k_=>some k_ ≠ (ji:Value).ownBlock∧some k_ ≠ (.slice (some Pq) t115.length YO:Value).ownBlock)) (by (with_reducible repeat (first|apply Kd.Va|apply Kd.Ua|apply Kd.jb));exact Kd.Mc ec.out (fun _ hk=>⟨⟨hk.1,hk.2.2⟩,hk.2.1⟩)) hg hat);have Sb:=ga.mk (Kd.Yg (ok:=(fun k_=>some k_ ≠ (ji:Value).ownBlock∧some k_ ≠ (.slice (some ⟨St,0,none⟩) Hf.length oy:Value).ownBlock)) (by (with_reducible repeat (first|apply Kd.Va|apply Kd.Ua|apply Kd.jb));exact Kd.Mc Xk.out (fun _ hk=>⟨⟨hk.1.1,hk.2⟩,hk.1.2⟩)) hg hat);have yc:=ga.mk (Kf (g:=za) (o:=.cells #[.slice qb Ma.length mb,.int .i64 La,.int .i64 Na,.int .i64 Ka,.slice (some uk) Fa.length Fb] 45 (0,0)) (by (with_reducible repeat (first|refine Ca ?_ _|refine Ea ?_|refine Da ?_ _));exact ta.out) hg (Kd.wad Zg.out ta.out (by decide)));have Ee:=ga.mk (hb);have mg:=ga.mk (ho);clear qc ec Xk ta HB Zg;have qc:=Eb;have ec:=Ib;have Xk:=Sb;have ta:=yc;have HB:=Ee;have GS:=mg;clear Eb Ib Sb yc Ee mg ho hb hg hat));(try simp only [← ak])
                  go_roundg k2
                  case measure=>have:=uf.out;have:=Pj.out;omega
                  case rel=>exact ⟨(gH),(wP),(wrap64 (Jc + 1)),(by first|rfl|(simp;done)|(simp [*];done)),H',⟨by have:=uf.out;have:=Pj.out;omega⟩,⟨by (try simp only [nh]);(try simp only [ak]);(with_reducible repeat (first|apply Kd.Va|apply Kd.Ua|apply Kd.jb));exact Kd.Mc qc.out (fun _ hk=>⟨hk.1.1,⟨hk.2,hk.1.2⟩⟩)⟩,⟨by (try simp only [nh]);(try simp only [ak]);(with_reducible repeat (first|apply Kd.Va|apply Kd.Ua|apply Kd.jb));exact Kd.Mc ec.out (fun _ hk=>⟨hk.1.1,⟨hk.2,hk.1.2⟩⟩)⟩,⟨by (try simp only [nh]);(try simp only [ak]);(with_reducible repeat (first|apply Kd.Yh|apply Kd.Xh|apply Kd.Ni));exact GS.out⟩,⟨by (try simp only [nh]);(try simp only [ak]);(with_reducible repeat (first|apply Kd.Va|apply Kd.Ua|apply Kd.jb));exact Kd.Mc Xk.out (fun _ hk=>⟨hk.1.1,⟨hk.1.2,hk.2⟩⟩)⟩,⟨by (try simp only [nh]);(try simp only [ak]);(with_reducible repeat (first|refine Ca ?_ _|refine Ea ?_|refine Da ?_ _));exact ta.out⟩,⟨by repeat (first|(with_reducible first|exact HB.out|apply oa|apply ia|apply qa|refine ua ?_ Sa.out)|exact HB.out)⟩⟩
                 ·rw [if_neg JI] at H;exact absurd H (by simp)
                ·rw [if_neg fP] at H;have KY:((rd Hf (rd t115 Jc)) == 0)=false:=beq_eq_false_iff_ne.mpr fP;have JY:((rd Hf (rd t115 Jc)) != 0)=true:=bne_iff_ne.mpr fP;have H':=ga.mk H;clear H;obtain ⟨Vaq,laq,E4⟩:=Kd.Nd Xk.out;subst E4;have jv:0 ≤ (Jc:Int):=of_decide_eq_true (by first|(with_reducible assumption)|assumption);have gv:Jc < (t115.length:Int):=of_decide_eq_true (by first|(with_reducible assumption)|assumption);obtain ⟨Pq,uK,Ip⟩:=Kd.Te (Kd.Jb Xk.out).2.2 Jc jv gv;cases uK;replace jv:=eq_true jv;replace gv:=eq_true gv;have Mz:0 ≤ ((rd t115 Jc):Int):=of_decide_eq_true (by first|(with_reducible assumption)|assumption);have Lz:(rd t115 Jc) < (Hf.length:Int):=of_decide_eq_true (by first|(with_reducible assumption)|assumption);obtain ⟨jC,MR,vl⟩:=Kd.Te (Kd.Jb ec.out).2.2 (rd t115 Jc) Mz Lz;obtain rfl:(⟨St,0,none⟩:Addr)=jC:=(by injection MR);(first|simp only [add_plain] at vl|simp only [Hq] at vl|simp only [Addr.add,Nat.zero_add] at vl|skip);replace Mz:=eq_true Mz;replace Lz:=eq_true Lz;go_wp2;(try simp only [← ak])
                 go_roundg k2
                 case measure=>have:=uf.out;have:=Pj.out;omega
                 case rel=>exact ⟨(Hf),(BC),(wrap64 (Jc + 1)),(by first|rfl|(simp;done)|(simp [*];done)),H',⟨by have:=uf.out;have:=Pj.out;omega⟩,⟨by (try simp only [nh]);(try simp only [ak]);(with_reducible repeat (first|apply Kd.Va|apply Kd.Ua|apply Kd.jb));exact qc.out⟩,⟨by (try simp only [nh]);(try simp only [ak]);(with_reducible repeat (first|apply Kd.Va|apply Kd.Ua|apply Kd.jb));exact ec.out⟩,⟨by (try simp only [nh]);(try simp only [ak]);(with_reducible repeat (first|apply Kd.Yh|apply Kd.Xh|apply Kd.Ni));exact Zg.out⟩,⟨by (try simp only [nh]);(try simp only [ak]);(with_reducible repeat (first|apply Kd.Va|apply Kd.Ua|apply Kd.jb));exact Xk.out⟩,⟨by (try simp only [nh]);(try simp only [ak]);(with_reducible repeat (first|refine Ca ?_ _|refine Ea ?_|refine Da ?_ _));exact ta.out⟩,⟨by repeat (first|(with_reducible first|exact HB.out|apply oa|apply ia|apply qa|refine ua ?_ Sa.out)|exact HB.out)⟩⟩
               ·rw [if_neg FN] at H;exact absurd H (by simp)
              ·rw [if_neg Ez] at H;exact absurd H (by simp)
             ·rw [if_neg VA] at H;exact absurd H (by simp)
            ·rw [if_neg sy] at H;have Nq:decide (Jc < (t115.length:Int))=false:=decide_eq_false sy;clear sy;have H':=ga.mk H;clear H;obtain ⟨Aay,uax,Tap⟩:=Kd.Nd Xk.out;subst Tap;go_wp2;(try simp only [← nh,← ak])
             go_roundg k2
             case measure=>have:=uf.out;have:=Pj.out;omega
             case rel=>exact ⟨(Hf),(BC),H',⟨by have:=uf.out;have:=Pj.out;omega⟩,⟨by (try simp only [nh]);(try simp only [ak]);(with_reducible repeat (first|apply Kd.Va|apply Kd.Ua|apply Kd.jb));exact Kd.Mc qc.out (fun _ hk=>⟨hk.1,hk.2.1⟩)⟩,⟨by (try simp only [nh]);(try simp only [ak]);(with_reducible repeat (first|apply Kd.Va|apply Kd.Ua|apply Kd.jb));exact Kd.Mc ec.out (fun _ hk=>⟨hk.1,hk.2.1⟩)⟩,⟨by (try simp only [nh]);(try simp only [ak]);(with_reducible repeat (first|apply Kd.Yh|apply Kd.Xh|apply Kd.Ni));exact Kd.Gs Zg.out (fun _ hk=>⟨hk.1,hk.2.1⟩)⟩,⟨by (try simp only [nh]);(try simp only [ak]);(with_reducible repeat (first|refine Ca ?_ _|refine Ea ?_|refine Da ?_ _));exact ta.out⟩,⟨by repeat (first|(with_reducible first|exact HB.out|apply oa|apply ia|apply qa|refine ua ?_ Sa.out)|exact HB.out)⟩⟩
         ·rw [if_neg Hv] at H;exact absurd H (by simp)
        ·rw [if_neg qt] at H;exact absurd H (by simp)
       ·rw [if_neg Jq] at H;exact absurd H (by simp)
      ·rw [if_neg xp] at H;exact absurd H (by simp)
     ·rw [if_neg Bp] at H;have vn:decide (0 < (Aa.length:Int))=false:=decide_eq_false Bp;have uy:decide (0 < Aa.length)=false:=decide_eq_false (by omega);clear Bp;have H':=ga.mk H;clear H;obtain ⟨Uaq,kaq,D4,_⟩:=Kd.Cy Zg.out;subst D4;go_wp2
      go_loopg [3,8] k1 (fun kq v3 v8 w'=>∃ (Rj:List Int) (He:Int),v8 = .int .i64 He∧ga (Mb.l2 kq Rj Zb He=some r)∧ga (kq ≤ k1)∧ga (Kd.R (Kd.int .i64) 3 w' w.heap.size (fun k_=>some k_ ≠ ((.slice (some ⟨St,0,none⟩) Zb.length oy):Value).ownBlock) v3 Rj)∧ga (Kd.R (Kd.int .i64) 3 w' w.heap.size (fun k_=>some k_ ≠ (v3:Value).ownBlock) (.slice (some ⟨St,0,none⟩) Zb.length oy) Zb)∧ga (w'.heap[za]? = some (.cells #[(.slice qb Ma.length mb),.int .i64 La,.int .i64 Na,.int .i64 Ka,(.slice Lb Fa.length Fb)] 45 (0,0)))∧ga (Below w.heap.size w w'))
      case atStart=>exact ⟨(Xd),(0),(by first|rfl|(simp;done)|(simp [*];done)),H',⟨Nat.le_refl _⟩,⟨by (try simp only [nh]);(with_reducible repeat (first|apply Kd.Va|apply Kd.Ua|apply Kd.jb));exact Kd.Mc qc.out (fun _ hk=>hk.1)⟩,⟨by (try simp only [nh]);(with_reducible repeat (first|apply Kd.Va|apply Kd.Ua|apply Kd.jb));exact Kd.Mc ec.out (fun _ hk=>hk.1)⟩,⟨by (try simp only [nh]);(with_reducible repeat (first|refine Ca ?_ _|refine Ea ?_|refine Da ?_ _));exact ta.out⟩,⟨by repeat (first|(with_reducible first|exact HB.out|apply oa|apply ia|apply qa|refine ua ?_ Sa.out)|exact HB.out)⟩⟩
      case round =>
       clear H'
       try clear c1
       try clear p1
       try clear q1
       try clear hx1
       try clear qi1
       try clear c2
       try clear p2
       try clear q2
       try clear c3
       try clear p3
       try clear q3
       try clear Nz
       try clear hf3
       try clear c5
       try clear qn
       try clear gz
       try clear c6
       try clear p6
       try clear q6
       try clear fE
       try clear qi6
       try clear hf6
       try clear c8
       try clear c9
       try clear uJ
       try clear p11
       try clear RP
       try clear Qan
       try clear pan
       try clear p12
       try clear q12
       try clear Jaw
       try clear Bp
       try clear vn
       try clear uy
       try clear xp
       try clear Iv
       try clear xD
       try clear Jq
       try clear wD
       try clear qt
       try clear vD
       try clear Hv
       try clear bC
       try clear LI
       try clear fH
       try clear K0
       try clear sy
       try clear Nq
       try clear VA
       try clear ry
       try clear Ez
       try clear uD
       try clear FN
       try clear ZR
       try clear fP
       try clear KY
       try clear JY
       try clear H8
       try clear G8
       try clear Iaw
       try clear dax
       try clear JI
       try clear Wh
       try clear Vh
       try clear Uh
       try clear Th
       try clear Sh
       try clear oq
       try clear mq
       try clear lq
       try clear jq
       try clear iq
       try clear Rh
       try clear Qh
       try clear Ph
       try clear Oh
       try clear Nh
       try clear Zp
       try clear Yp
       try clear Xp
       try clear Wp
       try clear Vp
       try clear Um
       try clear mo
       try clear qu
       try clear ou
       try clear nu
       try clear lu
       try clear Ip
       try clear vl
       try clear aU
       try clear ZT
       try clear C1
       try clear kD
       try clear p1
       try clear p11
       try clear Py
       try clear Et
       try clear jv
       try clear Mz
       try clear NT
       try clear MT
       try clear p2
       try clear H8
       try clear p6
       try clear q1
       try clear RP
       try clear Oy
       try clear Ct
       try clear gv
       try clear Lz
       try clear ET
       try clear DT
       try clear q2
       try clear K0
       try clear G8
       try clear q6
       (try clear HA);(try clear Pj);(try clear qc);(try clear ec);(try clear ta);(try clear HB);obtain ⟨Rj,He,rfl,HA,Pj,qc,ec,ta,HB⟩:=hrel;cases gk with
       | zero=>exact absurd HA.out (by simp [Mb.l2])
       | succ k2 =>
        have H:=HA.out;clear HA;simp only [Mb.l2] at H
        by_cases YR:He < (Zb.length:Int)
        ·rw [if_pos YR] at H;have CY:decide (He < (Zb.length:Int))=true:=decide_eq_true YR;clear YR
         by_cases EN:0 ≤ He
         ·rw [if_pos EN] at H;have Kac:decide (0 ≤ He)=true:=decide_eq_true EN;clear EN
          by_cases aC:(rd Zb He)=1
          ·rw [if_pos aC] at H;have GI:((rd Zb He) == 1)=true:=beq_iff_eq.mpr aC;have FI:((rd Zb He) != 1)=false:=bne_eq_false_iff_eq.mpr aC;clear aC
           by_cases DG:Rj.length < 17592186044416
           ·rw [if_pos DG] at H;have Gad:=ga.mk DG;clear DG;obtain ⟨Z7,DH⟩:∃ y_:List Int,y_=(Rj ++ [He]):=⟨_,rfl⟩;replace H:(Mb.l2 k2 Z7 Zb (wrap64 (He + 1)))=some r:=by first|(rw [DH];with_reducible exact H)|(have Md:=(Option.bind_some _ _).symm.trans H;rw [DH];with_reducible exact Md)|(have Md:=(Option.bind_some _ _).symm.trans H;with_reducible exact Md)|with_reducible exact H|(rw [DH];exact H)|exact H
            have zad:=ga.mk DH;clear DH;have H':=ga.mk H;clear H;have PJ:0 ≤ (He:Int):=of_decide_eq_true (by first|(with_reducible assumption)|assumption);have LJ:He < (Zb.length:Int):=of_decide_eq_true (by first|(with_reducible assumption)|assumption);obtain ⟨iS,O4,kr⟩:=Kd.Te (Kd.Jb ec.out).2.2 He PJ LJ;obtain rfl:(⟨St,0,none⟩:Addr)=iS:=(by injection O4);(first|simp only [add_plain] at kr|simp only [Hq] at kr|simp only [Addr.add,Nat.zero_add] at kr|skip);replace PJ:=eq_true PJ;replace LJ:=eq_true LJ;go_wp2_with (first|((with_reducible refine lg (b:=.append) (xs:=#[.tmp 72,.tmp 74]) rfl ?_);at_builtin;refine Kd.um (Kd.int .i64) (w0:=w) w.heap.size rfl (.tmp 72) (.tmp 74) 22 3 (.int .i64 0) 8 rfl Try.underlying22 info3 rfl (by decide) (by omega) u3 Rj He [.int .i64 He] (fun k_=>some k_ ≠ (.slice (some ⟨St,0,none⟩) Zb.length oy:Value).ownBlock) (fun _=>False) rfl rfl ?aP (fun _ hk=>hk.elim) ?aF ?aO ?aB ?aS ?aL ?_;(case aP=>exact rfl);(case aB=>exact (by repeat (first|(with_reducible first|exact HB.out|apply oa|apply ia|apply qa|refine ua ?_ Sa.out)|exact HB.out)));(case aF=>exact (fun k_ hk=>Kd.fresh' (Kd.Km (by (with_reducible repeat (first|apply Kd.Va|apply Kd.Ua|apply Kd.jb));exact ec.out)) k_ hk));(case aO=>exact (by (with_reducible repeat (first|apply Kd.Va|apply Kd.Ua|apply Kd.jb));exact qc.out));(case aS=>exact (Ja (by repeat (first|(with_reducible first|exact HB.out|apply oa|apply ia|apply qa|refine ua ?_ Sa.out)|exact HB.out))));(case aL=>have:=Gad.out;omega);intro v131 rz ho hb hg hat;rw [← zad.out] at ho;have Eb:=ga.mk (Kd.Yg (ok:=(fun _=>True)) (by (with_reducible repeat (first|apply Kd.Va|apply Kd.Ua|apply Kd.jb));exact Kd.Mc ec.out (fun _ hk=>⟨trivial,hk⟩)) hg hat);have Ib:=ga.mk (Kf (g:=za) (o:=.cells #[.slice qb Ma.length mb,.int .i64 La,.int .i64 Na,.int .i64 Ka,.slice Lb Fa.length Fb] 45 (0,0)) (by (with_reducible repeat (first|refine Ca ?_ _|refine Ea ?_|refine Da ?_ _));exact ta.out) hg (Kd.Rq qc.out ta.out (by decide)));have Sb:=ga.mk (hb);have yc:=ga.mk (ho);clear ec ta HB qc;have ec:=Eb;have ta:=Ib;have HB:=Sb;have mae:=yc;clear Eb Ib Sb yc ho hb hg hat))
            go_roundg k2
            case measure=>have:=uf.out;have:=Pj.out;omega
            case rel=>exact ⟨(Z7),(wrap64 (He + 1)),(by first|rfl|(simp;done)|(simp [*];done)),H',⟨by have:=uf.out;have:=Pj.out;omega⟩,⟨by (try simp only [nh]);(with_reducible repeat (first|apply Kd.Va|apply Kd.Ua|apply Kd.jb));exact mae.out⟩,⟨by (try simp only [nh]);(with_reducible repeat (first|apply Kd.Va|apply Kd.Ua|apply Kd.jb));exact Kd.Mc ec.out (fun _ hk=>hk.2)⟩,⟨by (try simp only [nh]);(with_reducible repeat (first|refine Ca ?_ _|refine Ea ?_|refine Da ?_ _));exact ta.out⟩,⟨by repeat (first|(with_reducible first|exact HB.out|apply oa|apply ia|apply qa|refine ua ?_ Sa.out)|exact HB.out)⟩⟩
           ·rw [if_neg DG] at H;exact absurd H (by simp)
          ·rw [if_neg aC] at H;have GI:((rd Zb He) == 1)=false:=beq_eq_false_iff_ne.mpr aC;have FI:((rd Zb He) != 1)=true:=bne_iff_ne.mpr aC;have H':=ga.mk H;clear H;have PJ:0 ≤ (He:Int):=of_decide_eq_true (by first|(with_reducible assumption)|assumption);have LJ:He < (Zb.length:Int):=of_decide_eq_true (by first|(with_reducible assumption)|assumption);obtain ⟨iS,O4,kr⟩:=Kd.Te (Kd.Jb ec.out).2.2 He PJ LJ;obtain rfl:(⟨St,0,none⟩:Addr)=iS:=(by injection O4);(first|simp only [add_plain] at kr|simp only [Hq] at kr|simp only [Addr.add,Nat.zero_add] at kr|skip);replace PJ:=eq_true PJ;replace LJ:=eq_true LJ;go_wp2
           go_roundg k2
           case measure=>have:=uf.out;have:=Pj.out;omega
           case rel=>exact ⟨(Rj),(wrap64 (He + 1)),(by first|rfl|(simp;done)|(simp [*];done)),H',⟨by have:=uf.out;have:=Pj.out;omega⟩,⟨by (try simp only [nh]);(with_reducible repeat (first|apply Kd.Va|apply Kd.Ua|apply Kd.jb));exact qc.out⟩,⟨by (try simp only [nh]);(with_reducible repeat (first|apply Kd.Va|apply Kd.Ua|apply Kd.jb));exact ec.out⟩,⟨by (try simp only [nh]);(with_reducible repeat (first|refine Ca ?_ _|refine Ea ?_|refine Da ?_ _));exact ta.out⟩,⟨by repeat (first|(with_reducible first|exact HB.out|apply oa|apply ia|apply qa|refine ua ?_ Sa.out)|exact HB.out)⟩⟩
         ·rw [if_neg EN] at H;exact absurd H (by simp)
        ·rw [if_neg YR] at H;have CY:decide (He < (Zb.length:Int))=false:=decide_eq_false YR;clear YR;obtain rfl:=Option.some.inj H;go_wp2;go_ret;exact ⟨_,by first|rfl|(simp [Pa,Oa] <;> rfl)|(simp [*,Pa,Oa] <;> rfl),by (with_reducible repeat (first|apply Kd.Va|apply Kd.Ua|apply Kd.jb));exact Kd.Mc qc.out (fun _ hk=>trivial),by repeat (first|(with_reducible first|exact HB.out|apply oa|apply ia|apply qa|refine ua ?_ Sa.out)|exact HB.out)⟩
  ·rw [if_neg c5] at H;exact absurd H (by simp)
 ·replace c3:=Bool.eq_false_iff.mpr c3;subst c3;have H1:(some Xd)=some r:=by rw [if_neg (show ¬ (false=true) by decide)] at H;exact H
  clear H;have H:=H1;clear H1;obtain rfl:=Option.some.inj H;go_enter Try.func68,Try.ntmps68;go_wp2_with (first|((with_reducible refine Ab (N:=1) rfl ?_);refine Kb ?hg (N:=1) ?hd (cs:=#[.slice qb Ma.length mb,.int .i64 La,.int .i64 Na,.int .i64 Ka,.slice Lb Fa.length Fb]) (t:=45) ?hr ?_;(case hd=>rfl);(case hg=>rfl);(case hr=>first|(go_simp;done)|(go_simp;rfl));intro za hg w47 Wb hb;have Eb:=ga.mk (Qa (by repeat (first|(with_reducible first|exact HB.out|apply oa|apply ia|apply qa)|exact HB.out)) hb);have Ib:=ga.mk (Wb);have Sb:=ga.mk ((by rw [hg];exact (Ja (by repeat (first|(with_reducible first|exact HB.out|apply oa|apply ia|apply qa)|exact HB.out))):w.heap.size ≤ za));have yc:=ga.mk ((by rw [hg];exact (Ja (by repeat (first|(with_reducible first|exact HB.out|apply oa|apply ia|apply qa)|exact HB.out))):w.heap.size ≤ za));clear HB;have HB:=Eb;have ta:=Ib;have Be:=Sb;have Sa:=yc;clear Eb Ib Sb yc hb Wb hg)|((with_reducible refine Ab (N:=9) rfl ?_);refine Kd.vk (Kd.int .i64) _ 3 ?hg (N:=9) ?hd (xs:=([]:List Int)) (inner:=[]) (ok:=fun _=>True) (Jh:=fun _=>True) ?hr ?hp (fun _ hk=>hk) trivial (Below.refl _ _) (Nat.le_refl _) (by simp) ?_;(case hd=>rfl);(case hg=>rfl);(case hr=>first|(go_simp;done)|(go_simp;rfl));(case hp=>exact (Sd.none _ _));intro ji n8 JQ hb Ol Re;clear Ol Re;(first|rw [← xh.out] at JQ|(simp only [Int.reduceToNat] at JQ;rw [← xh.out] at JQ));have Eb:=ga.mk (Kd.Fe JQ (Ja (by repeat (first|(with_reducible first|exact HB.out|apply oa|apply ia|apply qa|refine ua ?_ Sa.out)|exact HB.out))));have Ib:=ga.mk (Wa (g:=za) (o:=.cells #[.slice qb Ma.length mb,.int .i64 La,.int .i64 Na,.int .i64 Ka,.slice Lb Fa.length Fb] 45 (0,0)) (by (with_reducible repeat (first|refine Ca ?_ _|refine Ea ?_|refine Da ?_ _));exact ta.out) hb);have Sb:=ga.mk (Qa (by repeat (first|(with_reducible first|exact HB.out|apply oa|apply ia|apply qa|refine ua ?_ Sa.out)|exact HB.out)) hb);clear ta HB;have ke:=Eb;have ta:=Ib;have HB:=Sb;clear Eb Ib Sb hb JQ;have EV:n8.cell? ⟨za,0,none⟩=some (.slice qb Ma.length mb):=(ja ta.out 0).trans rfl;have DV:n8.cell? ⟨za,1,none⟩=some (.int .i64 La):=(ja ta.out 1).trans rfl;have CV:n8.cell? ⟨za,2,none⟩=some (.int .i64 Na):=(ja ta.out 2).trans rfl;have BV:n8.cell? ⟨za,3,none⟩=some (.int .i64 Ka):=(ja ta.out 3).trans rfl;have AV:n8.cell? ⟨za,4,none⟩=some (.slice Lb Fa.length Fb):=(ja ta.out 4).trans rfl;have pU:=aa ta.out 0;have oU:=aa ta.out 1;have nU:=aa ta.out 2;have mU:=aa ta.out 3;have lU:=aa ta.out 4)|((with_reducible refine zb (f:=66) rfl ?_);refine Pc (some 11) rfl rfl Try.func66 (by kernel_rfl) rfl #[.agg #[.slice qb Ma.length mb,.int .i64 La,.int .i64 Na,.int .i64 Ka,.slice Lb Fa.length Fb]] rfl (by (try simp only [List.map_toArray,List.map_cons,List.map_nil]);first|done|rfl|(simp only [List.length_drop,List.length_take];rfl)) ?_;(with_reducible refine (Xa.calls k _ _ Ma La Na Ka _ _ Fa false _ ?Fc ?Ec ?Wd ?Vd A2.out).mono ?_);(case Fc=>repeat (first|exact (Kd.Nb Ke.out HB.out)|(with_reducible refine Kd.Ub ?_ _)|(with_reducible refine Kd.Tb ?_ _)|(with_reducible refine Kd.mc ?_)));(case Ec=>exact Ve.out);(case Wd=>repeat (first|exact (Kd.Nb kg.out HB.out)|(with_reducible refine Kd.Ub ?_ _)|(with_reducible refine Kd.Tb ?_ _)|(with_reducible refine Kd.mc ?_)));(case Vd=>exact Tg.out);rintro e w51 ⟨rfl,hb⟩;refine ⟨_,rfl,?_⟩;have Eb:=ga.mk (Kd.Dd (by (with_reducible repeat (first|apply Kd.Va|apply Kd.Ua|apply Kd.jb));exact ke.out) hb);have Ib:=ga.mk (Wa (g:=za) (o:=.cells #[.slice qb Ma.length mb,.int .i64 La,.int .i64 Na,.int .i64 Ka,.slice Lb Fa.length Fb] 45 (0,0)) (by (with_reducible repeat (first|refine Ca ?_ _|refine Ea ?_|refine Da ?_ _));exact ta.out) hb);have Sb:=ga.mk (Qa (by repeat (first|(with_reducible first|exact HB.out|apply oa|apply ia|apply qa|refine ua ?_ Sa.out)|exact HB.out)) hb);clear ke ta HB;have ke:=Eb;have ta:=Ib;have HB:=Sb;clear Eb Ib Sb;(try clear hb);(try clear Qj);(try clear hk);(try clear hi)));go_ret;exact ⟨_,by first|rfl|(simp [Pa,Oa] <;> rfl)|(simp [*,Pa,Oa] <;> rfl),by (with_reducible repeat (first|apply Kd.Va|apply Kd.Ua|apply Kd.jb));exact ke.out,by repeat (first|(with_reducible first|exact HB.out|apply oa|apply ia|apply qa|refine ua ?_ Sa.out)|exact HB.out)⟩
end Go.Proofs.Ytoomcmaifgkkfaa.P
end
