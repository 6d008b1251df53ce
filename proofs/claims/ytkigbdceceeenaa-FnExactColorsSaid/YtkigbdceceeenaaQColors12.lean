import Derived.Test.YtkigbdceceeenaaQColors1
import Derived.Test.YtkigbdceceeenaaQColors7
import Derived.Test.YtkigbdceceeenaaQColors6
import Derived.Test.YtkigbdceceeenaaQColors11
import Derived.Test.YtkigbdceceeenaaQColors10
import Derived.Test.YtkigbdceceeenaaQColors2
import Derived.Test.YtkigbdceceeenaaQColors8
import Derived.Test.YtkigbdceceeenaaQColors9
import Derived.Test.YtkigbdceceeenaaQColors3
set_option maxHeartbeats 8000000
set_option maxRecDepth 100000
section
namespace Go.Proofs.Ytkigbdceceeenaa.P
open Go.RowKit Go.Proofs.Ma.Tb Go.Proofs.Ma.Gd Go.Proofs.Ma.De
set_option linter.unusedVariables false
set_option linter.unusedSimpArgs false
attribute [local go_sem] Rh si wj Nj qh oh zi ri
mutual
noncomputable def Bb.j0:Nat→Int→Bool→List Int→Int→Int→Int→List (Je)→Option (List Int)
 | 0,_,_,_,_,_,_,_=>none
 | k + 1,x1,x20,yc,Qc,Gc,Dc,Yb=>if x20=true then (some ([]:List Int)) else ((ec.f k yc Qc Gc Dc Yb).bind fun t104=>((rj.f yc Qc Gc Dc Yb).bind fun t110=>(Bb.l0 k x1 t104 (([]:List Int)) t110 (t110.length:Int) 0)))
noncomputable def Bb.l0:Nat→Int→List Bool→List Int→List (List Bool)→Int→Int→Option (List Int)
 | 0,_,_,_,_,_,_=>none
 | k + 1,x1,x5,x6,sU,yV,WM=>if WM < yV then (if 0 ≤ WM then (if WM < (sU.length:Int) then (if 0 ≤ (wrap64 (x1 + 1)) then (if (wrap64 (x1 + 1):Int).toNat ≤ 281474976710656 then (Bb.l1 k x1 x5 x6 WM (yd sU WM) (List.replicate (wrap64 (x1 + 1):Int).toNat false) sU yV WM x6 (x6.length:Int) 0) else (none)) else (none)) else (none)) else (none)) else (some x6)
noncomputable def Bb.l1:Nat→Int→List Bool→List Int→Int→List Bool→List Bool→List (List Bool)→Int→Int→List Int→Int→Int→Option (List Int)
 | 0,_,_,_,_,_,_,_,_,_,_,_,_=>none
 | k + 1,x1,x5,x6,x7,x8,x9,sU,yV,WM,J7,x36,xV=>if xV < x36 then (if 0 ≤ xV then (if xV < (J7.length:Int) then (if xV < (x8.length:Int) then (if Vf false x8 xV=true then (if (rd J7 xV) ≥ 0 then (if 0 ≤ (rd J7 xV) then (if (rd J7 xV) < (x9.length:Int) then (Bb.l1 k x1 x5 x6 x7 x8 (x9.set ((rd J7 xV):Int).toNat true) sU yV WM J7 x36 (wrap64 (xV + 1))) else (none)) else (none)) else (Bb.l1 k x1 x5 x6 x7 x8 x9 sU yV WM J7 x36 (wrap64 (xV + 1)))) else (Bb.l1 k x1 x5 x6 x7 x8 x9 sU yV WM J7 x36 (wrap64 (xV + 1)))) else (none)) else (none)) else (none)) else (Bb.l2 k x1 x5 x6 x7 x9 0 sU yV WM)
noncomputable def Bb.l2:Nat→Int→List Bool→List Int→Int→List Bool→Int→List (List Bool)→Int→Int→Option (List Int)
 | 0,_,_,_,_,_,_,_,_,_=>none
 | k + 1,x1,x5,x6,x7,x9,TZ,sU,yV,WM=>if 0 ≤ TZ then (if TZ < (x9.length:Int) then (if Vf false x9 TZ=true then (Bb.l2 k x1 x5 x6 x7 x9 (wrap64 (TZ + 1)) sU yV WM) else (if TZ=x1 then (if x6.length < 17592186044416 then (Bb.l0 k x1 x5 (x6 ++ [(-1)]) sU yV (wrap64 (WM + 1))) else (none)) else (if 0 ≤ x7 then (if x7 < (x5.length:Int) then (if Vf false x5 x7=true then (if x6.length < 17592186044416 then (Bb.l0 k x1 x5 (x6 ++ [TZ]) sU yV (wrap64 (WM + 1))) else (none)) else (if x6.length < 17592186044416 then (Bb.l0 k x1 x5 (x6 ++ [(-1)]) sU yV (wrap64 (WM + 1))) else (none))) else (none)) else (none)))) else (none)) else (none)
end
noncomputable def Bb.f (k:Nat) (Qa:List Int) (Ja:Int) (Ga:Int) (Ia:Int) (Aa:List (Je)) (a1:Int):Option (List Int):=(fc.f k Qa Ja Ga Ia Aa).bind fun t102=>(if t102=true then ((Tg.f a1 0 12).bind fun t103=>(Bb.j0 k a1 (!t103) Qa Ja Ga Ia Aa)) else (Bb.j0 k a1 true Qa Ja Ga Ia Aa))
theorem Bb.calls (k:Nat) (Ya:Option Addr) (Za:Nat) (Qa:List Int) (Ja:Int) (Ga:Int) (Ia:Int) (Mb:Option Addr) (Cb:Nat) (Aa:List (Je)) (a1:Int) (r:List Int) (w:World) (Ud:Kd.C (Kd.int .i64) w Ya Qa.length Qa) (Rd:Qa.length ≤ Za) (yf:Kd.C Fq w Mb Aa.length Aa) (kf:Aa.length ≤ Cb) (h:Bb.f k Qa Ja Ga Ia Aa a1=some r) :
  Calls Try.prog 30 #[.agg #[.slice Ya Qa.length Za,.int .i64 Ja,.int .i64 Ga,.int .i64 Ia,.slice Mb Aa.length Cb],.int .i64 a1] w fun e w'=>∃ Nl:Value,e = .returned (Nl)∧Kd.R (Kd.int .i64) 3 w' w.heap.size (fun _=>True) Nl r∧Below w.heap.size w w':=by
 have GF:=Try.underlying30;have Ze:=ga.mk Ud;have Af:=ga.mk Rd;clear Ud Rd;have xg:=ga.mk yf;have ki:=ga.mk kf;clear yf kf;have HB:=ga.mk (Below.refl w.heap.size w);have H:((fc.f k Qa Ja Ga Ia Aa).bind fun t102=>(if t102=true then ((Tg.f a1 0 12).bind fun t103=>(Bb.j0 k a1 (!t103) Qa Ja Ga Ia Aa)) else (Bb.j0 k a1 true Qa Ja Ga Ia Aa)))=some r:=h;clear h;have uV:=ga.mk H;clear H;go_enter Try.func30,Try.ntmps30
 go_upto_region 1 with (first|((with_reducible refine Ab (N:=2) rfl ?_);refine Lb ?hg (N:=2) ?hd (cs:=#[.slice Ya Qa.length Za,.int .i64 Ja,.int .i64 Ga,.int .i64 Ia,.slice Mb Aa.length Cb]) (t:=30) ?hr ?_;(case hd=>rfl);(case hg=>rfl);(case hr=>first|(go_simp;done)|(go_simp;rfl));intro ya hg w4 Sb hb;have Eb:=ga.mk (Ra uaH hb);have Fb:=ga.mk (Sb);have Ob:=ga.mk ((by rw [hg];exact (La uaH):w.heap.size ≤ ya));have Ec:=ga.mk ((by rw [hg];exact (La uaH):w.heap.size ≤ ya));clear HB;have HB:=Eb;have oa:=Fb;have Vd:=Ob;have Ta:=Ec;clear Eb Fb Ob Ec hb Sb hg))
 (try simp only [Act.put,List.setIfInBounds_toArray,List.set_cons_zero,List.set_cons_succ])
 go_cut [20] (fun v20 wc=>∃ (kq:Nat) (rP:Bool),v20 = .bool rP∧ga (Bb.j0 kq a1 rP Qa Ja Ga Ia Aa=some r)∧ga (kq ≤ k)∧ga (wc.heap[ya]? = some (.cells #[(.slice Ya Qa.length Za),.int .i64 Ja,.int .i64 Ga,.int .i64 Ia,(.slice Mb Aa.length Cb)] 30 (0,0)))∧ga (Below w.heap.size w wc))
 case first =>
  have H:=uV.out;clear uV;replace H:=Option.bind_eq_some_iff.mp H;obtain ⟨t102,w_,H⟩:=H;replace H:(if t102=true then ((Tg.f a1 0 12).bind fun t103=>(Bb.j0 k a1 (!t103) Qa Ja Ga Ia Aa)) else (Bb.j0 k a1 true Qa Ja Ga Ia Aa))=some r:=H;have A5:=ga.mk w_;clear w_
  by_cases c6:t102=true
  ·subst c6;have H1:((Tg.f a1 0 12).bind fun t103=>(Bb.j0 k a1 (!t103) Qa Ja Ga Ia Aa))=some r:=by rw [if_pos rfl] at H;exact H
   clear H;have H:=H1;clear H1;replace H:=Option.bind_eq_some_iff.mp H;obtain ⟨t103,PK,H⟩:=H;replace H:(Bb.j0 k a1 (!t103) Qa Ja Ga Ia Aa)=some r:=H;have A7:=ga.mk PK;clear PK;have H':=ga.mk H;clear H;have Rn:w4.cell? ⟨ya,0,none⟩=some (.slice Ya Qa.length Za):=(ia oa.out 0).trans rfl;have Qn:w4.cell? ⟨ya,1,none⟩=some (.int .i64 Ja):=(ia oa.out 1).trans rfl;have Pn:w4.cell? ⟨ya,2,none⟩=some (.int .i64 Ga):=(ia oa.out 2).trans rfl;have Nn:w4.cell? ⟨ya,3,none⟩=some (.int .i64 Ia):=(ia oa.out 3).trans rfl;have Mn:w4.cell? ⟨ya,4,none⟩=some (.slice Mb Aa.length Cb):=(ia oa.out 4).trans rfl;have sn:=aa oa.out 0;have qn:=aa oa.out 1;have pn:=aa oa.out 2;have kn:=aa oa.out 3;have jn:=aa oa.out 4;go_wp2_with (first|((with_reducible refine yb (f:=46) rfl ?_);refine Pc (some 14) rfl rfl Try.func46 (by kernel_rfl) rfl #[.agg #[.slice Ya Qa.length Za,.int .i64 Ja,.int .i64 Ga,.int .i64 Ia,.slice Mb Aa.length Cb]] rfl waH ?_;(with_reducible refine (fc.calls k _ _ Qa Ja Ga Ia _ _ Aa true _ ?Uc ?Tc ?we ?ue A5.out).mono ?_);(case Uc=>repeat (first|exact (Kd.Nb Ze.out HB.out)|(with_reducible refine Kd.dc ?_ _)|(with_reducible refine Kd.Zb ?_ _)|(with_reducible refine Kd.Fc ?_)));(case Tc=>exact Af.out);(case we=>repeat (first|exact (Kd.Nb xg.out HB.out)|(with_reducible refine Kd.dc ?_ _)|(with_reducible refine Kd.Zb ?_ _)|(with_reducible refine Kd.Fc ?_)));(case ue=>exact ki.out);rintro e w9 ⟨rfl,hb⟩;refine ⟨_,rfl,?_⟩;have Eb:=ga.mk (Va (g:=ya) (o:=.cells #[.slice Ya Qa.length Za,.int .i64 Ja,.int .i64 Ga,.int .i64 Ia,.slice Mb Aa.length Cb] 30 (0,0)) vaH hb);have Fb:=ga.mk (Ra taH hb);clear oa HB;have oa:=Eb;have HB:=Fb;clear Eb Fb;(try clear hb);(try clear Uj);(try clear hk);(try clear hi))|(go_at_call 55;(with_reducible refine (Tg.calls a1 0 12 t103 _ A7.out).mono ?_);rintro e w' ⟨rfl,⟨nd,rfl⟩⟩))
   go_meet
   case rel=>exact ⟨_,(!t103),AaH,H',⟨by first|omega|exact Nat.le_refl _⟩,⟨zaH⟩,⟨xaH⟩⟩
  ·replace c6:=Bool.eq_false_iff.mpr c6;subst c6;have H1:(Bb.j0 k a1 true Qa Ja Ga Ia Aa)=some r:=by rw [if_neg (show ¬ (false=true) by decide)] at H;exact H
   clear H;have H:=H1;clear H1;have H':=ga.mk H;clear H;have Nh:w4.cell? ⟨ya,0,none⟩=some (.slice Ya Qa.length Za):=(ia oa.out 0).trans rfl;have Mh:w4.cell? ⟨ya,1,none⟩=some (.int .i64 Ja):=(ia oa.out 1).trans rfl;have Lh:w4.cell? ⟨ya,2,none⟩=some (.int .i64 Ga):=(ia oa.out 2).trans rfl;have Kh:w4.cell? ⟨ya,3,none⟩=some (.int .i64 Ia):=(ia oa.out 3).trans rfl;have Jh:w4.cell? ⟨ya,4,none⟩=some (.slice Mb Aa.length Cb):=(ia oa.out 4).trans rfl;have Ih:=aa oa.out 0;have Hh:=aa oa.out 1;have Gh:=aa oa.out 2;have Fh:=aa oa.out 3;have Eh:=aa oa.out 4;go_wp2_with (first|((with_reducible refine yb (f:=46) rfl ?_);refine Pc (some 14) rfl rfl Try.func46 (by kernel_rfl) rfl #[.agg #[.slice Ya Qa.length Za,.int .i64 Ja,.int .i64 Ga,.int .i64 Ia,.slice Mb Aa.length Cb]] rfl waH ?_;(with_reducible refine (fc.calls k _ _ Qa Ja Ga Ia _ _ Aa false _ ?Uc ?Tc ?we ?ue A5.out).mono ?_);(case Uc=>repeat (first|exact (Kd.Nb Ze.out HB.out)|(with_reducible refine Kd.dc ?_ _)|(with_reducible refine Kd.Zb ?_ _)|(with_reducible refine Kd.Fc ?_)));(case Tc=>exact Af.out);(case we=>repeat (first|exact (Kd.Nb xg.out HB.out)|(with_reducible refine Kd.dc ?_ _)|(with_reducible refine Kd.Zb ?_ _)|(with_reducible refine Kd.Fc ?_)));(case ue=>exact ki.out);rintro e ck ⟨rfl,hb⟩;refine ⟨_,rfl,?_⟩;have Eb:=ga.mk (Va (g:=ya) (o:=.cells #[.slice Ya Qa.length Za,.int .i64 Ja,.int .i64 Ga,.int .i64 Ia,.slice Mb Aa.length Cb] 30 (0,0)) vaH hb);have Fb:=ga.mk (Ra taH hb);clear oa HB;have oa:=Eb;have HB:=Fb;clear Eb Fb;(try clear hb);(try clear Uj);(try clear hk);(try clear hi)))
   go_meet
   case rel=>exact ⟨_,(true),AaH,H',⟨by first|omega|exact Nat.le_refl _⟩,⟨zaH⟩,⟨xaH⟩⟩
 case rest =>
  clear uV
  try clear p2
  try clear c3
  try clear c4
  try clear c6
  try clear Nh
  try clear Mh
  try clear Lh
  try clear Kh
  try clear Jh
  try clear Rn
  try clear Qn
  try clear Pn
  try clear Nn
  try clear Mn
  try clear Ih
  try clear Hh
  try clear Gh
  try clear Fh
  try clear Eh
  try clear sn
  try clear qn
  try clear pn
  try clear kn
  try clear jn
  obtain ⟨kq,rP,rfl,HA,JK,oa,HB⟩:=hcut;cases kq with
  | zero=>exact absurd HA.out (by simp [Bb.j0])
  | succ OP =>
   have H:=HA.out;clear HA;simp only [Bb.j0] at H
   by_cases Ss:rP=true
   ·subst Ss;have H1:(some ([]:List Int))=some r:=by rw [if_pos rfl] at H;exact H
    clear H;have H:=H1;clear H1;obtain rfl:=Option.some.inj H;go_wp2;go_ret;exact ⟨_,by first|rfl|(simp [Pa,Oa] <;> rfl)|(simp [*,Pa,Oa] <;> rfl),by first|exact Kd.JH _ _ _ _ _|exact Kd.E9 _ _ _ _ _|exact Kd.r9 _ _ _ _ _|exact Kd.B9 _ _ _ _ _|exact Kd.BM _ _ _ _ _,xaH⟩
   ·replace Ss:=Bool.eq_false_iff.mpr Ss;subst Ss;have H1:((ec.f OP Qa Ja Ga Ia Aa).bind fun t104=>((rj.f Qa Ja Ga Ia Aa).bind fun t110=>(Bb.l0 OP a1 t104 (([]:List Int)) t110 (t110.length:Int) 0)))=some r:=by rw [if_neg (show ¬ (false=true) by decide)] at H;exact H
    clear H;have H:=H1;clear H1;replace H:=Option.bind_eq_some_iff.mp H;obtain ⟨t104,uZ,H⟩:=H;replace H:((rj.f Qa Ja Ga Ia Aa).bind fun t110=>(Bb.l0 OP a1 t104 (([]:List Int)) t110 (t110.length:Int) 0))=some r:=H;have A13:=ga.mk uZ;clear uZ;obtain ⟨YE,Zo⟩:∃ y_:List Int,y_=(([]:List Int)):=⟨_,rfl⟩;replace H:((rj.f Qa Ja Ga Ia Aa).bind fun t110=>(Bb.l0 OP a1 t104 YE t110 (t110.length:Int) 0))=some r:=by first|(rw [Zo];with_reducible exact H)|(have Ed:=(Option.bind_some _ _).symm.trans H;rw [Zo];with_reducible exact Ed)|(have Ed:=(Option.bind_some _ _).symm.trans H;with_reducible exact Ed)|with_reducible exact H|(rw [Zo];exact H)|exact H
    have LH:=ga.mk Zo;clear Zo;replace H:=Option.bind_eq_some_iff.mp H;obtain ⟨t110,xG,H⟩:=H;replace H:(Bb.l0 OP a1 t104 YE t110 (t110.length:Int) 0)=some r:=H;have A14:=ga.mk xG;clear xG;have H':=ga.mk H;clear H;have vq:wc.cell? ⟨ya,0,none⟩=some (.slice Ya Qa.length Za):=(ia oa.out 0).trans rfl;have uq:wc.cell? ⟨ya,1,none⟩=some (.int .i64 Ja):=(ia oa.out 1).trans rfl;have rq:wc.cell? ⟨ya,2,none⟩=some (.int .i64 Ga):=(ia oa.out 2).trans rfl;have qq:wc.cell? ⟨ya,3,none⟩=some (.int .i64 Ia):=(ia oa.out 3).trans rfl;have oq:wc.cell? ⟨ya,4,none⟩=some (.slice Mb Aa.length Cb):=(ia oa.out 4).trans rfl;have mq:=aa oa.out 0;have lq:=aa oa.out 1;have jq:=aa oa.out 2;have iq:=aa oa.out 3;have gq:=aa oa.out 4;go_wp2_with (first|((with_reducible refine yb (f:=62) rfl ?_);refine Pc (some 22) rfl rfl Try.func62 (by kernel_rfl) rfl #[.agg #[.slice Ya Qa.length Za,.int .i64 Ja,.int .i64 Ga,.int .i64 Ia,.slice Mb Aa.length Cb]] rfl waH ?_;(with_reducible refine (ec.calls OP _ _ Qa Ja Ga Ia _ _ Aa t104 _ ?Uc ?Tc ?we ?ue A13.out).mono ?_);(case Uc=>repeat (first|exact (Kd.Nb Ze.out HB.out)|(with_reducible refine Kd.dc ?_ _)|(with_reducible refine Kd.Zb ?_ _)|(with_reducible refine Kd.Fc ?_)));(case Tc=>exact Af.out);(case we=>repeat (first|exact (Kd.Nb xg.out HB.out)|(with_reducible refine Kd.dc ?_ _)|(with_reducible refine Kd.Zb ?_ _)|(with_reducible refine Kd.Fc ?_)));(case ue=>exact ki.out);rintro e Hz ⟨gz,rfl,Lk,hb⟩;refine ⟨_,rfl,?_⟩;have Eb:=ga.mk (Kd.Nd Lk (La taH));have Fb:=ga.mk (Va (g:=ya) (o:=.cells #[.slice Ya Qa.length Za,.int .i64 Ja,.int .i64 Ga,.int .i64 Ia,.slice Mb Aa.length Cb] 30 (0,0)) vaH hb);have Ob:=ga.mk (Ra taH hb);clear oa HB;have Kl:=Eb;have oa:=Fb;have HB:=Ob;clear Eb Fb Ob;(try clear hb);(try clear Uj);(try clear hk);(try clear hi);(try clear Lk))|((with_reducible refine Ab (N:=23) rfl ?_);refine Kd.Hj (Kd.int .i64) _ 3 ?hg (N:=23) ?hd (xs:=([]:List Int)) (inner:=[]) (ok:=fun _=>True) (Dh:=fun _=>True) ?hr ?hp (fun _ hk=>hk) trivial (Below.refl _ _) (Nat.le_refl _) (by simp) ?_;(case hd=>rfl);(case hg=>rfl);(case hr=>first|(go_simp;done)|(go_simp;rfl));(case hp=>exact (Pd.none _ _));intro O_ zo ZW hb gm Pe;clear gm Pe;(first|rw [← LH.out] at ZW|(simp only [Int.reduceToNat] at ZW;rw [← LH.out] at ZW));have Eb:=ga.mk (Kd.ld (by (with_reducible repeat (first|apply Kd.Xa|apply Kd.Wa|apply Kd.gb));exact Kl.out) hb);have Fb:=ga.mk (Kd.Nd ZW (La taH));have Ob:=ga.mk (Va (g:=ya) (o:=.cells #[.slice Ya Qa.length Za,.int .i64 Ja,.int .i64 Ga,.int .i64 Ia,.slice Mb Aa.length Cb] 30 (0,0)) vaH hb);have Ec:=ga.mk (Ra taH hb);clear Kl oa HB;have Kl:=Eb;have Iv:=Fb;have oa:=Ob;have HB:=Ec;clear Eb Fb Ob Ec hb ZW;have Yu:zo.cell? ⟨ya,0,none⟩=some (.slice Ya Qa.length Za):=(ia oa.out 0).trans rfl;have Xu:zo.cell? ⟨ya,1,none⟩=some (.int .i64 Ja):=(ia oa.out 1).trans rfl;have Wu:zo.cell? ⟨ya,2,none⟩=some (.int .i64 Ga):=(ia oa.out 2).trans rfl;have Vu:zo.cell? ⟨ya,3,none⟩=some (.int .i64 Ia):=(ia oa.out 3).trans rfl;have Uu:zo.cell? ⟨ya,4,none⟩=some (.slice Mb Aa.length Cb):=(ia oa.out 4).trans rfl;have wu:=aa oa.out 0;have vu:=aa oa.out 1;have uu:=aa oa.out 2;have tu:=aa oa.out 3;have su:=aa oa.out 4)|((with_reducible refine yb (f:=59) rfl ?_);refine Pc (some 25) rfl rfl Try.func59 (by kernel_rfl) rfl #[.agg #[.slice Ya Qa.length Za,.int .i64 Ja,.int .i64 Ga,.int .i64 Ia,.slice Mb Aa.length Cb]] rfl waH ?_;(with_reducible refine (rj.calls _ _ Qa Ja Ga Ia _ _ Aa t110 _ ?Uc ?Tc ?we ?ue A14.out).mono ?_);(case Uc=>repeat (first|exact (Kd.Nb Ze.out HB.out)|(with_reducible refine Kd.dc ?_ _)|(with_reducible refine Kd.Zb ?_ _)|(with_reducible refine Kd.Fc ?_)));(case Tc=>exact Af.out);(case we=>repeat (first|exact (Kd.Nb xg.out HB.out)|(with_reducible refine Kd.dc ?_ _)|(with_reducible refine Kd.Zb ?_ _)|(with_reducible refine Kd.Fc ?_)));(case ue=>exact ki.out);rintro e w20 ⟨XZ,rfl,Lk,hb⟩;refine ⟨_,rfl,?_⟩;have Eb:=ga.mk (Kd.ld (by (with_reducible repeat (first|apply Kd.Xa|apply Kd.Wa|apply Kd.gb));exact Kl.out) hb);have Fb:=ga.mk (Kd.ld (by (with_reducible repeat (first|apply Kd.Xa|apply Kd.Wa|apply Kd.gb));exact Iv.out) hb);have Ob:=ga.mk (Kd.Ey (Kd.dac Lk (Kd.UO (by (with_reducible repeat (first|apply Kd.Xa|apply Kd.Wa|apply Kd.gb));exact Kl.out))) (La taH));have Ec:=ga.mk (Va (g:=ya) (o:=.cells #[.slice Ya Qa.length Za,.int .i64 Ja,.int .i64 Ga,.int .i64 Ia,.slice Mb Aa.length Cb] 30 (0,0)) vaH hb);have gf:=ga.mk (Ra taH hb);clear Kl Iv oa HB;have Kl:=Eb;have Iv:=Fb;have rG:=Ob;have oa:=Ec;have HB:=gf;clear Eb Fb Ob Ec gf;(try clear hb);(try clear Uj);(try clear hk);(try clear hi);(try clear Lk);obtain ⟨bay,Bab,Aaw⟩:=Kd.Wj rG.out;subst Aaw))
    go_loopg [6,27] OP (fun kq v6 v27 w'=>∃ (Me:List Bool) (Ee:List Int) (Cd:Int),v27 = .int .i64 Cd∧ga (Bb.l0 kq a1 Me Ee t110 (t110.length:Int) Cd=some r)∧ga (kq ≤ OP)∧ga (Kd.R Kd.bool 4 w' w.heap.size (fun _=>True) gz Me)∧ga (Kd.R (Kd.int .i64) 3 w' w.heap.size (fun _=>True) v6 Ee)∧ga (Kd.S (Kd.slice 4 Kd.bool) 60 w' w.heap.size (fun k_=>some k_ ≠ (gz:Value).ownBlock) (.slice bay t110.length Bab) t110)∧ga (w'.heap[ya]? = some (.cells #[(.slice Ya Qa.length Za),.int .i64 Ja,.int .i64 Ga,.int .i64 Ia,(.slice Mb Aa.length Cb)] 30 (0,0)))∧ga (Below w.heap.size w w'))
    case atStart=>exact ⟨(t104),(YE),(0),AaH,H',⟨Nat.le_refl _⟩,⟨by (with_reducible repeat (first|apply Kd.Xa|apply Kd.Wa|apply Kd.gb));exact Kl.out⟩,⟨by (with_reducible repeat (first|apply Kd.Xa|apply Kd.Wa|apply Kd.gb));exact Iv.out⟩,⟨by (with_reducible repeat (first|apply Kd.fe|apply Kd.ee|apply Kd.Qe));exact Kd.Ah rG.out (fun _ hk=>hk.2)⟩,⟨zaH⟩,⟨xaH⟩⟩
    case round =>
     clear H'
     try clear c1
     try clear p2
     try clear c3
     try clear c4
     try clear c5
     try clear c6
     try clear Ss
     try clear Nh
     try clear Mh
     try clear Lh
     try clear Kh
     try clear Jh
     try clear vq
     try clear uq
     try clear rq
     try clear qq
     try clear oq
     try clear Yu
     try clear Xu
     try clear Wu
     try clear Vu
     try clear Uu
     try clear Rn
     try clear Qn
     try clear Pn
     try clear Nn
     try clear Mn
     try clear Ih
     try clear Hh
     try clear Gh
     try clear Fh
     try clear Eh
     try clear mq
     try clear lq
     try clear jq
     try clear iq
     try clear gq
     try clear wu
     try clear vu
     try clear uu
     try clear tu
     try clear su
     try clear sn
     try clear qn
     try clear pn
     try clear kn
     try clear jn
     try clear p2
     (try clear HA);(try clear zl);(try clear jg);(try clear uh);(try clear ji);(try clear oa);(try clear HB);obtain ⟨Me,Ee,Cd,rfl,HA,zl,jg,uh,ji,oa,HB⟩:=hrel;cases gk with
     | zero=>exact absurd HA.out (by simp [Bb.l0])
     | succ k2 =>
      have H:=HA.out;clear HA;simp only [Bb.l0] at H
      by_cases VB:Cd < (t110.length:Int)
      ·rw [if_pos VB] at H;have sM:decide (Cd < (t110.length:Int))=true:=decide_eq_true VB;clear VB
       by_cases Yy:0 ≤ Cd
       ·rw [if_pos Yy] at H;have uD:decide (0 ≤ Cd)=true:=decide_eq_true Yy;clear Yy
        by_cases CH:Cd < (t110.length:Int)
        ·rw [if_pos CH] at H;have zT:decide (Cd < (t110.length:Int))=true:=decide_eq_true CH;clear CH;obtain ⟨zF,eX⟩:∃ j_:Int,(wrap64 (a1 + 1))=j_:=⟨_,rfl⟩;replace H:(if 0 ≤ (zF) then (if (zF:Int).toNat ≤ 281474976710656 then (Bb.l1 k2 a1 Me Ee Cd (yd t110 Cd) (List.replicate (zF:Int).toNat false) t110 (t110.length:Int) Cd Ee (Ee.length:Int) 0) else (none)) else (none))=some r:=by first|(rw [eX] at H;exact H)|(simp only [eX] at H ⊢;exact H)
         have vav:(IntKind.i64.wrap (a1 + 1))=zF:=(nc _).trans eX
         by_cases Jz:0 ≤ (zF)
         ·rw [if_pos Jz] at H;have BH:=eq_true Jz;have Z8:decide (0 ≤ (zF))=true:=decide_eq_true Jz;clear Jz
          by_cases PE:(zF:Int).toNat ≤ 281474976710656
          ·rw [if_pos PE] at H;have qM:=eq_true PE;have Y8:decide ((zF:Int).toNat ≤ 281474976710656)=true:=decide_eq_true PE;clear PE;obtain ⟨Ll,fl⟩:∃ y_:List Bool,y_=(List.replicate (zF:Int).toNat false):=⟨_,rfl⟩;replace H:(Bb.l1 k2 a1 Me Ee Cd (yd t110 Cd) Ll t110 (t110.length:Int) Cd Ee (Ee.length:Int) 0)=some r:=by first|(rw [fl];with_reducible exact H)|(have Ed:=(Option.bind_some _ _).symm.trans H;rw [fl];with_reducible exact Ed)|(have Ed:=(Option.bind_some _ _).symm.trans H;with_reducible exact Ed)|with_reducible exact H|(rw [fl];exact H)|exact H
           have Cw:=ga.mk fl;clear fl;have H':=ga.mk H;clear H;have Nv:0 ≤ (Cd:Int):=Ua;have Lv:Cd < (t110.length:Int):=Ua;obtain ⟨yM,zad,Pab,vO,Kr,qQ,yQ⟩:=wv (Kd.Xe ji.out).2.2 Cd Nv Lv;cases vO;obtain ⟨iaC,Waa,cab,DX⟩:=Kd.FH ji.out [] Cd Nv (by first|exact Lv|exact Ua|(have e_:=(Kd.Xe ji.out).1;omega));obtain ⟨bam,rfl,lK⟩:=cab;have LA:=DX 0 _ rfl;rw [Nat.add_zero,show ((Kd.slice 4 Kd.bool)).sz=1 from rfl,Nat.mul_one] at LA;replace LA:=Option.some.inj (LA.symm.trans Kr);rw [LA] at lK;have Hi:=ga.mk (show Kd.R Kd.bool 4 _ _ _ _ (yd t110 Cd) from lK);clear LA lK DX Waa;have xq:=ga.mk yQ;have wat:=ga.mk qQ;clear yQ qQ;replace Nv:=eq_true Nv;replace Lv:=eq_true Lv;go_wp2_with (first|((with_reducible refine Ab (N:=34) rfl ?_);refine Kd.jr Kd.bool _ 4 rfl (N:=34) rfl 60 _ _ rfl zF rfl rfl Try.underlying60 (.bool false) 1 Ir rfl (by decide) (by omega) false (ok:=fun _=>True) (Dh:=fun _=>True) rfl (fun _ hk=>hk) trivial (Ua) (Nat.le_trans (Nat.mul_le_mul_right _ (Ua:zF.toNat ≤ 281474976710656)) (by omega)) (Below.refl _ _) (Nat.le_refl _) ?_;intro fz Tv DL hb gm Pe;clear gm Pe;(first|rw [← Cw.out] at DL|(simp only [Int.reduceToNat] at DL;rw [← Cw.out] at DL));have Eb:=ga.mk (Kd.Bw JaH (Kd.Av DL) hb);have Fb:=ga.mk (Kd.ld MaH hb);have Ob:=ga.mk (Kd.Aw haI (Kd.Av DL) hb);have Ec:=ga.mk (Kd.Bw (by (with_reducible repeat (first|apply Kd.Xa|apply Kd.Wa|apply Kd.gb));exact Hi.out) (Kd.Av DL) hb);have gf:=ga.mk (Kd.Nd (Kd.kG (Kd.kG DL (Kd.UO JaH)) (Kd.UO (by (with_reducible repeat (first|apply Kd.Xa|apply Kd.Wa|apply Kd.gb));exact Hi.out))) (La taH));have Zf:=ga.mk (Va (g:=ya) (o:=.cells #[.slice Ya Qa.length Za,.int .i64 Ja,.int .i64 Ga,.int .i64 Ia,.slice Mb Aa.length Cb] 30 (0,0)) vaH hb);have gh:=ga.mk (Kd.Nb (by repeat (first|(with_reducible exact xq.out)|(with_reducible refine Kd.dc ?_ _)|(with_reducible refine Kd.Zb ?_ _)|(with_reducible refine Kd.Fc ?_)|exact xq.out)) hb);have lD:=ga.mk (Ra taH hb);clear jg uh ji Hi oa xq HB;have jg:=Eb;have uh:=Fb;have ji:=Ob;have Hi:=Ec;have yp:=gf;have oa:=Zf;have xq:=gh;have HB:=lD;clear Eb Fb Ob Ec gf Zf gh lD hb DL;obtain ⟨mP,VG,eV⟩:=Kd.od uh.out;subst eV))
           go_loopg [37] k2 (fun kq v37 w'=>∃ (Ak:List Bool) (Re:Int),v37 = .int .i64 Re∧ga (Bb.l1 kq a1 Me Ee Cd (yd t110 Cd) Ak t110 (t110.length:Int) Cd Ee (Ee.length:Int) Re=some r)∧ga (kq ≤ k2)∧ga (Kd.R Kd.bool 4 w' w.heap.size (fun k_=>some k_ ≠ (fz:Value).ownBlock) gz Me)∧ga (Kd.R (Kd.int .i64) 3 w' w.heap.size (fun _=>True) (.slice mP Ee.length VG) Ee)∧ga (Kd.R Kd.bool 4 w' w.heap.size (fun k_=>some k_ ≠ (gz:Value).ownBlock) fz Ak)∧ga (Kd.S (Kd.slice 4 Kd.bool) 60 w' w.heap.size (fun k_=>some k_ ≠ (gz:Value).ownBlock∧some k_ ≠ (fz:Value).ownBlock) (.slice (some yM) t110.length Bab) t110)∧ga (Kd.R (Kd.int .i64) 3 w' w.heap.size (fun _=>True) (.slice mP Ee.length VG) Ee)∧ga (w'.heap[ya]? = some (.cells #[(.slice Ya Qa.length Za),.int .i64 Ja,.int .i64 Ga,.int .i64 Ia,(.slice Mb Aa.length Cb)] 30 (0,0)))∧ga (Below w.heap.size w w')∧ga (Kd.R Kd.bool 4 w' w.heap.size (fun k_=>some k_ ≠ (fz:Value).ownBlock) (.slice zad (yd t110 Cd).length Pab) (yd t110 Cd)))
           case atStart=>exact ⟨(Ll),(0),AaH,H',⟨Nat.le_refl _⟩,⟨by (with_reducible repeat (first|apply Kd.Xa|apply Kd.Wa|apply Kd.gb));exact Kd.xd jg.out (fun _ hk=>hk.2)⟩,⟨ZaH⟩,⟨by (with_reducible repeat (first|apply Kd.Xa|apply Kd.Wa|apply Kd.gb));exact Kd.xd yp.out (fun _ hk=>hk.1.2)⟩,⟨gaI⟩,⟨ZaH⟩,⟨zaH⟩,⟨xaH⟩,⟨Kd.xd Hi.out (fun _ hk=>hk.2)⟩⟩
           case round =>
            clear H'
            try clear c1
            try clear p1
            try clear q1
            try clear hx1
            try clear c2
            try clear p2
            try clear c3
            try clear c4
            try clear c5
            try clear c6
            try clear p6
            try clear zB
            try clear KG
            try clear JG
            try clear LN
            try clear Ss
            try clear VB
            try clear sM
            try clear Yy
            try clear uD
            try clear CH
            try clear zT
            try clear Jz
            try clear BH
            try clear Z8
            try clear PE
            try clear qM
            try clear Y8
            try clear ZK
            try clear Nh
            try clear Mh
            try clear Lh
            try clear Kh
            try clear Jh
            try clear vq
            try clear uq
            try clear rq
            try clear qq
            try clear oq
            try clear Yu
            try clear Xu
            try clear Wu
            try clear Vu
            try clear Uu
            try clear Rn
            try clear Qn
            try clear Pn
            try clear Nn
            try clear Mn
            try clear Ih
            try clear Hh
            try clear Gh
            try clear Fh
            try clear Eh
            try clear mq
            try clear lq
            try clear jq
            try clear iq
            try clear gq
            try clear wu
            try clear vu
            try clear uu
            try clear tu
            try clear su
            try clear sn
            try clear qn
            try clear pn
            try clear kn
            try clear jn
            try clear Kr
            try clear Nv
            try clear p2
            try clear Lv
            (try clear Hi);(try clear xq);(try clear HA);(try clear Aq);(try clear jg);(try clear uh);(try clear ni);(try clear ji);(try clear bz);(try clear oa);(try clear HB);(try clear Hi);obtain ⟨Ak,Re,rfl,HA,Aq,jg,uh,ni,ji,bz,oa,HB,Hi⟩:=hrel;have xq:=ga.mk (Kd.Rb Hi.out).2.2;cases gk with
            | zero=>exact absurd HA.out (by simp [Bb.l1])
            | succ k3 =>
             have H:=HA.out;clear HA;simp only [Bb.l1] at H
             by_cases cN:Re < (Ee.length:Int)
             ·rw [if_pos cN] at H;have xT:decide (Re < (Ee.length:Int))=true:=decide_eq_true cN;clear cN
              by_cases IZ:0 ≤ Re
              ·rw [if_pos IZ] at H;have xaj:decide (0 ≤ Re)=true:=decide_eq_true IZ;clear IZ
               by_cases YK:Re < (Ee.length:Int)
               ·rw [if_pos YK] at H;have mY:decide (Re < (Ee.length:Int))=true:=decide_eq_true YK;clear YK
                by_cases Iz:Re < ((yd t110 Cd).length:Int)
                ·rw [if_pos Iz] at H;have AH:decide (Re < ((yd t110 Cd).length:Int))=true:=decide_eq_true Iz;clear Iz;obtain ⟨Haj,KX⟩:∃ b_:Bool,b_=(Vf false (yd t110 Cd) Re):=⟨_,rfl⟩;replace H:(if Haj=true then (if (rd Ee Re) ≥ 0 then (if 0 ≤ (rd Ee Re) then (if (rd Ee Re) < (Ak.length:Int) then (Bb.l1 k3 a1 Me Ee Cd (yd t110 Cd) (Ak.set ((rd Ee Re):Int).toNat true) t110 (t110.length:Int) Cd Ee (Ee.length:Int) (wrap64 (Re + 1))) else (none)) else (none)) else (Bb.l1 k3 a1 Me Ee Cd (yd t110 Cd) Ak t110 (t110.length:Int) Cd Ee (Ee.length:Int) (wrap64 (Re + 1)))) else (Bb.l1 k3 a1 Me Ee Cd (yd t110 Cd) Ak t110 (t110.length:Int) Cd Ee (Ee.length:Int) (wrap64 (Re + 1))))=some r:=by rw [← KX] at H;exact H
                 have UY:=ga.mk KX;clear KX
                 by_cases wK:Haj=true
                 ·subst wK;have H1:(if (rd Ee Re) ≥ 0 then (if 0 ≤ (rd Ee Re) then (if (rd Ee Re) < (Ak.length:Int) then (Bb.l1 k3 a1 Me Ee Cd (yd t110 Cd) (Ak.set ((rd Ee Re):Int).toNat true) t110 (t110.length:Int) Cd Ee (Ee.length:Int) (wrap64 (Re + 1))) else (none)) else (none)) else (Bb.l1 k3 a1 Me Ee Cd (yd t110 Cd) Ak t110 (t110.length:Int) Cd Ee (Ee.length:Int) (wrap64 (Re + 1))))=some r:=by rw [if_pos rfl] at H;exact H
                  clear H;have H:=H1;clear H1
                  by_cases lV:(rd Ee Re) ≥ 0
                  ·rw [if_pos lV] at H;have R8:decide (0 ≤ (rd Ee Re))=true:=decide_eq_true lV;clear lV
                   by_cases XK:0 ≤ (rd Ee Re)
                   ·rw [if_pos XK] at H;have vT:decide (0 ≤ (rd Ee Re))=true:=decide_eq_true XK;clear XK
                    by_cases bN:(rd Ee Re) < (Ak.length:Int)
                    ·rw [if_pos bN] at H;have Q8:decide ((rd Ee Re) < (Ak.length:Int))=true:=decide_eq_true bN;clear bN;obtain ⟨pU,iw⟩:∃ y_:List Bool,y_=(Ak.set ((rd Ee Re):Int).toNat true):=⟨_,rfl⟩;replace H:(Bb.l1 k3 a1 Me Ee Cd (yd t110 Cd) pU t110 (t110.length:Int) Cd Ee (Ee.length:Int) (wrap64 (Re + 1)))=some r:=by first|(rw [iw];with_reducible exact H)|(have Ed:=(Option.bind_some _ _).symm.trans H;rw [iw];with_reducible exact Ed)|(have Ed:=(Option.bind_some _ _).symm.trans H;with_reducible exact Ed)|with_reducible exact H|(rw [iw];exact H)|exact H
                     have QY:=ga.mk iw;clear iw;have H':=ga.mk H;clear H;have Wv:0 ≤ (Re:Int):=Ua;have Vv:Re < (Ee.length:Int):=Ua;obtain ⟨DT,uO,Tt⟩:=Kd.Bi (Kd.Rb bz.out).2.2 Re Wv Vv;cases uO;replace Wv:=eq_true Wv;replace Vv:=eq_true Vv;have Mv:0 ≤ (Re:Int):=Ua;have Kv:Re < ((yd t110 Cd).length:Int):=Ua;obtain ⟨BB,tO,Ei⟩:=Kd.lg xq.out Re Mv Kv;(try rw [← UY.out] at Ei);cases tO
                     try replace Ei:=Sa HB.out Ei
                     replace Mv:=eq_true Mv;replace Kv:=eq_true Kv;have p40:0 ≤ ((rd Ee Re):Int):=Ua;have q40:((rd Ee Re):Int) < ((Ak.length:Int):Int):=Ua;obtain ⟨PF,sK,Sai,Gai,caw,HaE,mal⟩:=Kd.Xj ni.out (by omega);(first|cases Sai|(injection Sai with qj sw tw;(first|subst qj|(injection qj with qj;subst qj));subst tw;clear sw));have Pax:=ga.mk Gai;have PaF:=ga.mk mal;clear Gai caw mal;obtain ⟨iaa,Cav⟩:=Kd.Yh false ni.out ((rd Ee Re):Int) p40 q40;replace p40:=eq_true p40;replace q40:=eq_true q40;have Oac:=Kd.Ml ni.out ((rd Ee Re):Int) true;go_wp2_with (first|((with_reducible refine Ke (t:=4) (p:=52) rfl ?_);refine me (t:=4) (p:=52) (v:=?Eat) (w1:=(wr.setCell ⟨PF,((rd Ee Re):Int).toNat,none⟩ (.bool true))) ?hg ?ho ?hn ?hr ?_;(case ho=>rfl);(case hg=>rfl);(case hn=>rfl);(case hr=>first|(go_simp;done)|(go_simp;rfl));intro AG hw;have hg:wr.grownBy AG (some PF):=(by rw [hw];exact Oac.2);have Il:Kd.R Kd.bool 4 AG w.heap.size (fun k_=>some k_ ≠ (gz:Value).ownBlock) (.slice (some ⟨PF,0,none⟩) Ak.length sK) pU:=(by rw [hw,QY.out];exact Oac.1);clear Oac;have Eb:=ga.mk (Kd.UE (v:=(.slice (some ⟨PF,0,none⟩) Ak.length sK)) (v1:=(.slice (some ⟨PF,0,none⟩) Ak.length sK)) (ok:=(fun _=>True)) (by (with_reducible repeat (first|apply Kd.Xa|apply Kd.Wa|apply Kd.gb));exact Kd.xd jg.out (fun _ hk=>⟨trivial,hk⟩)) hg (.inl rfl));have Fb:=ga.mk (Kd.mj (v:=(.slice (some ⟨PF,0,none⟩) Ak.length sK)) MaH (Kd.mh ni.out) (by decide) hg);have Ob:=ga.mk (Il);have Ec:=ga.mk (Kd.E6 (v:=(.slice (some ⟨PF,0,none⟩) Ak.length sK)) (v1:=(.slice (some ⟨PF,0,none⟩) Ak.length sK)) (ok:=(fun k_=>some k_ ≠ (gz:Value).ownBlock)) haI hg (.inl rfl));have gf:=ga.mk (Kd.mj (v:=(.slice (some ⟨PF,0,none⟩) Ak.length sK)) (by (with_reducible repeat (first|apply Kd.Xa|apply Kd.Wa|apply Kd.gb));exact bz.out) (Kd.mh ni.out) (by decide) hg);have Zf:=ga.mk (Vc (g:=ya) (o:=.cells #[.slice Ya Qa.length Za,.int .i64 Ja,.int .i64 Ga,.int .i64 Ia,.slice Mb Aa.length Cb] 30 (0,0)) vaH hg (Kd.tj ni.out oa.out (by decide)));have gh:=ga.mk ((by rw [hw];exact ua (HB.out) Pax.out:Below w.heap.size w AG));clear jg uh ni ji bz oa HB;have jg:=Eb;have uh:=Fb;have ni:=Ob;have ji:=Ec;have bz:=gf;have oa:=Zf;have HB:=gh;clear Eb Fb Ob Ec gf Zf gh;have LP:=ga.mk (Kd.UE (v:=(.slice (some ⟨PF,0,none⟩) Ak.length sK)) (v1:=(.slice (some ⟨PF,0,none⟩) Ak.length sK)) (ok:=(fun _=>True)) (Kd.xd Hi.out (fun _ hk=>⟨trivial,hk⟩)) hg (.inl rfl));clear Hi;have Hi:=LP;clear LP hg hw Il))
                     go_roundg k3
                     case measure=>have:=JK.out;have:=zl.out;have:=Aq.out;omega
                     case rel=>exact ⟨(pU),(wrap64 (Re + 1)),AaH,H',⟨by have:=JK.out;have:=zl.out;have:=Aq.out;omega⟩,⟨by (with_reducible repeat (first|apply Kd.Xa|apply Kd.Wa|apply Kd.gb));exact Kd.xd jg.out (fun _ hk=>hk.2)⟩,⟨ZaH⟩,⟨kaI⟩,⟨gaI⟩,⟨by (with_reducible repeat (first|apply Kd.Xa|apply Kd.Wa|apply Kd.gb));exact bz.out⟩,⟨zaH⟩,⟨xaH⟩,⟨raI⟩⟩
                    ·rw [if_neg bN] at H;exact absurd H (by simp)
                   ·rw [if_neg XK] at H;exact absurd H (by simp)
                  ·rw [if_neg lV] at H;have R8:decide (0 ≤ (rd Ee Re))=false:=decide_eq_false lV;clear lV;have H':=ga.mk H;clear H;have Wv:0 ≤ (Re:Int):=Ua;have Vv:Re < (Ee.length:Int):=Ua;obtain ⟨DT,uO,Tt⟩:=Kd.Bi (Kd.Rb bz.out).2.2 Re Wv Vv;cases uO;replace Wv:=eq_true Wv;replace Vv:=eq_true Vv;have Mv:0 ≤ (Re:Int):=Ua;have Kv:Re < ((yd t110 Cd).length:Int):=Ua;obtain ⟨BB,tO,Ei⟩:=Kd.lg xq.out Re Mv Kv;(try rw [← UY.out] at Ei);cases tO
                   try replace Ei:=Sa HB.out Ei
                   replace Mv:=eq_true Mv;replace Kv:=eq_true Kv;go_wp2
                   go_roundg k3
                   case measure=>have:=JK.out;have:=zl.out;have:=Aq.out;omega
                   case rel=>exact ⟨(Ak),(wrap64 (Re + 1)),AaH,H',⟨by have:=JK.out;have:=zl.out;have:=Aq.out;omega⟩,⟨UaH⟩,⟨ZaH⟩,⟨kaI⟩,⟨gaI⟩,⟨by (with_reducible repeat (first|apply Kd.Xa|apply Kd.Wa|apply Kd.gb));exact bz.out⟩,⟨zaH⟩,⟨xaH⟩,⟨raI⟩⟩
                 ·replace wK:=Bool.eq_false_iff.mpr wK;subst wK;have H1:(Bb.l1 k3 a1 Me Ee Cd (yd t110 Cd) Ak t110 (t110.length:Int) Cd Ee (Ee.length:Int) (wrap64 (Re + 1)))=some r:=by rw [if_neg (show ¬ (false=true) by decide)] at H;exact H
                  clear H;have H:=H1;clear H1;have H':=ga.mk H;clear H;have Wv:0 ≤ (Re:Int):=Ua;have Vv:Re < (Ee.length:Int):=Ua;obtain ⟨DT,uO,Tt⟩:=Kd.Bi (Kd.Rb bz.out).2.2 Re Wv Vv;cases uO;replace Wv:=eq_true Wv;replace Vv:=eq_true Vv;have Mv:0 ≤ (Re:Int):=Ua;have Kv:Re < ((yd t110 Cd).length:Int):=Ua;obtain ⟨BB,tO,Ei⟩:=Kd.lg xq.out Re Mv Kv;(try rw [← UY.out] at Ei);cases tO
                  try replace Ei:=Sa HB.out Ei
                  replace Mv:=eq_true Mv;replace Kv:=eq_true Kv;go_wp2
                  go_roundg k3
                  case measure=>have:=JK.out;have:=zl.out;have:=Aq.out;omega
                  case rel=>exact ⟨(Ak),(wrap64 (Re + 1)),AaH,H',⟨by have:=JK.out;have:=zl.out;have:=Aq.out;omega⟩,⟨UaH⟩,⟨ZaH⟩,⟨kaI⟩,⟨gaI⟩,⟨by (with_reducible repeat (first|apply Kd.Xa|apply Kd.Wa|apply Kd.gb));exact bz.out⟩,⟨zaH⟩,⟨xaH⟩,⟨raI⟩⟩
                ·rw [if_neg Iz] at H;exact absurd H (by simp)
               ·rw [if_neg YK] at H;exact absurd H (by simp)
              ·rw [if_neg IZ] at H;exact absurd H (by simp)
             ·rw [if_neg cN] at H;have xT:decide (Re < (Ee.length:Int))=false:=decide_eq_false cN;clear cN;have H':=ga.mk H;clear H;go_wp2
              go_loopg [12] k3 (fun kq v12 w'=>∃ (nh:Int),v12 = .int .i64 nh∧ga (Bb.l2 kq a1 Me Ee Cd Ak nh t110 (t110.length:Int) Cd=some r)∧ga (kq ≤ k3)∧ga (Kd.R Kd.bool 4 w' w.heap.size (fun k_=>some k_ ≠ (fz:Value).ownBlock) gz Me)∧ga (Kd.R (Kd.int .i64) 3 w' w.heap.size (fun _=>True) (.slice mP Ee.length VG) Ee)∧ga (Kd.R Kd.bool 4 w' w.heap.size (fun k_=>some k_ ≠ (gz:Value).ownBlock) fz Ak)∧ga (Kd.S (Kd.slice 4 Kd.bool) 60 w' w.heap.size (fun k_=>some k_ ≠ (gz:Value).ownBlock∧some k_ ≠ (fz:Value).ownBlock) (.slice (some yM) t110.length Bab) t110)∧ga (w'.heap[ya]? = some (.cells #[(.slice Ya Qa.length Za),.int .i64 Ja,.int .i64 Ga,.int .i64 Ia,(.slice Mb Aa.length Cb)] 30 (0,0)))∧ga (Below w.heap.size w w'))
              case atStart=>exact ⟨(0),AaH,H',⟨Nat.le_refl _⟩,⟨UaH⟩,⟨ZaH⟩,⟨kaI⟩,⟨gaI⟩,⟨zaH⟩,⟨xaH⟩⟩
              case round =>
               clear H'
               try clear c1
               try clear p1
               try clear q1
               try clear hx1
               try clear c2
               try clear p2
               try clear c3
               try clear q3
               try clear c4
               try clear p4
               try clear q4
               try clear Gq
               try clear hf4
               try clear c5
               try clear c6
               try clear p6
               try clear zB
               try clear KG
               try clear JG
               try clear LN
               try clear Ss
               try clear VB
               try clear sM
               try clear Yy
               try clear uD
               try clear CH
               try clear zT
               try clear Jz
               try clear BH
               try clear Z8
               try clear PE
               try clear qM
               try clear Y8
               try clear ZK
               try clear cN
               try clear xT
               try clear IZ
               try clear xaj
               try clear YK
               try clear mY
               try clear Iz
               try clear AH
               try clear q35
               try clear wK
               try clear lV
               try clear R8
               try clear XK
               try clear vT
               try clear bN
               try clear Q8
               try clear p40
               try clear q40
               try clear AaD
               try clear baE
               try clear Nh
               try clear Mh
               try clear Lh
               try clear Kh
               try clear Jh
               try clear vq
               try clear uq
               try clear rq
               try clear qq
               try clear oq
               try clear Yu
               try clear Xu
               try clear Wu
               try clear Vu
               try clear Uu
               try clear Rn
               try clear Qn
               try clear Pn
               try clear Nn
               try clear Mn
               try clear Ih
               try clear Hh
               try clear Gh
               try clear Fh
               try clear Eh
               try clear mq
               try clear lq
               try clear jq
               try clear iq
               try clear gq
               try clear wu
               try clear vu
               try clear uu
               try clear tu
               try clear su
               try clear sn
               try clear qn
               try clear pn
               try clear kn
               try clear jn
               try clear Kr
               try clear Tt
               try clear Ei
               try clear iaa
               try clear p1
               try clear KG
               try clear Nv
               try clear Wv
               try clear Mv
               try clear p2
               try clear p40
               try clear p6
               try clear q1
               try clear JG
               try clear Lv
               try clear Vv
               try clear Kv
               try clear q40
               (try clear HA);(try clear aH);(try clear jg);(try clear uh);(try clear ni);(try clear ji);(try clear oa);(try clear HB);obtain ⟨nh,rfl,HA,aH,jg,uh,ni,ji,oa,HB⟩:=hrel;cases gk with
               | zero=>exact absurd HA.out (by simp [Bb.l2])
               | succ k4 =>
                have H:=HA.out;clear HA;simp only [Bb.l2] at H
                by_cases j6:0 ≤ nh
                ·rw [if_pos j6] at H;have kaC:decide (0 ≤ nh)=true:=decide_eq_true j6;clear j6
                 by_cases zH:nh < (Ak.length:Int)
                 ·rw [if_pos zH] at H;have uT:decide (nh < (Ak.length:Int))=true:=decide_eq_true zH;clear zH;obtain ⟨Eaj,GX⟩:∃ b_:Bool,b_=(Vf false Ak nh):=⟨_,rfl⟩;replace H:(if Eaj=true then (Bb.l2 k4 a1 Me Ee Cd Ak (wrap64 (nh + 1)) t110 (t110.length:Int) Cd) else (if nh=a1 then (if Ee.length < 17592186044416 then (Bb.l0 k4 a1 Me (Ee ++ [(-1)]) t110 (t110.length:Int) (wrap64 (Cd + 1))) else (none)) else (if 0 ≤ Cd then (if Cd < (Me.length:Int) then (if Vf false Me Cd=true then (if Ee.length < 17592186044416 then (Bb.l0 k4 a1 Me (Ee ++ [nh]) t110 (t110.length:Int) (wrap64 (Cd + 1))) else (none)) else (if Ee.length < 17592186044416 then (Bb.l0 k4 a1 Me (Ee ++ [(-1)]) t110 (t110.length:Int) (wrap64 (Cd + 1))) else (none))) else (none)) else (none))))=some r:=by rw [← GX] at H;exact H
                  have MH:=ga.mk GX;clear GX
                  by_cases yH:Eaj=true
                  ·subst yH;have H1:(Bb.l2 k4 a1 Me Ee Cd Ak (wrap64 (nh + 1)) t110 (t110.length:Int) Cd)=some r:=by rw [if_pos rfl] at H;exact H
                   clear H;have H:=H1;clear H1;have H':=ga.mk H;clear H;obtain ⟨Xax,Xai,qab⟩:=Kd.od ni.out;subst qab;have pz:0 ≤ (nh:Int):=Ua;have kz:nh < (Ak.length:Int):=Ua;obtain ⟨zY,sO,Mp⟩:=Kd.lg (Kd.Rb ni.out).2.2 nh pz kz;(try rw [← MH.out] at Mp);cases sO;replace pz:=eq_true pz;replace kz:=eq_true kz;go_wp2
                   go_roundg k4
                   case measure=>have:=JK.out;have:=zl.out;have:=Aq.out;have:=aH.out;omega
                   case rel=>exact ⟨(wrap64 (nh + 1)),AaH,H',⟨by have:=JK.out;have:=zl.out;have:=Aq.out;have:=aH.out;omega⟩,⟨UaH⟩,⟨ZaH⟩,⟨kaI⟩,⟨gaI⟩,⟨zaH⟩,⟨xaH⟩⟩
                  ·replace yH:=Bool.eq_false_iff.mpr yH;subst yH;have H1:(if nh=a1 then (if Ee.length < 17592186044416 then (Bb.l0 k4 a1 Me (Ee ++ [(-1)]) t110 (t110.length:Int) (wrap64 (Cd + 1))) else (none)) else (if 0 ≤ Cd then (if Cd < (Me.length:Int) then (if Vf false Me Cd=true then (if Ee.length < 17592186044416 then (Bb.l0 k4 a1 Me (Ee ++ [nh]) t110 (t110.length:Int) (wrap64 (Cd + 1))) else (none)) else (if Ee.length < 17592186044416 then (Bb.l0 k4 a1 Me (Ee ++ [(-1)]) t110 (t110.length:Int) (wrap64 (Cd + 1))) else (none))) else (none)) else (none)))=some r:=by rw [if_neg (show ¬ (false=true) by decide)] at H;exact H
                   clear H;have H:=H1;clear H1
                   by_cases AO:nh=a1
                   ·rw [if_pos AO] at H;have fY:(nh == a1)=true:=beq_iff_eq.mpr AO;have eY:(nh != a1)=false:=bne_eq_false_iff_eq.mpr AO;clear AO
                    by_cases c49:Ee.length < 17592186044416
                    ·rw [if_pos c49] at H;have eak:=ga.mk c49;clear c49;obtain ⟨bae,BL⟩:∃ y_:List Int,y_=(Ee ++ [(-1)]):=⟨_,rfl⟩;replace H:(Bb.l0 k4 a1 Me bae t110 (t110.length:Int) (wrap64 (Cd + 1)))=some r:=by first|(rw [BL];with_reducible exact H)|(have Ed:=(Option.bind_some _ _).symm.trans H;rw [BL];with_reducible exact Ed)|(have Ed:=(Option.bind_some _ _).symm.trans H;with_reducible exact Ed)|with_reducible exact H|(rw [BL];exact H)|exact H
                     have Xaj:=ga.mk BL;clear BL;have H':=ga.mk H;clear H;obtain ⟨haG,AaE,waw⟩:=Kd.od ni.out;subst waw;have pz:0 ≤ (nh:Int):=Ua;have kz:nh < (Ak.length:Int):=Ua;obtain ⟨zY,sO,Mp⟩:=Kd.lg (Kd.Rb ni.out).2.2 nh pz kz;(try rw [← MH.out] at Mp);cases sO;replace pz:=eq_true pz;replace kz:=eq_true kz;go_wp2_with (first|((with_reducible refine Jd (b:=.append) (xs:=#[.tmp 70,.tmp 72]) rfl ?_);at_builtin;refine Kd.Rg (Kd.int .i64) (w0:=w) w.heap.size rfl (.tmp 70) (.tmp 72) 22 3 (.int .i64 0) 8 rfl Try.underlying22 info3 rfl (by decide) (by omega) (.slice mP Ee.length VG) Ee (-1) [.int .i64 (-1)] (fun _=>True) (fun _=>False) rfl rfl ?aP (fun _ hk=>hk.elim) ?aF ?aO ?aB ?aS ?aL ?_;(case aP=>exact rfl);(case aB=>exact taH);(case aF=>exact (fun _ _=>trivial));(case aO=>exact MaH);(case aS=>exact (La taH));(case aL=>have:=eak.out;omega);intro saD w51 ho hb hg hat;rw [← Xaj.out] at ho;have Eb:=ga.mk (Kd.mj JaH (Kd.mh MaH) (by decide) hg);have Fb:=ga.mk (Kd.mj paI (Kd.mh MaH) (by decide) hg);have Ob:=ga.mk (Kd.CB haI (Kd.mh MaH) (by decide) hg);have Ec:=ga.mk (Vc (g:=ya) (o:=.cells #[.slice Ya Qa.length Za,.int .i64 Ja,.int .i64 Ga,.int .i64 Ia,.slice Mb Aa.length Cb] 30 (0,0)) vaH hg (Kd.tj uh.out oa.out (by decide)));have gf:=ga.mk (hb);have Zf:=ga.mk (ho);clear jg ni ji oa HB uh;have jg:=Eb;have ni:=Fb;have ji:=Ob;have oa:=Ec;have HB:=gf;have Rak:=Zf;clear Eb Fb Ob Ec gf Zf ho hb hg hat))
                     go_roundg k4
                     case measure=>have:=JK.out;have:=zl.out;have:=Aq.out;have:=aH.out;omega
                     case rel=>exact ⟨(Me),(bae),(wrap64 (Cd + 1)),AaH,H',⟨by have:=JK.out;have:=zl.out;have:=Aq.out;have:=aH.out;omega⟩,⟨uaI⟩,⟨by (with_reducible repeat (first|apply Kd.Xa|apply Kd.Wa|apply Kd.gb));exact Rak.out⟩,⟨vaI⟩,⟨zaH⟩,⟨xaH⟩⟩
                    ·rw [if_neg c49] at H;exact absurd H (by simp)
                   ·rw [if_neg AO] at H;have fY:(nh == a1)=false:=beq_eq_false_iff_ne.mpr AO;have eY:(nh != a1)=true:=bne_iff_ne.mpr AO
                    by_cases Z5:0 ≤ Cd
                    ·rw [if_pos Z5] at H;have uaj:decide (0 ≤ Cd)=true:=decide_eq_true Z5;clear Z5
                     by_cases CV:Cd < (Me.length:Int)
                     ·rw [if_pos CV] at H;have P8:decide (Cd < (Me.length:Int))=true:=decide_eq_true CV;clear CV;obtain ⟨Daj,FX⟩:∃ b_:Bool,b_=(Vf false Me Cd):=⟨_,rfl⟩;replace H:(if Daj=true then (if Ee.length < 17592186044416 then (Bb.l0 k4 a1 Me (Ee ++ [nh]) t110 (t110.length:Int) (wrap64 (Cd + 1))) else (none)) else (if Ee.length < 17592186044416 then (Bb.l0 k4 a1 Me (Ee ++ [(-1)]) t110 (t110.length:Int) (wrap64 (Cd + 1))) else (none)))=some r:=by rw [← FX] at H;exact H
                      have RT:=ga.mk FX;clear FX
                      by_cases Y5:Daj=true
                      ·subst Y5;have H1:(if Ee.length < 17592186044416 then (Bb.l0 k4 a1 Me (Ee ++ [nh]) t110 (t110.length:Int) (wrap64 (Cd + 1))) else (none))=some r:=by rw [if_pos rfl] at H;exact H
                       clear H;have H:=H1;clear H1
                       by_cases BV:Ee.length < 17592186044416
                       ·rw [if_pos BV] at H;have dak:=ga.mk BV;clear BV;obtain ⟨aae,zL⟩:∃ y_:List Int,y_=(Ee ++ [nh]):=⟨_,rfl⟩;replace H:(Bb.l0 k4 a1 Me aae t110 (t110.length:Int) (wrap64 (Cd + 1)))=some r:=by first|(rw [zL];with_reducible exact H)|(have Ed:=(Option.bind_some _ _).symm.trans H;rw [zL];with_reducible exact Ed)|(have Ed:=(Option.bind_some _ _).symm.trans H;with_reducible exact Ed)|with_reducible exact H|(rw [zL];exact H)|exact H
                        have Vaj:=ga.mk zL;clear zL;have H':=ga.mk H;clear H;obtain ⟨eaG,yaE,uaw⟩:=Kd.od ni.out;subst uaw;have pz:0 ≤ (nh:Int):=Ua;have kz:nh < (Ak.length:Int):=Ua;obtain ⟨zY,sO,Mp⟩:=Kd.lg (Kd.Rb ni.out).2.2 nh pz kz;(try rw [← MH.out] at Mp);(try rw [← RT.out] at Mp);cases sO;replace pz:=eq_true pz;replace kz:=eq_true kz;obtain ⟨daG,xaE,taw⟩:=Kd.od jg.out;subst taw;have oz:0 ≤ (Cd:Int):=Ua;have jz:Cd < (Me.length:Int):=Ua;obtain ⟨wY,rO,Zl⟩:=Kd.lg (Kd.Rb jg.out).2.2 Cd oz jz;(try rw [← MH.out] at Zl);(try rw [← RT.out] at Zl);cases rO;replace oz:=eq_true oz;replace jz:=eq_true jz;go_wp2_with (first|((with_reducible refine Jd (b:=.append) (xs:=#[.tmp 70,.tmp 72]) rfl ?_);at_builtin;refine Kd.Rg (Kd.int .i64) (w0:=w) w.heap.size rfl (.tmp 70) (.tmp 72) 22 3 (.int .i64 0) 8 rfl Try.underlying22 info3 rfl (by decide) (by omega) (.slice mP Ee.length VG) Ee nh [.int .i64 nh] (fun _=>True) (fun _=>False) rfl rfl ?aP (fun _ hk=>hk.elim) ?aF ?aO ?aB ?aS ?aL ?_;(case aP=>exact rfl);(case aB=>exact taH);(case aF=>exact (fun _ _=>trivial));(case aO=>exact MaH);(case aS=>exact (La taH));(case aL=>have:=dak.out;omega);intro qaD w59 ho hb hg hat;rw [← Vaj.out] at ho;have Eb:=ga.mk (Kd.mj JaH (Kd.mh MaH) (by decide) hg);have Fb:=ga.mk (Kd.mj paI (Kd.mh MaH) (by decide) hg);have Ob:=ga.mk (Kd.CB haI (Kd.mh MaH) (by decide) hg);have Ec:=ga.mk (Vc (g:=ya) (o:=.cells #[.slice Ya Qa.length Za,.int .i64 Ja,.int .i64 Ga,.int .i64 Ia,.slice Mb Aa.length Cb] 30 (0,0)) vaH hg (Kd.tj uh.out oa.out (by decide)));have gf:=ga.mk (hb);have Zf:=ga.mk (ho);clear jg ni ji oa HB uh;have jg:=Eb;have ni:=Fb;have ji:=Ob;have oa:=Ec;have HB:=gf;have Pak:=Zf;clear Eb Fb Ob Ec gf Zf ho hb hg hat))
                        go_roundg k4
                        case measure=>have:=JK.out;have:=zl.out;have:=Aq.out;have:=aH.out;omega
                        case rel=>exact ⟨(Me),(aae),(wrap64 (Cd + 1)),AaH,H',⟨by have:=JK.out;have:=zl.out;have:=Aq.out;have:=aH.out;omega⟩,⟨uaI⟩,⟨by (with_reducible repeat (first|apply Kd.Xa|apply Kd.Wa|apply Kd.gb));exact Pak.out⟩,⟨vaI⟩,⟨zaH⟩,⟨xaH⟩⟩
                       ·rw [if_neg BV] at H;exact absurd H (by simp)
                      ·replace Y5:=Bool.eq_false_iff.mpr Y5;subst Y5;have H1:(if Ee.length < 17592186044416 then (Bb.l0 k4 a1 Me (Ee ++ [(-1)]) t110 (t110.length:Int) (wrap64 (Cd + 1))) else (none))=some r:=by rw [if_neg (show ¬ (false=true) by decide)] at H;exact H
                       clear H;have H:=H1;clear H1
                       by_cases c60:Ee.length < 17592186044416
                       ·rw [if_pos c60] at H;have bak:=ga.mk c60;clear c60;obtain ⟨oU,ew⟩:∃ y_:List Int,y_=(Ee ++ [(-1)]):=⟨_,rfl⟩;replace H:(Bb.l0 k4 a1 Me oU t110 (t110.length:Int) (wrap64 (Cd + 1)))=some r:=by first|(rw [ew];with_reducible exact H)|(have Ed:=(Option.bind_some _ _).symm.trans H;rw [ew];with_reducible exact Ed)|(have Ed:=(Option.bind_some _ _).symm.trans H;with_reducible exact Ed)|with_reducible exact H|(rw [ew];exact H)|exact H
                        have PY:=ga.mk ew;clear ew;have H':=ga.mk H;clear H;obtain ⟨caG,vaE,saw⟩:=Kd.od ni.out;subst saw;have pz:0 ≤ (nh:Int):=Ua;have kz:nh < (Ak.length:Int):=Ua;obtain ⟨zY,sO,Mp⟩:=Kd.lg (Kd.Rb ni.out).2.2 nh pz kz;(try rw [← MH.out] at Mp);(try rw [← RT.out] at Mp);cases sO;replace pz:=eq_true pz;replace kz:=eq_true kz;obtain ⟨baG,uaE,qaw⟩:=Kd.od jg.out;subst qaw;have oz:0 ≤ (Cd:Int):=Ua;have jz:Cd < (Me.length:Int):=Ua;obtain ⟨wY,rO,Zl⟩:=Kd.lg (Kd.Rb jg.out).2.2 Cd oz jz;(try rw [← MH.out] at Zl);(try rw [← RT.out] at Zl);cases rO;replace oz:=eq_true oz;replace jz:=eq_true jz;go_wp2_with (first|((with_reducible refine Jd (b:=.append) (xs:=#[.tmp 70,.tmp 72]) rfl ?_);at_builtin;refine Kd.Rg (Kd.int .i64) (w0:=w) w.heap.size rfl (.tmp 70) (.tmp 72) 22 3 (.int .i64 0) 8 rfl Try.underlying22 info3 rfl (by decide) (by omega) (.slice mP Ee.length VG) Ee (-1) [.int .i64 (-1)] (fun _=>True) (fun _=>False) rfl rfl ?aP (fun _ hk=>hk.elim) ?aF ?aO ?aB ?aS ?aL ?_;(case aP=>exact rfl);(case aB=>exact taH);(case aF=>exact (fun _ _=>trivial));(case aO=>exact MaH);(case aS=>exact (La taH));(case aL=>have:=bak.out;omega);intro paD w63 ho hb hg hat;rw [← PY.out] at ho;have Eb:=ga.mk (Kd.mj JaH (Kd.mh MaH) (by decide) hg);have Fb:=ga.mk (Kd.mj paI (Kd.mh MaH) (by decide) hg);have Ob:=ga.mk (Kd.CB haI (Kd.mh MaH) (by decide) hg);have Ec:=ga.mk (Vc (g:=ya) (o:=.cells #[.slice Ya Qa.length Za,.int .i64 Ja,.int .i64 Ga,.int .i64 Ia,.slice Mb Aa.length Cb] 30 (0,0)) vaH hg (Kd.tj uh.out oa.out (by decide)));have gf:=ga.mk (hb);have Zf:=ga.mk (ho);clear jg ni ji oa HB uh;have jg:=Eb;have ni:=Fb;have ji:=Ob;have oa:=Ec;have HB:=gf;have Oak:=Zf;clear Eb Fb Ob Ec gf Zf ho hb hg hat))
                        go_roundg k4
                        case measure=>have:=JK.out;have:=zl.out;have:=Aq.out;have:=aH.out;omega
                        case rel=>exact ⟨(Me),(oU),(wrap64 (Cd + 1)),AaH,H',⟨by have:=JK.out;have:=zl.out;have:=Aq.out;have:=aH.out;omega⟩,⟨uaI⟩,⟨by (with_reducible repeat (first|apply Kd.Xa|apply Kd.Wa|apply Kd.gb));exact Oak.out⟩,⟨vaI⟩,⟨zaH⟩,⟨xaH⟩⟩
                       ·rw [if_neg c60] at H;exact absurd H (by simp)
                     ·rw [if_neg CV] at H;exact absurd H (by simp)
                    ·rw [if_neg Z5] at H;exact absurd H (by simp)
                 ·rw [if_neg zH] at H;exact absurd H (by simp)
                ·rw [if_neg j6] at H;exact absurd H (by simp)
          ·rw [if_neg PE] at H;exact absurd H (by simp)
         ·rw [if_neg Jz] at H;exact absurd H (by simp)
        ·rw [if_neg CH] at H;exact absurd H (by simp)
       ·rw [if_neg Yy] at H;exact absurd H (by simp)
      ·rw [if_neg VB] at H;have sM:decide (Cd < (t110.length:Int))=false:=decide_eq_false VB;clear VB;obtain rfl:=Option.some.inj H;go_wp2;go_ret;exact ⟨_,by first|rfl|(simp [Pa,Oa] <;> rfl)|(simp [*,Pa,Oa] <;> rfl),ZaH,xaH⟩
section
variable {n:Nat} {T:List (List Bool)} {R:List (List Int)}
end
theorem pW {l0:List Int} {p v:Int} {n:Nat} {bs:List Je} (hO:mm bs n):rj.f l0 p v (n:Int) bs=some (Gp bs n):=by
 unfold rj.f;rw [if_pos ⟨by omega,by rw [Int.toNat_natCast];exact hO⟩,Int.toNat_natCast]
theorem TV {l0:List Int} {p v:Int} {n:Nat} {bs:List Je} (hO:mm bs n):ai.f l0 p v (n:Int) bs=some (Gp bs n):=by
 unfold ai.f;rw [if_pos ⟨by omega,by rw [Int.toNat_natCast];exact hO⟩,Int.toNat_natCast]
end Go.Proofs.Ytkigbdceceeenaa.P
end
section
namespace Go.Proofs.Ytkigbdceceeenaa.P
open Go.RowKit Go.Proofs.Ma.Tb Go.Proofs.Ma.Gd Go.Proofs.Ma.De
set_option linter.unusedVariables false
set_option linter.unusedSimpArgs false
def S_ (b:Je):List Int:=b.f0.flatMap tl ++ jl b
theorem K7 {n:Nat} {x:He} (hx:Ys n x):∀ u ∈ tl x,0 ≤ u∧u < (n:Int):=by
 intro u hu;unfold tl at hu
 rcases List.mem_append.1 hu with h|h
 ·exact hx.1 u h
 ·by_cases hm:Am x ≥ 0
  ·rw [if_pos hm,List.mem_singleton] at h;have:=mH hx hm;omega
  ·rw [if_neg hm] at h;cases h
theorem N7 {n:Nat} {b:Je} (hb:Dt n b):∀ u ∈ jl b,0 ≤ u∧u < (n:Int):=by
 intro u hu;unfold jl at hu
 by_cases hf:b.f1=0
 ·rw [if_pos hf] at hu;cases hu
 ·rw [if_neg hf,List.mem_singleton] at hu;rw [hu];exact hb.2.1 hf
theorem R_ {bs:List Je} {n:Nat} (hO:mm bs n):(bs.flatMap S_).foldl Mg (List.replicate n false)=AZ bs n:=by
 have hc:∀ u ∈ bs.flatMap S_,0 ≤ u∧u < ((List.replicate n false).length:Int):=fun u hu=>by
  rw [List.length_replicate];obtain ⟨b,hb,hu⟩:=List.mem_flatMap.1 hu
  rcases List.mem_append.1 hu with h|h
  ·obtain ⟨x,hx,h⟩:=List.mem_flatMap.1 h;exact K7 ((hO.2.2 b hb).2.2 x hx) u h
  ·exact N7 (hO.2.2 b hb) u h
 have hb:∀ u ∈ bs.flatMap uU,0 ≤ u∧u < ((List.replicate n false).length:Int):=fun u hu=>by
  rw [List.length_replicate];obtain ⟨b,hb,hu⟩:=List.mem_flatMap.1 hu
  rcases List.mem_append.1 hu with h|h
  ·exact N7 (hO.2.2 b hb) u h
  ·obtain ⟨x,hx,h⟩:=List.mem_flatMap.1 h;exact K7 ((hO.2.2 b hb).2.2 x hx) u h
 unfold AZ;refine Zz (by rw [di,di]) (fun u=>?_);rw [Em _ _ _ hc,Em _ _ _ hb]
 have hm:(u:Int) ∈ bs.flatMap S_ ↔ (u:Int) ∈ bs.flatMap uU:=by
  rw [List.mem_flatMap,List.mem_flatMap];unfold S_ uU;exact ⟨fun ⟨b,h1,h2⟩=>⟨b,h1,by rw [List.mem_append] at h2 ⊢;exact h2.symm⟩,fun ⟨b,h1,h2⟩=>⟨b,h1,by rw [List.mem_append] at h2 ⊢;exact h2.symm⟩⟩
 rw [decide_eq_decide.2 hm]
section
variable {bs:List Je} {n:Nat} {R:List Bool}
theorem bM {b:Je} {x:He} {k:Nat} (m i:Int) (us:List Int) (hx:Ys n x) (DZ:us.length ≤ 1048576) (hus:∀ u ∈ us,0 ≤ u∧u < (n:Int)) (s0:List Bool) (hs0:s0.length=n)
  (hK:Ev (fun q=>ec.l1 q ((if Am x ≥ 0 then [Am x] else []).foldl Mg (us.foldl Mg s0)) bs m i b.f0 (b.f0.length:Int) (wrap64 ((k:Int) + 1)) b.f0 b.f1 b.f2 b.f3 b.f4) R) :
  ∀ (d j:Nat) (s:List Bool),j + d=us.length→s.length=n→(us.drop j).foldl Mg s=us.foldl Mg s0→Ev (fun q=>ec.l2 q s bs m i b.f0 (b.f0.length:Int) (k:Int) us (us.length:Int) (j:Int) b.f0 b.f1 b.f2 b.f3 b.f4 x.f0 x.f1 x.f2 x.f3 x.f4 x.f5 x.f6) R:=by
 intro d
 induction d with
 | zero =>
  intro j s hj hs he;rw [List.drop_eq_nil_of_le (by omega),List.foldl_nil] at he;rw [← he] at hK;refine Ev.step (fun q=>by rw [ec.l2]) ?_;refine Ev.neg (by omega) (Ev.bind (Ev.here (sL x)) ?_)
  by_cases hm:Am x ≥ 0
  ·have:=mH hx hm;rw [if_pos hm] at hK;exact Ev.pos hm (Ev.pos hm (Ev.pos (by omega) hK))
  ·rw [if_neg hm] at hK;exact Ev.neg hm hK
 | succ d ih =>
  intro j s hj hs he;have hjl:j < us.length:=by omega
  have h:=hus _ (List.getElem_mem hjl);rw [List.drop_eq_getElem_cons hjl,List.foldl_cons] at he;refine Ev.step (fun q=>by rw [ec.l2]) ?_;rw [Kj hjl,Xd hjl (by omega)];exact Ev.pos (by omega) (Ev.pos (by omega) (Ev.pos (by omega) (Ev.pos h.1 (Ev.pos (by omega) (ih (j + 1) _ (by omega) (by rw [List.length_set];exact hs) he)))))
theorem cM {b:Je} {i:Nat} (m:Int) (hb:Dt n b) (s0:List Bool) (hs0:s0.length=n)
  (hK:Ev (fun q=>ec.l0 q ((S_ b).foldl Mg s0) bs m (wrap64 ((i:Int) + 1))) R) :
  ∀ (d k:Nat) (s:List Bool),k + d=b.f0.length→s.length=n→((b.f0.drop k).flatMap tl).foldl Mg s=(b.f0.flatMap tl).foldl Mg s0→Ev (fun q=>ec.l1 q s bs m (i:Int) b.f0 (b.f0.length:Int) (k:Int) b.f0 b.f1 b.f2 b.f3 b.f4) R:=by
 intro d
 induction d with
 | zero =>
  intro k s hk hs he;rw [List.drop_eq_nil_of_le (by omega),List.flatMap_nil,List.foldl_nil] at he;unfold S_ jl at hK;rw [List.foldl_append,← he] at hK;refine Ev.step (fun q=>by rw [ec.l1]) ?_;refine Ev.neg (by omega) ?_
  by_cases hf:b.f1=0
  ·rw [if_pos hf] at hK;exact Ev.pos hf hK
  ·have:=hb.2.1 hf;rw [if_neg hf] at hK;exact Ev.neg hf (Ev.pos (by omega) (Ev.pos (by omega) hK))
 | succ d ih =>
  intro k s hk hs he;have ZM:k < b.f0.length:=by omega
  have Kt:=hb.1;have hix:=Zv hb ZM;rw [List.drop_eq_getElem_cons ZM,List.flatMap_cons,List.foldl_append,← sk ZM] at he;have DZ:=Xs (Ea b.f0 (k:Int));refine Ev.step (fun q=>by rw [ec.l1]) ?_;refine Ev.pos (by omega) (Ev.pos (by omega) (Ev.pos (by omega) (Ev.bind (uH _) ?_)));refine bM m (i:Int) _ hix (by omega) hix.1 s hs ?_ _ 0 s (Nat.zero_add _) hs rfl;rw [Xd ZM (by omega)];refine ih (k + 1) _ (by omega) (by rw [di,di];exact hs) ?_;unfold tl at he;rw [List.foldl_append] at he;exact he
theorem dM (hO:mm bs n):∀ (d i:Nat) (s:List Bool),i + d=bs.length→s.length=n→Ev (fun q=>ec.l0 q s bs (bs.length:Int) (i:Int)) (((bs.drop i).flatMap S_).foldl Mg s):=by
 have hl:=hO.1.2.1;intro d
 induction d with
 | zero =>
  intro i s hi hs;rw [List.drop_eq_nil_of_le (by omega),List.flatMap_nil,List.foldl_nil];refine Ev.step (fun q=>by rw [ec.l0]) ?_;exact Ev.neg (by omega) (Ev.now _)
 | succ d ih =>
  intro i s hi hs;have hil:i < bs.length:=by omega
  have hb:=Ms hO hil;rw [List.drop_eq_getElem_cons hil,List.flatMap_cons,List.foldl_append,← Zg hil];refine Ev.step (fun q=>by rw [ec.l0]) ?_;refine Ev.pos (by omega) (Ev.pos (by omega) (Ev.pos (by omega) ?_));refine cM (bs.length:Int) hb s hs ?_ _ 0 s (Nat.zero_add _) hs rfl;rw [Xd hil (by omega)];exact ih (i + 1) _ (by omega) (by rw [di];exact hs)
end
theorem cO {bs:List Je} {n:Nat} (hO:mm bs n) (l0:List Int) (p v:Int):Ev (fun q=>ec.f q l0 p v (n:Int) bs) (AZ bs n):=by
 have hn:=hO.2.1;have h:=dM hO bs.length 0 (List.replicate n false) (by omega) (by simp);rw [List.drop_zero,R_ hO] at h;unfold ec.f;refine Ev.pos (by omega) (Ev.pos (by omega) ?_);rw [Int.toNat_natCast];exact h
theorem RV {l0:List Int} {p v:Int} {n:Nat} {bs:List Je} (hO:mm bs n):xh.f l0 p v (n:Int) bs=some (AZ bs n):=by
 unfold xh.f;rw [if_pos ⟨by omega,by rw [Int.toNat_natCast];exact hO⟩,Int.toNat_natCast]
end Go.Proofs.Ytkigbdceceeenaa.P
end
section
namespace Go.Proofs.Ytkigbdceceeenaa.P
open Go.RowKit Go.Proofs.Ma.Tb Go.Proofs.Ma.Gd Go.Proofs.Ma.De
set_option linter.unusedVariables false
set_option linter.unusedSimpArgs false
open Classical in
noncomputable def Ov (P:Nat→Prop) (k:Nat):Nat→Int
 | 0=>-1
 | d + 1=>if P (k - (d + 1)) then Ov P k d else ((k - (d + 1):Nat):Int)
theorem iC (P:Nat→Prop) (k d:Nat):Ov P k (d + 1)=open Classical in if P (k - (d + 1)) then Ov P k d else ((k - (d + 1):Nat):Int):=rfl
theorem tL {P:Nat→Prop} {k c d:Nat} (h:c + (d + 1)=k) (hp:P c):Ov P k (d + 1)=Ov P k d:=by
 have:k - (d + 1)=c:=by omega
 rw [iC,this,if_pos hp]
theorem oH {P:Nat→Prop} {k c d:Nat} (h:c + (d + 1)=k) (hp:¬ P c):Ov P k (d + 1)=(c:Int):=by
 have:k - (d + 1)=c:=by omega
 rw [iC,this,if_neg hp]
theorem D1 (P:Nat→Prop) (k:Nat):∀ d,-1 ≤ Ov P k d∧(0 < k→Ov P k d < (k:Int))∧Ov P k d ≤ (k:Int):=by
 intro d
 induction d with
 | zero=>unfold Ov;omega
 | succ d ih =>
  rw [iC]
  by_cases h:P (k - (d + 1))
  ·rw [if_pos h];exact ih
  ·rw [if_neg h];omega
theorem FU (P:Nat→Prop) (d:Nat) (hd:d ≤ 0):Ov P 0 d = -1:=by
 obtain rfl:d=0:=by omega
 rfl
def YZ (row:List Bool) (out:List Int) (m:Nat) (c:Nat):Prop:=∃ o:Nat,o < m∧seen row o=true∧rd out (o:Int)=(c:Int)
def GM (k:Nat) (out:List Int):Prop:=∀ o:Nat,o < out.length→-1 ≤ rd out (o:Int)∧rd out (o:Int) < (k:Int)
noncomputable def xO (T:List (List Bool)) (nm:List Bool) (k s:Nat) (out:List Int):Int:=if seen nm s=true then Ov (YZ (qe T s) out out.length) k k else -1
noncomputable def Qs (T:List (List Bool)) (nm:List Bool) (k:Nat):Nat→List Int
 | 0=>[]
 | s + 1=>Qs T nm k s ++ [xO T nm k s (Qs T nm k s)]
theorem xH (T:List (List Bool)) (nm:List Bool) (k s:Nat):Qs T nm k (s + 1)=Qs T nm k s ++ [xO T nm k s (Qs T nm k s)]:=rfl
theorem Xq (T:List (List Bool)) (nm:List Bool) (k s:Nat):(Qs T nm k s).length=s:=by
 induction s with
 | zero=>rfl
 | succ s ih=>unfold Qs;rw [List.length_append,ih];rfl
theorem uN {l:List Int} {c:Int} {o:Nat} (h:o < l.length):rd (l ++ [c]) (o:Int)=rd l (o:Int):=by
 rw [Kj (show o < (l ++ [c]).length by simp;omega),Kj h,List.getElem_append_left h]
theorem vN {l:List Int} {c:Int}:rd (l ++ [c]) (l.length:Int)=c:=by
 rw [Kj (show l.length < (l ++ [c]).length by simp)];simp
theorem rT (T:List (List Bool)) (nm:List Bool) (k s:Nat):GM k (Qs T nm k s):=by
 induction s with
 | zero=>intro o ho;simp [Qs] at ho
 | succ s ih =>
  intro o ho;rw [Xq] at ho;unfold Qs
  by_cases e:o < (Qs T nm k s).length
  ·rw [uN e];exact ih o e
  ·obtain rfl:o=(Qs T nm k s).length:=by rw [Xq] at e ⊢;omega
   rw [vN];unfold xO
   by_cases hs:seen nm (Qs T nm k s).length=true
   ·have lQ:seen nm s=true:=by rw [Xq] at hs;exact hs
    rw [if_pos lQ];have:=D1 (YZ (qe T s) (Qs T nm k s) (Qs T nm k s).length) k k;refine ⟨this.1,?_⟩
    by_cases hk:0 < k
    ·exact this.2.1 hk
    ·obtain rfl:k=0:=by omega
     rw [FU _ 0 (Nat.le_refl _)];omega
   ·have lQ:¬ seen nm s=true:=by rw [Xq] at hs;exact hs
    rw [if_neg lQ];omega
structure FT (row:List Bool) (out:List Int) (m:Nat) (t:List Bool):Prop where
 so:∀ c:Nat,c < t.length→(seen t c=true ↔ YZ row out m c)
theorem FT.start (row:List Bool) (out:List Int) (l:Nat):FT row out 0 (List.replicate l false) :=
 ⟨fun c _=>by rw [Iw];exact ⟨fun h=>(by cases h),fun ⟨o,h,_⟩=>absurd h (Nat.not_lt_zero _)⟩⟩
theorem FT.skip {row:List Bool} {out:List Int} {m:Nat} {t:List Bool} (h:FT row out m t) (hn:¬ (seen row m=true∧rd out (m:Int) ≥ 0)):FT row out (m + 1) t :=
 ⟨fun c hc=>(h.so c hc).trans ⟨fun ⟨o,h1,h2⟩=>⟨o,by omega,h2⟩,fun ⟨o,h1,h2,h3⟩=>by
  by_cases e:o=m
  ·subst e;exact absurd ⟨h2,by omega⟩ hn
  ·exact ⟨o,by omega,h2,h3⟩⟩⟩
theorem FT.take {row:List Bool} {out:List Int} {m:Nat} {t:List Bool} (h:FT row out m t) (hs:seen row m=true) (h0:rd out (m:Int) ≥ 0) (hl:(rd out (m:Int)).toNat < t.length):FT row out (m + 1) (t.set (rd out (m:Int)).toNat true) :=
 ⟨fun c hc=>by
  rw [List.length_set] at hc;rw [Ji hl]
  by_cases e:(rd out (m:Int)).toNat=c
  ·rw [if_pos e];exact ⟨fun _=>⟨m,by omega,hs,by omega⟩,fun _=>rfl⟩
  ·rw [if_neg e,h.so c hc]
   exact ⟨fun ⟨o,h1,h2⟩=>⟨o,by omega,h2⟩,fun ⟨o,h1,h2,h3⟩=>by
    by_cases e2:o=m
    ·subst e2;exact absurd h3 (by omega)
    ·exact ⟨o,by omega,h2,h3⟩⟩⟩
section
variable {row:List Bool} {out:List Int} {k:Nat}
theorem eM {t:List Bool} (hk:k ≤ 12) (ht:t.length=12) (hT:FT row out out.length t):∀ (d c:Nat),c + d=k→Ev (fun q=>mc.l1 q (k:Int) t (c:Int)) (Ov (YZ row out out.length) k d):=by
 intro d
 induction d with
 | zero =>
  intro c hc;obtain rfl:c=k:=by omega
  refine Ev.step (fun q=>by rw [mc.l1]) ?_;exact Ev.neg (by omega) (Ev.now _)
 | succ d ih =>
  intro c hc;refine Ev.step (fun q=>by rw [mc.l1]) ?_;refine Ev.pos (by omega) (Ev.pos (by omega) (Ev.pos (by omega) ?_));rw [Ol,Xd (show c < k by omega) (by omega)]
  by_cases hs:seen t c=true
  ·rw [tL hc ((hT.so c (by omega)).1 hs)];exact Ev.pos hs (ih (c + 1) (by omega))
  ·rw [oH hc (fun h=>hs ((hT.so c (by omega)).2 h))];exact Ev.neg hs (Ev.now _)
theorem fM (hk:k ≤ 12) (hr:out.length ≤ row.length) (ho:GM k out) (hl:out.length ≤ 1048576):∀ (d m:Nat) (t:List Bool),m + d=out.length→t.length=12→FT row out m t→Ev (fun q=>mc.l0 q row out (k:Int) t (m:Int)) (Ov (YZ row out out.length) k k):=by
 intro d
 induction d with
 | zero =>
  intro m t hm ht hT;obtain rfl:m=out.length:=by omega
  refine Ev.step (fun q=>by rw [mc.l0]) ?_;exact Ev.neg (by omega) (eM hk ht hT k 0 (by omega))
 | succ d ih =>
  intro m t hm ht hT;have hml:m < out.length:=by omega
  have hom:=ho m hml;refine Ev.step (fun q=>by rw [mc.l0]) ?_;refine Ev.pos (by omega) (Ev.pos (by omega) (Ev.pos (by omega) ?_));rw [Ol,Xd hml (by omega)]
  by_cases hs:seen row m=true
  ·by_cases h0:rd out (m:Int) ≥ 0
   ·exact Ev.pos hs (Ev.pos h0 (Ev.pos h0 (Ev.pos (by omega) (ih (m + 1) _ (by omega) (by rw [List.length_set];exact ht) (hT.take hs h0 (by omega))))))
   ·exact Ev.pos hs (Ev.neg h0 (ih (m + 1) t (by omega) ht (hT.skip (fun h=>h0 h.2))))
  ·exact Ev.neg hs (ih (m + 1) t (by omega) ht (hT.skip (fun h=>hs h.1)))
theorem UX (hk:k ≤ 12) (hr:out.length ≤ row.length) (ho:GM k out) (hl:out.length ≤ 1048576):Ev (fun q=>mc.f q row out (k:Int)) (Ov (YZ row out out.length) k k):=by
 unfold mc.f;exact Ev.pos (by omega) (fM hk hr ho hl out.length 0 _ (by omega) (by simp) (FT.start row out 12))
end
section
variable {n k:Nat} {T:List (List Bool)} {nm:List Bool}
theorem UF {l0:List Int} {p v:Int} {bs:List Je} (hk:k ≤ 12) (hT:T.length=n) (hr:∀ i,i < n→(qe T i).length=n) (hnm:nm.length=n) (hn:n ≤ 1048576):∀ (d s:Nat),s + d=n→Ev (fun q=>qc.l0 q (k:Int) (Qs T nm k s) T nm (s:Int) l0 p v (n:Int) bs) (Qs T nm k n):=by
 intro d
 induction d with
 | zero =>
  intro s hs;obtain rfl:s=n:=by omega
  refine Ev.step (fun q=>by rw [qc.l0]) ?_;exact Ev.neg (by omega) (Ev.now _)
 | succ d ih =>
  intro s hs;have UU:s < n:=by omega
  have Kt:=Xq T nm k s;have h:=ih (s + 1) (by omega);rw [xH] at h;have he:=UX (row:=qe T s) (out:=Qs T nm k s) hk (by rw [Kt,hr s UU];omega) (rT T nm k s) (by omega);refine Ev.step (fun q=>by rw [qc.l0]) ?_;refine Ev.pos (by omega) (Ev.pos (by omega) (Ev.pos (by omega) ?_));rw [Ol,Xd UU (by omega),eC];unfold xO at h
  by_cases lC:seen nm s=true
  ·rw [if_pos lC] at h;exact Ev.pos lC (Ev.pos (by omega) (Ev.bind he (Ev.pos (by omega) h)))
  ·rw [if_neg lC] at h;exact Ev.neg lC (Ev.pos (by omega) h)
theorem XF {s:Nat} {out:List Int} {R:List Int} {t:List Bool} (hk:k ≤ 12) (UU:s < n) (hnm:nm.length=n) (hn:n ≤ 1048576) (hol:out.length=s) (ht:t.length=k + 1) (ho:GM k out) (hT:FT (qe T s) out out.length t)
  (hK:Ev (fun q=>Bb.l0 q (k:Int) nm (out ++ [xO T nm k s out]) T (n:Int) ((s + 1:Nat):Int)) R):∀ (d c:Nat),c + d=k→Ov (YZ (qe T s) out out.length) k k=Ov (YZ (qe T s) out out.length) k d→Ev (fun q=>Bb.l2 q (k:Int) nm out (s:Int) t (c:Int) T (n:Int) (s:Int)) R:=by
 intro d;unfold xO at hK
 induction d with
 | zero =>
  intro c hc he;obtain rfl:c=k:=by omega
  have hf:¬ seen t c=true:=fun h=>by
   obtain ⟨o,h1,h2,h3⟩:=(hT.so c (by omega)).1 h;have:=ho o h1;omega
  refine Ev.step (fun q=>by rw [Bb.l2]) ?_;rw [Ol,Xd UU (by omega)];refine Ev.pos (by omega) (Ev.pos (by omega) (Ev.neg hf (Ev.pos rfl (Ev.pos (by omega) ?_))));rw [he,show Ov (YZ (qe T s) out out.length) c 0 = -1 from rfl] at hK
  by_cases lC:seen nm s=true
  ·rw [if_pos lC] at hK;exact hK
  ·rw [if_neg lC] at hK;exact hK
 | succ d ih =>
  intro c hc he;refine Ev.step (fun q=>by rw [Bb.l2]) ?_;refine Ev.pos (by omega) (Ev.pos (by omega) ?_);rw [Ol,Ol,Xd (show c < k by omega) (by omega),Xd UU (by omega)]
  by_cases hs:seen t c=true
  ·rw [tL hc ((hT.so c (by omega)).1 hs)] at he;exact Ev.pos hs (ih (c + 1) (by omega) he)
  ·rw [oH hc (fun h=>hs ((hT.so c (by omega)).2 h))] at he;rw [he] at hK;refine Ev.neg hs (Ev.neg (by omega) (Ev.pos (by omega) (Ev.pos (by omega) ?_)))
   by_cases lC:seen nm s=true
   ·rw [if_pos lC] at hK;exact Ev.pos lC (Ev.pos (by omega) hK)
   ·rw [if_neg lC] at hK;exact Ev.neg lC (Ev.pos (by omega) hK)
theorem YF {s:Nat} {out:List Int} {R:List Int} (hk:k ≤ 12) (UU:s < n) (hr:(qe T s).length=n) (hnm:nm.length=n) (hn:n ≤ 1048576) (hol:out.length=s) (ho:GM k out)
  (hK:Ev (fun q=>Bb.l0 q (k:Int) nm (out ++ [xO T nm k s out]) T (n:Int) ((s + 1:Nat):Int)) R):∀ (d m:Nat) (t:List Bool),m + d=out.length→t.length=k + 1→FT (qe T s) out m t→Ev (fun q=>Bb.l1 q (k:Int) nm out (s:Int) (qe T s) t T (n:Int) (s:Int) out (out.length:Int) (m:Int)) R:=by
 intro d
 induction d with
 | zero =>
  intro m t hm ht hT;obtain rfl:m=out.length:=by omega
  refine Ev.step (fun q=>by rw [Bb.l1]) ?_;exact Ev.neg (by omega) (XF hk UU hnm hn hol ht ho hT hK k 0 (by omega) rfl)
 | succ d ih =>
  intro m t hm ht hT;have hml:m < out.length:=by omega
  have hom:=ho m hml;refine Ev.step (fun q=>by rw [Bb.l1]) ?_;refine Ev.pos (by omega) (Ev.pos (by omega) (Ev.pos (by omega) (Ev.pos (by omega) ?_)));rw [Ol,Xd hml (by omega)]
  by_cases hs:seen (qe T s) m=true
  ·by_cases h0:rd out (m:Int) ≥ 0
   ·exact Ev.pos hs (Ev.pos h0 (Ev.pos h0 (Ev.pos (by omega) (ih (m + 1) _ (by omega) (by rw [List.length_set];exact ht) (hT.take hs h0 (by omega))))))
   ·exact Ev.pos hs (Ev.neg h0 (ih (m + 1) t (by omega) ht (hT.skip (fun h=>h0 h.2))))
  ·exact Ev.neg hs (ih (m + 1) t (by omega) ht (hT.skip (fun h=>hs h.1)))
theorem ZF (hk:k ≤ 12) (hT:T.length=n) (hr:∀ i,i < n→(qe T i).length=n) (hnm:nm.length=n) (hn:n ≤ 1048576):∀ (d s:Nat),s + d=n→Ev (fun q=>Bb.l0 q (k:Int) nm (Qs T nm k s) T (n:Int) (s:Int)) (Qs T nm k n):=by
 intro d
 induction d with
 | zero =>
  intro s hs;obtain rfl:s=n:=by omega
  refine Ev.step (fun q=>by rw [Bb.l0]) ?_;exact Ev.neg (by omega) (Ev.now _)
 | succ d ih =>
  intro s hs;have UU:s < n:=by omega
  have Kt:=Xq T nm k s;have h:=ih (s + 1) (by omega);rw [xH] at h;have hw:wrap64 ((k:Int) + 1)=((k + 1:Nat):Int):=by unfold wrap64;omega
  refine Ev.step (fun q=>by rw [Bb.l0]) ?_;rw [eC,hw,Int.toNat_natCast];refine Ev.pos (by omega) (Ev.pos (by omega) (Ev.pos (by omega) (Ev.pos (by omega) (Ev.pos (by omega) ?_))));exact YF hk UU (hr s UU) hnm hn Kt (rT T nm k s) h _ 0 _ (Nat.zero_add _) (by simp) (FT.start _ _ _)
end
theorem dV (l0:List Int) (p v s:Int) (bs:List Je) (k:Int) (h0:l0.length ≤ 1048576) (hl:bs.length ≤ 1048576) (ht:xe bs ≤ 1048576) :
  ∃ r:List Int,Ev (fun q=>qc.f q l0 p v s bs k) r∧Ev (fun q=>Bb.f q l0 p v s bs k) r∧r.length ≤ 1048576:=by
 by_cases hok:Xn l0 p v s bs=true
 ·have hh:=zC (wB hok).1;obtain ⟨n,rfl⟩:∃ n:Nat,s=(n:Int):=⟨s.toNat,by omega⟩;have hO:=C1 hok ht;have hn:=hO.2.1
  by_cases hb:Tl k 0 12=true
  ·have Uj:=hb;unfold Tl at Uj;simp only [Bool.and_eq_true,decide_eq_true_eq] at Uj;obtain ⟨c,rfl⟩:∃ c:Nat,k=(c:Int):=⟨k.toNat,by omega⟩;have hr:∀ i,i < n→(qe (Gp bs n) i).length=n:=fun i hi=>EU hi
   refine ⟨Qs (Gp bs n) (AZ bs n) c n,?_,?_,by rw [Xq];exact hn⟩
   ·unfold qc.f;refine Ev.val (Ev.bind (yz h0 hl ht) (Ev.pos hok (Ev.bind (Ev.here (CF (c:Int) 0 12)) ?_)));rw [hb];refine Ev.step (fun q=>by rw [qc.j0]) ?_;refine Ev.neg (by simp) (Ev.bind (Ev.here (TV hO)) (Ev.bind (Ev.here (RV hO)) ?_));exact UF (by omega) (Nw bs n) hr (DP bs n) hn n 0 (by omega)
   ·unfold Bb.f;refine Ev.bind (xz h0 hl ht) (Ev.pos hok (Ev.bind (Ev.here (dA (c:Int) 0 12)) ?_));rw [hb];refine Ev.step (fun q=>by rw [Bb.j0]) ?_;refine Ev.neg (by simp) (Ev.bind (cO hO l0 p v) (Ev.bind (Ev.here (pW hO)) ?_));rw [Nw];exact ZF (by omega) (Nw bs n) hr (DP bs n) hn n 0 (by omega)
  ·refine ⟨[],?_,?_,Nat.zero_le _⟩
   ·unfold qc.f;refine Ev.val (Ev.bind (yz h0 hl ht) (Ev.pos hok (Ev.bind (Ev.here (CF k 0 12)) ?_)));refine Ev.step (fun q=>by rw [qc.j0]) ?_;exact Ev.pos (by simpa using hb) (Ev.now _)
   ·unfold Bb.f;refine Ev.bind (xz h0 hl ht) (Ev.pos hok (Ev.bind (Ev.here (dA k 0 12)) ?_));refine Ev.step (fun q=>by rw [Bb.j0]) ?_;exact Ev.pos (by simpa using hb) (Ev.now _)
 ·refine ⟨[],?_,?_,Nat.zero_le _⟩
  ·unfold qc.f;refine Ev.val (Ev.bind (yz h0 hl ht) (Ev.neg hok ?_));refine Ev.step (fun q=>by rw [qc.j0]) ?_;exact Ev.pos rfl (Ev.now _)
  ·unfold Bb.f;refine Ev.bind (xz h0 hl ht) (Ev.neg hok ?_);refine Ev.step (fun q=>by rw [Bb.j0]) ?_;exact Ev.pos rfl (Ev.now _)
end Go.Proofs.Ytkigbdceceeenaa.P
end
section
namespace Go.Proofs.Ytkigbdceceeenaa.P
open Go.RowKit Go.Proofs.Ma.Tb Go.Proofs.Ma.Gd Go.Proofs.Ma.De
set_option linter.unusedVariables false
set_option linter.unusedSimpArgs false
attribute [local go_sem] Rh si wj Nj qh oh zi ri
def ye.l0:Nat→List Int→Int→Int→Option (Int × List Int)
 | 0,_,_,_=>none
 | k + 1,x0,x1,x5=>if x5 < (x0.length:Int) then (if 0 ≤ x5 then (ye.l0 k (x0.set (x5:Int).toNat x1) (wrap64 (x1 + 1)) (wrap64 (x5 + 1))) else (none)) else (some (x1,x0))
def ye.f (k:Nat) (l0:List Int) (a1:Int):Option (Int × List Int):=ye.l0 k l0 a1 0
theorem ye.calls (k:Nat) (Yk:Nat→Prop) (Bg:Value) (l0:List Int) (a1:Int) (r1:Int) (r2:List Int) (w0 w:World) (hB:Below w0.heap.size w0 w) (Lk:Kd.R (Kd.int .i64) 3 w w0.heap.size Yk Bg l0) (h:ye.f k l0 a1=some (r1,r2)) :
  Calls Try.prog 19 #[Bg,.int .i64 a1] w fun e w'=>e = .returned (.int .i64 r1)∧Kd.R (Kd.int .i64) 3 w' w0.heap.size (fun k_=>(Yk k_ ∨ w.heap.size ≤ k_)) Bg r2∧Below w0.heap.size w0 w'∧Kept w w' (fun k_=>Yk k_):=by
 have QH:=ga.mk (show Kd.R (Kd.int .i64) 3 w w0.heap.size (fun k_=>(Yk k_ ∨ w.heap.size ≤ k_)) Bg l0 from Kd.xd Lk (fun k_ hk=>(.inl hk)));have HK:=ga.mk (Kept.refl w (fun k_=>Yk k_));have HW0:=ga.mk hB.size;have HB:=ga.mk hB;clear hB;have H:(ye.l0 k l0 a1 0)=some (r1,r2):=h;clear h;have H':=ga.mk H;clear H;go_enter Try.func19,Try.ntmps19;go_wp2
 go_loopg [1,5] k (fun kq v1 v5 w'=>∃ (Ue:List Int) (Ie:Int) (Ka:Int),v1 = .int .i64 Ie∧v5 = .int .i64 Ka∧ga (ye.l0 kq Ue Ie Ka=some (r1,r2))∧ga (kq ≤ k)∧ga (Kd.R (Kd.int .i64) 3 w' w0.heap.size (fun k_=>(Yk k_ ∨ w.heap.size ≤ k_)) Bg Ue)∧ga (Kept w w' (fun k_=>Yk k_))∧ga (Below w0.heap.size w0 w'))
 case atStart=>exact ⟨(l0),(a1),(0),AaH,AaH,H',⟨Nat.le_refl _⟩,⟨taI⟩,⟨XaH⟩,⟨BaH⟩⟩
 case round =>
  clear H'
  try clear c1
  try clear p2
  (try clear HA);(try clear wg);(try clear bf);(try clear HK);(try clear HB);obtain ⟨Ue,Ie,Ka,rfl,rfl,HA,wg,bf,HK,HB⟩:=hrel;cases gk with
  | zero=>exact absurd HA.out (by simp [ye.l0])
  | succ k1 =>
   have H:=HA.out;clear HA;simp only [ye.l0] at H
   by_cases c3:Ka < (Ue.length:Int)
   ·rw [if_pos c3] at H;have Xh:decide (Ka < (Ue.length:Int))=true:=decide_eq_true c3;clear c3
    by_cases c4:0 ≤ Ka
    ·rw [if_pos c4] at H;have jk:decide (0 ≤ Ka)=true:=decide_eq_true c4;clear c4;obtain ⟨Yf,Hf⟩:∃ y_:List Int,y_=(Ue.set (Ka:Int).toNat Ie):=⟨_,rfl⟩;replace H:(ye.l0 k1 Yf (wrap64 (Ie + 1)) (wrap64 (Ka + 1)))=some (r1,r2):=by first|(rw [Hf];with_reducible exact H)|(have Ed:=(Option.bind_some _ _).symm.trans H;rw [Hf];with_reducible exact Ed)|(have Ed:=(Option.bind_some _ _).symm.trans H;with_reducible exact Ed)|with_reducible exact H|(rw [Hf];exact H)|exact H
     have Tk:=ga.mk Hf;clear Hf;have H':=ga.mk H;clear H;obtain ⟨Ao6,co6,eo6⟩:=Kd.od bf.out;subst eo6;have p5:0 ≤ (Ka:Int):=Ua;have q5:(Ka:Int) < ((Ue.length:Int):Int):=Ua;obtain ⟨Gg,co5,eo5,gb5,gl5,cl5,l_⟩:=Kd.Xj bf.out (by omega);(first|cases eo5|(injection eo5 with qj sw tw;(first|subst qj|(injection qj with qj;subst qj));subst tw;clear sw));have F7:=ga.mk gb5;have GG5:=ga.mk l_;clear gb5 gl5 l_;have Xak:=ga.mk (show (Yk Gg ∨ w.heap.size ≤ Gg) from (bf.out.1 _ rfl));obtain ⟨zae,Sag⟩:=Kd.Yh 0 bf.out (Ka:Int) p5 q5;replace p5:=eq_true p5;replace q5:=eq_true q5;have HP7:=Kd.Ml bf.out (Ka:Int) Ie;go_wp2_with (first|((with_reducible refine Ke (t:=3) (p:=15) rfl ?_);refine me (t:=3) (p:=15) (v:=?vay) (w1:=(wr.setCell ⟨Gg,(Ka:Int).toNat,none⟩ (.int .i64 Ie))) ?hg ?ho ?hn ?hr ?_;(case ho=>rfl);(case hg=>rfl);(case hn=>rfl);(case hr=>first|(go_simp;done)|(go_simp;rfl));intro w8 hw;have hg:wr.grownBy w8 (some Gg):=(by rw [hw];exact HP7.2);have Il:Kd.R (Kd.int .i64) 3 w8 w0.heap.size (fun k_=>(Yk k_ ∨ w.heap.size ≤ k_)) (.slice (some ⟨Gg,0,none⟩) Ue.length co6) Yf:=(by rw [hw,Tk.out];exact HP7.1);clear HP7;have Eb:=ga.mk (Il);have Fb:=ga.mk ((by rw [hw];exact ua (HB.out) F7.out:Below w0.heap.size w0 w8));have Ob:=ga.mk (Kept.Ki (S:=(fun k_=>Yk k_)) hg IaH (fun k_ e_=>(bf.out.1 k_ e_)));clear bf HB HK;have bf:=Eb;have HB:=Fb;have HK:=Ob;clear Eb Fb Ob hg hw Il))
     go_roundg k1
     case measure=>have:=wg.out;omega
     case rel=>exact ⟨(Yf),(wrap64 (Ie + 1)),(wrap64 (Ka + 1)),AaH,AaH,H',⟨by have:=wg.out;omega⟩,⟨caI⟩,⟨XaH⟩,⟨BaH⟩⟩
    ·rw [if_neg c4] at H;exact absurd H (by simp)
   ·rw [if_neg c3] at H;have Xh:decide (Ka < (Ue.length:Int))=false:=decide_eq_false c3;clear c3;simp only [Option.some.injEq,Prod.mk.injEq] at H;obtain ⟨rfl,rfl⟩:=H;obtain ⟨Ao9,co9,eo9⟩:=Kd.od bf.out;subst eo9;go_wp2;go_ret;exact ⟨by first|rfl|(simp [Pa,Oa] <;> rfl)|(simp [*,Pa,Oa] <;> rfl),caI,BaH,XaH⟩
def zd.l0:Nat→Int→ByteArray→Option (ByteArray)
 | 0,_,_=>none
 | k + 1,x0,x3=>if x0 > 0 then ((some (([(wrap64 (48 + (Int.tmod x0 10))) % 256]:List Int):List Int)).bind fun Yf=>(if (strOfNums Yf).size + x3.size ≤ 9223372036854775807 then (zd.l0 k (wrap64 (Int.tdiv x0 10)) ((strOfNums Yf) ++ x3)) else (none))) else (if 1 + x3.size ≤ 9223372036854775807 then (some ((⟨#[109]⟩:ByteArray) ++ x3)) else (none))
def zd.f (k:Nat) (a0:Int):Option (ByteArray):=if a0 ≤ 0 then (some (⟨#[109,48]⟩:ByteArray)) else (zd.l0 k a0 (⟨#[]⟩:ByteArray))
theorem zd.calls (k:Nat) (a0:Int) (r:ByteArray) (w:World) (h:zd.f k a0=some r) :
  Calls Try.prog 106 #[.int .i64 a0] w fun e w'=>e = .returned (.string r)∧Below w.heap.size w w':=by
 have HB:=ga.mk (Below.refl w.heap.size w);have H:(if a0 ≤ 0 then (some (⟨#[109,48]⟩:ByteArray)) else (zd.l0 k a0 (⟨#[]⟩:ByteArray)))=some r:=h;clear h
 by_cases c2:a0 ≤ 0
 ·rw [if_pos c2] at H;have vt:decide (a0 ≤ 0)=true:=decide_eq_true c2;clear c2;obtain rfl:=Option.some.inj H;go_enter Try.func106,Try.ntmps106;go_wp2;go_ret;exact ⟨by first|rfl|(simp [Pa,Oa] <;> rfl)|(simp [*,Pa,Oa] <;> rfl),BaH⟩
 ·rw [if_neg c2] at H;have vt:decide (a0 ≤ 0)=false:=decide_eq_false c2;clear c2;have H':=ga.mk H;clear H;go_enter Try.func106,Try.ntmps106;go_wp2
  go_loopg [0,3] k (fun kq v0 v3 w'=>∃ (Ue:Int) (ie:ByteArray),v0 = .int .i64 Ue∧v3 = .string ie∧ga (zd.l0 kq Ue ie=some r)∧ga (kq ≤ k)∧ga (Below w.heap.size w w'))
  case atStart=>exact ⟨(a0),((⟨#[]⟩:ByteArray)),AaH,AaH,H',⟨Nat.le_refl _⟩,⟨BaH⟩⟩
  case round =>
   clear H'
   try clear c1
   try clear c2
   try clear vt
   try clear p2
   (try clear HA);(try clear wg);(try clear HB);obtain ⟨Ue,ie,rfl,rfl,HA,wg,HB⟩:=hrel;cases gk with
   | zero=>exact absurd HA.out (by simp [zd.l0])
   | succ k1 =>
    have H:=HA.out;clear HA;simp only [zd.l0] at H
    by_cases c3:Ue > 0
    ·rw [if_pos c3] at H;have Xh:decide (0 < Ue)=true:=decide_eq_true c3;clear c3;obtain ⟨Yf,Hf⟩:∃ y_:List Int,y_=(([(wrap64 (48 + (Int.tmod Ue 10))) % 256]:List Int)):=⟨_,rfl⟩;replace H:(if (strOfNums Yf).size + ie.size ≤ 9223372036854775807 then (zd.l0 k1 (wrap64 (Int.tdiv Ue 10)) ((strOfNums Yf) ++ ie)) else (none))=some r:=by first|(rw [Hf];with_reducible exact H)|(have Ed:=(Option.bind_some _ _).symm.trans H;rw [Hf];with_reducible exact Ed)|(have Ed:=(Option.bind_some _ _).symm.trans H;with_reducible exact Ed)|with_reducible exact H|(rw [Hf];exact H)|exact H
     have Tk:=ga.mk Hf;clear Hf
     by_cases c4:(strOfNums Yf).size + ie.size ≤ 9223372036854775807
     ·rw [if_pos c4] at H;have jk:=eq_true c4;have zO:decide ((strOfNums Yf).size + ie.size ≤ 9223372036854775807)=true:=decide_eq_true c4
      try have YaE:(9223372036854775807 < (strOfNums Yf).size + ie.size)=False:=eq_false (Nat.not_lt.2 c4)
      have H':=ga.mk H;clear H;go_wp2_with (first|((with_reducible refine Ab (N:=12) rfl ?_);refine Kd.Hj (Kd.int .u8) _ 5 ?hg (N:=12) ?hd (xs:=([(wrap64 (48 + (Int.tmod Ue 10))) % 256]:List Int)) (inner:=[.int .u8 ((wrap64 (48 + (Int.tmod Ue 10))) % 256)]) (ok:=fun _=>True) (Dh:=fun _=>True) ?hr ?hp (fun _ hk=>hk) trivial (Below.refl _ _) (Nat.le_refl _) (by simp) ?_;(case hd=>rfl);(case hg=>rfl);(case hr=>first|(go_simp;done)|(go_simp;rfl));(case hp=>exact (Pd.one (show Kd.M (Kd.int .u8) _ _ _ ((wrap64 (48 + (Int.tmod Ue 10))) % 256) [.int .u8 ((wrap64 (48 + (Int.tmod Ue 10))) % 256)] from rfl) (Pd.none _ _)));intro fF w5 NA hb gm Pe;clear gm Pe;(first|rw [← Tk.out] at NA|(simp only [Int.reduceToNat] at NA;rw [← Tk.out] at NA));have Eb:=ga.mk (Kd.Nd NA (La uaH));have Fb:=ga.mk (Ra uaH hb);clear HB;have nr:=Eb;have HB:=Fb;clear Eb Fb hb NA;have faE:=EN (P:=Try.prog) Try.underlying140 Try.underlying5 Try.underlying9 (Kd.rF nr.out)))
      go_roundg k1
      case measure=>have:=wg.out;omega
      case rel=>exact ⟨(wrap64 (Int.tdiv Ue 10)),((strOfNums Yf) ++ ie),AaH,AaH,H',⟨by have:=wg.out;omega⟩,⟨BaH⟩⟩
     ·rw [if_neg c4] at H;exact absurd H (by simp)
    ·rw [if_neg c3] at H;have Xh:decide (0 < Ue)=false:=decide_eq_false c3;clear c3
     by_cases c8:1 + ie.size ≤ 9223372036854775807
     ·rw [if_pos c8] at H;have Zq:=eq_true c8;have pM:decide (1 + ie.size ≤ 9223372036854775807)=true:=decide_eq_true c8
      try have kaj:(9223372036854775807 < 1 + ie.size)=False:=eq_false (Nat.not_lt.2 c8)
      obtain rfl:=Option.some.inj H;go_wp2;go_ret;exact ⟨by first|rfl|(simp [Pa,Oa] <;> rfl)|(simp [*,Pa,Oa] <;> rfl),BaH⟩
     ·rw [if_neg c8] at H;exact absurd H (by simp)
end Go.Proofs.Ytkigbdceceeenaa.P
end
