import Derived.Test.YtkigbdceceeenaaQColors1
import Derived.Test.YtkigbdceceeenaaQColors8
import Derived.Shelf.Abstract
import Derived.Test.YtkigbdceceeenaaQColors7
import Derived.Test.YtkigbdceceeenaaQColors4
import Derived.Test.YtkigbdceceeenaaQColors3
import Derived.Test.YtkigbdceceeenaaQColors2
import Derived.Outline
import Derived.RegionTactic
import Derived.StillTailTactics
import Derived.Test.YtkigbdceceeenaaQColors6
set_option maxHeartbeats 8000000
set_option maxRecDepth 100000
section
namespace Go.Proofs.Ytkigbdceceeenaa.P
open Go.RowKit Go.Proofs.Ma.Tb Go.Proofs.Ma.Gd Go.Proofs.Ma.De
set_option linter.unusedVariables false
set_option linter.unusedSimpArgs false
attribute [local go_sem] Rh si wj Nj qh oh zi ri
def Ef.l0:Nat→List Bool→List (He)→Int→Option (List Bool)
 | 0,_,_,_=>none
 | k + 1,x7,x8,x9=>if x9 ≥ 0 then (if 0 ≤ x9 then (if x9 < (x8.length:Int) then ((Zd.f k x7 ((Ea x8 x9).f0) ((Ea x8 x9).f1) ((Ea x8 x9).f2) ((Ea x8 x9).f3) ((Ea x8 x9).f4) ((Ea x8 x9).f5) ((Ea x8 x9).f6)).bind fun t107=>(Ef.l0 k t107 x8 (wrap64 (x9 - 1)))) else (none)) else (none)) else (some x7)
def Ef.f (k:Nat) (Qa:List Int) (Ja:Int) (Ga:Int) (Ia:Int) (Aa:List (Je)) (l1:List (List Bool)) (a2:Int):Option (List Bool):=(Ni.f Qa Ja Ga Ia Aa l1 a2).bind fun t102=>(if 0 ≤ a2 then (if a2 < (Aa.length:Int) then (Ef.l0 k t102 ((za Aa a2).f0) (wrap64 ((((za Aa a2).f0).length:Int) - 1))) else (none)) else (none))
theorem Ef.calls (k:Nat) (Ya:Option Addr) (Za:Nat) (Qa:List Int) (Ja:Int) (Ga:Int) (Ia:Int) (Mb:Option Addr) (Cb:Nat) (Aa:List (Je)) (A1:Option Addr) (c1:Nat) (l1:List (List Bool)) (a2:Int) (r:List Bool) (w:World) (Ud:Kd.C (Kd.int .i64) w Ya Qa.length Qa) (Rd:Qa.length ≤ Za) (yf:Kd.C Fq w Mb Aa.length Aa) (kf:Aa.length ≤ Cb) (Zs:Kd.C (Kd.slice 4 Kd.bool) w A1 l1.length l1) (xm:l1.length ≤ c1) (h:Ef.f k Qa Ja Ga Ia Aa l1 a2=some r) :
  Calls Try.prog 49 #[.agg #[.slice Ya Qa.length Za,.int .i64 Ja,.int .i64 Ga,.int .i64 Ia,.slice Mb Aa.length Cb],.slice A1 l1.length c1,.int .i64 a2] w fun e w'=>∃ Nl:Value,e = .returned (Nl)∧Kd.R Kd.bool 4 w' w.heap.size (fun _=>True) Nl r∧Below w.heap.size w w':=by
 have GF:=Try.underlying30;have MA:=Try.underlying65;have Ze:=ga.mk Ud;have Af:=ga.mk Rd;clear Ud Rd;have xg:=ga.mk yf;have ki:=ga.mk kf;clear yf kf;have NB:=ga.mk Zs;have jU:=ga.mk xm;clear Zs xm;have HB:=ga.mk (Below.refl w.heap.size w);have H:((Ni.f Qa Ja Ga Ia Aa l1 a2).bind fun t102=>(if 0 ≤ a2 then (if a2 < (Aa.length:Int) then (Ef.l0 k t102 ((za Aa a2).f0) (wrap64 ((((za Aa a2).f0).length:Int) - 1))) else (none)) else (none)))=some r:=h;clear h;replace H:=Option.bind_eq_some_iff.mp H;obtain ⟨t102,x_,H⟩:=H;replace H:(if 0 ≤ a2 then (if a2 < (Aa.length:Int) then (Ef.l0 k t102 ((za Aa a2).f0) (wrap64 ((((za Aa a2).f0).length:Int) - 1))) else (none)) else (none))=some r:=H;have A4:=ga.mk x_;clear x_
 by_cases c5:0 ≤ a2
 ·rw [if_pos c5] at H;have fk:decide (0 ≤ a2)=true:=decide_eq_true c5;clear c5
  by_cases c6:a2 < (Aa.length:Int)
  ·rw [if_pos c6] at H;have gp:decide (a2 < (Aa.length:Int))=true:=decide_eq_true c6;clear c6;have H':=ga.mk H;clear H;go_enter Try.func49,Try.ntmps49;go_wp2_with (first|((with_reducible refine Ab (N:=3) rfl ?_);refine Lb ?hg (N:=3) ?hd (cs:=#[.slice Ya Qa.length Za,.int .i64 Ja,.int .i64 Ga,.int .i64 Ia,.slice Mb Aa.length Cb]) (t:=30) ?hr ?_;(case hd=>rfl);(case hg=>rfl);(case hr=>first|(go_simp;done)|(go_simp;rfl));intro ya hg w7 Sb hb;have Eb:=ga.mk (Ra uaH hb);have Fb:=ga.mk (Sb);have Ob:=ga.mk ((by rw [hg];exact (La uaH):w.heap.size ≤ ya));have Ec:=ga.mk ((by rw [hg];exact (La uaH):w.heap.size ≤ ya));clear HB;have HB:=Eb;have oa:=Fb;have Vd:=Ob;have Ta:=Ec;clear Eb Fb Ob Ec hb Sb hg;have Rn:w7.cell? ⟨ya,0,none⟩=some (.slice Ya Qa.length Za):=(ia oa.out 0).trans rfl;have Qn:w7.cell? ⟨ya,1,none⟩=some (.int .i64 Ja):=(ia oa.out 1).trans rfl;have Pn:w7.cell? ⟨ya,2,none⟩=some (.int .i64 Ga):=(ia oa.out 2).trans rfl;have Nn:w7.cell? ⟨ya,3,none⟩=some (.int .i64 Ia):=(ia oa.out 3).trans rfl;have Mn:w7.cell? ⟨ya,4,none⟩=some (.slice Mb Aa.length Cb):=(ia oa.out 4).trans rfl;have sn:=aa oa.out 0;have qn:=aa oa.out 1;have pn:=aa oa.out 2;have kn:=aa oa.out 3;have jn:=aa oa.out 4)|((with_reducible refine yb (f:=81) rfl ?_);refine Pc (some 13) rfl rfl Try.func81 (by kernel_rfl) rfl #[.agg #[.slice Ya Qa.length Za,.int .i64 Ja,.int .i64 Ga,.int .i64 Ia,.slice Mb Aa.length Cb],.slice A1 l1.length c1,.int .i64 a2] rfl waH ?_;(with_reducible refine (Ni.calls _ _ Qa Ja Ga Ia _ _ Aa _ _ l1 a2 t102 _ ?Uc ?Tc ?we ?ue ?Vz ?Uz A4.out).mono ?_);(case Uc=>repeat (first|exact (Kd.Nb Ze.out HB.out)|(with_reducible refine Kd.dc ?_ _)|(with_reducible refine Kd.Zb ?_ _)|(with_reducible refine Kd.Fc ?_)));(case Tc=>exact Af.out);(case we=>repeat (first|exact (Kd.Nb xg.out HB.out)|(with_reducible refine Kd.dc ?_ _)|(with_reducible refine Kd.Zb ?_ _)|(with_reducible refine Kd.Fc ?_)));(case ue=>exact ki.out);(case Vz=>repeat (first|exact (Kd.Nb NB.out HB.out)|(with_reducible refine Kd.dc ?_ _)|(with_reducible refine Kd.Zb ?_ _)|(with_reducible refine Kd.Fc ?_)));(case Uz=>exact jU.out);rintro e w9 ⟨wm,rfl,Lk,hb⟩;refine ⟨_,rfl,?_⟩;have Eb:=ga.mk (Kd.Nd Lk (La taH));have Fb:=ga.mk (Va (g:=ya) (o:=.cells #[.slice Ya Qa.length Za,.int .i64 Ja,.int .i64 Ga,.int .i64 Ia,.slice Mb Aa.length Cb] 30 (0,0)) vaH hb);have Ob:=ga.mk (Ra taH hb);clear oa HB;have Sg:=Eb;have oa:=Fb;have HB:=Ob;clear Eb Fb Ob;(try clear hb);(try clear Uj);(try clear hk);(try clear hi);(try clear Lk);have Nh:w9.cell? ⟨ya,0,none⟩=some (.slice Ya Qa.length Za):=(ia oa.out 0).trans rfl;have Mh:w9.cell? ⟨ya,1,none⟩=some (.int .i64 Ja):=(ia oa.out 1).trans rfl;have Lh:w9.cell? ⟨ya,2,none⟩=some (.int .i64 Ga):=(ia oa.out 2).trans rfl;have Kh:w9.cell? ⟨ya,3,none⟩=some (.int .i64 Ia):=(ia oa.out 3).trans rfl;have Jh:w9.cell? ⟨ya,4,none⟩=some (.slice Mb Aa.length Cb):=(ia oa.out 4).trans rfl;have Ih:=aa oa.out 0;have Hh:=aa oa.out 1;have Gh:=aa oa.out 2;have Fh:=aa oa.out 3;have Eh:=aa oa.out 4;have Mj:0 ≤ (a2:Int):=Ua;have Lj:a2 < (Aa.length:Int):=Ua;obtain ⟨wh,Bh,pg,uw,Xf,Si,Ri,Qi,Oi,Ti,Ui⟩:=sj xg.out a2 Mj Lj;cases uw;replace Xf:=Sa HB.out Xf;replace Si:=Sa HB.out Si;replace Ri:=Sa HB.out Ri;replace Qi:=Sa HB.out Qi;replace Oi:=Sa HB.out Oi;have fo:=ga.mk Ui;have Cv:=ga.mk Ti;clear Ui Ti;replace Mj:=eq_true Mj;replace Lj:=eq_true Lj))
   go_loopg [9] k (fun kq v9 w'=>∃ (Fj:List Bool) (ah:Int),v9 = .int .i64 ah∧ga (Ef.l0 kq Fj ((za Aa a2).f0) ah=some r)∧ga (kq ≤ k)∧ga (Kd.R Kd.bool 4 w' w.heap.size (fun _=>True) wm Fj)∧ga (w'.heap[ya]? = some (.cells #[(.slice Ya Qa.length Za),.int .i64 Ja,.int .i64 Ga,.int .i64 Ia,(.slice (some wh) Aa.length Cb)] 30 (0,0)))∧ga (Below w.heap.size w w'))
   case atStart=>exact ⟨(t102),(wrap64 ((((za Aa a2).f0).length:Int) - 1)),AaH,H',⟨Nat.le_refl _⟩,⟨SaH⟩,⟨zaH⟩,⟨xaH⟩⟩
   case round =>
    clear H'
    try clear c1
    try clear p1
    try clear q1
    try clear hx1
    try clear p2
    try clear c4
    try clear c5
    try clear fk
    try clear c6
    try clear gp
    try clear p6
    try clear c8
    try clear Ts
    try clear fI
    try clear cI
    try clear MW
    try clear Nh
    try clear Mh
    try clear Lh
    try clear Kh
    try clear Jh
    try clear Rn
    try clear Qn
    try clear Pn
    try clear Nn
    try clear Mn
    try clear Ih
    try clear Hh
    try clear Gh
    try clear Fh
    try clear Eh
    try clear sn
    try clear qn
    try clear pn
    try clear kn
    try clear jn
    try clear Xf
    try clear Si
    try clear Ri
    try clear Qi
    try clear Oi
    try clear Mj
    try clear Lj
    (try clear HA);(try clear wg);(try clear yg);(try clear oa);(try clear HB);obtain ⟨Fj,ah,rfl,HA,wg,yg,oa,HB⟩:=hrel;cases gk with
    | zero=>exact absurd HA.out (by simp [Ef.l0])
    | succ k1 =>
     have H:=HA.out;clear HA;simp only [Ef.l0] at H
     by_cases zB:ah ≥ 0
     ·rw [if_pos zB] at H;have vM:decide (0 ≤ ah)=true:=decide_eq_true zB;clear zB
      by_cases Ss:0 ≤ ah
      ·rw [if_pos Ss] at H;have EH:decide (0 ≤ ah)=true:=decide_eq_true Ss;clear Ss
       by_cases KD:ah < (((za Aa a2).f0).length:Int)
       ·rw [if_pos KD] at H;have j9:decide (ah < (((za Aa a2).f0).length:Int))=true:=decide_eq_true KD;clear KD;replace H:=Option.bind_eq_some_iff.mp H;obtain ⟨t107,xG,H⟩:=H;replace H:(Ef.l0 k1 t107 ((za Aa a2).f0) (wrap64 (ah - 1)))=some r:=H;have A14:=ga.mk xG;clear xG;have H':=ga.mk H;clear H;have rL:0 ≤ (ah:Int):=Ua;have pL:ah < (((za Aa a2).f0).length:Int):=Ua;obtain ⟨o9,xab,Qw,ZP,YP,XP,VP,TP,SP⟩:=jm fo.out ah rL pL;cases xab;replace Qw:=Sa HB.out Qw;replace ZP:=Sa HB.out ZP;replace YP:=Sa HB.out YP;replace XP:=Sa HB.out XP;replace VP:=Sa HB.out VP;replace TP:=Sa HB.out TP;replace SP:=Sa HB.out SP;replace rL:=eq_true rL;replace pL:=eq_true pL;obtain ⟨uad,dY,V5⟩:=Kd.od yg.out;subst V5;go_wp2_with (first|((with_reducible refine yb (f:=79) rfl ?_);refine Pc (some 32) rfl rfl Try.func79 (by kernel_rfl) rfl #[.slice uad Fj.length dY,.agg #[.int .i64 ((Ea ((za Aa a2).f0) ah).f0),.int .i64 ((Ea ((za Aa a2).f0) ah).f1),.int .i64 ((Ea ((za Aa a2).f0) ah).f2),.int .i64 ((Ea ((za Aa a2).f0) ah).f3),.int .i64 ((Ea ((za Aa a2).f0) ah).f4),.int .i64 ((Ea ((za Aa a2).f0) ah).f5),.string ((Ea ((za Aa a2).f0) ah).f6)]] rfl waH ?_;(with_reducible refine (Zd.calls k1 (fun k_=>some k_=(.slice uad Fj.length dY:Value).ownBlock) (.slice uad Fj.length dY) Fj ((Ea ((za Aa a2).f0) ah).f0) ((Ea ((za Aa a2).f0) ah).f1) ((Ea ((za Aa a2).f0) ah).f2) ((Ea ((za Aa a2).f0) ah).f3) ((Ea ((za Aa a2).f0) ah).f4) ((Ea ((za Aa a2).f0) ah).f5) ((Ea ((za Aa a2).f0) ah).f6) t107 w _ ?Uc ?Tc A14.out).mono ?_);(case Uc=>repeat (first|(with_reducible first|exact HB.out|apply qa|apply ja|apply ta|refine ua ?_ Ta.out)|exact HB.out));(case Tc=>exact Kd.Fy rfl yg.out);rintro e Hz ⟨rfl,hy0,hb,hkp⟩;refine ⟨_,rfl,?_⟩;have Eb:=ga.mk (Kd.KY rfl hy0 (fun k_ e_=>yg.out.1 k_ e_));have Fb:=ga.mk (Ve vaH hkp (fun hs_=>(fun e_=>(Kd.tj yg.out oa.out (by decide)) e_) hs_));have Ob:=ga.mk (hb);clear yg oa HB;have yg:=Eb;have oa:=Fb;have HB:=Ob;clear Eb Fb Ob;(try clear hb);(try clear hkp);(try clear hy0)))
        go_roundg k1
        case measure=>have:=wg.out;omega
        case rel=>exact ⟨(t107),(wrap64 (ah - 1)),AaH,H',⟨by have:=wg.out;omega⟩,⟨RaH⟩,⟨zaH⟩,⟨xaH⟩⟩
       ·rw [if_neg KD] at H;exact absurd H (by simp)
      ·rw [if_neg Ss] at H;exact absurd H (by simp)
     ·rw [if_neg zB] at H;have vM:decide (0 ≤ ah)=false:=decide_eq_false zB;clear zB;obtain rfl:=Option.some.inj H;go_wp2;go_ret;exact ⟨_,by first|rfl|(simp [Pa,Oa] <;> rfl)|(simp [*,Pa,Oa] <;> rfl),RaH,xaH⟩
  ·rw [if_neg c6] at H;exact absurd H (by simp)
 ·rw [if_neg c5] at H;exact absurd H (by simp)
theorem NT {α:Type} (d:Kd α) (e:Nat) (w:World) (base:Nat) (h:base ≤ w.heap.size):d.R e (w.alloc (.cells #[] e (0,0))) base (fun _=>True) (.slice (some ⟨w.heap.size,0,none⟩) 0 0) []:=by
 refine ⟨fun _ _=>trivial,[],?_,⟨by simp,fun i p hp=>by simp at hp⟩⟩;have h2:=World.ownsRow_lit (base:=base) (e:=e) (size:=d.sz) w #[] 0 h (by simp [maxLen]) (by simp)
 simpa using h2
theorem oN {α:Type} {d:Kd α} {e B:Nat} {ok:Nat→Prop} {W w':World} {v:Value} {xs:List α} (h:d.R e w' W.heap.size ok v xs) (hB:B ≤ W.heap.size):d.R e w' B (fun k=>W.heap.size ≤ k∧k < w'.heap.size) v xs :=
 Kd.Nd (Kd.xd (Kd.ug h) (fun _ hk=>⟨hk.2.1,hk.2.2.1⟩)) hB
theorem Q_ {α:Type} {d:Kd α} {e B:Nat} {ok:Nat→Prop} {W w':World} {v:Value} {xs:List α} (h:Kd.S d e w' W.heap.size ok v xs) (hB:B ≤ W.heap.size):Kd.S d e w' B (fun k=>W.heap.size ≤ k∧k < w'.heap.size) v xs :=
 Kd.Ey (Kd.Ah (Kd.zv h) (fun _ hk=>⟨hk.2.1,hk.2.2.1⟩)) hB
theorem cac {α:Type} {d:Kd α} {et e base g n cap i:Nat} {W:World} {ok YM:Nat→Prop} {D:List (List α)} {v:Value} {xs:List α} (h:Kd.S (Kd.slice et d) e W base (fun k=>ok k∧¬ YM k) (.slice (some ⟨g,0,none⟩) n cap) D) (hg:∀ k,YM k→ok k) (hi:i < n) (hx:Kd.R d et W base YM v xs) :
  Kd.S (Kd.slice et d) e (W.setCell ⟨g,i,none⟩ v) base ok (.slice (some ⟨g,0,none⟩) n cap) (D.set i xs)∧W.grownBy (W.setCell ⟨g,i,none⟩ v) (some g):=by
 obtain ⟨mo,c,Kt,hM,Ly,hcf,mC,hH⟩:=Kd.WC h ([]:List α) (i:Int) (by omega) (by omega);have hH2:=Kd.YY hH hg;have oai:c.length=1:=Kt
 obtain ⟨u,rfl⟩:∃ u,c=[u]:=by
  rcases c with _|⟨u,_|⟨u2,c⟩⟩
  ·simp at oai
  ·exact ⟨u,rfl⟩
  ·simp at oai
 have hs:=Kd.bac (d:=Kd.slice et d) hH2 (by omega) (by omega) (seg:=[v]) (j:=0) (show 0 + 1 ≤ 1 from by decide) (x':=xs) (Dh:=YM) (show (Kd.slice et d).M W base YM xs [v] from ⟨v,rfl,hx⟩) (fun k hk=>Or.inr hk);rw [Int.toNat_natCast,show i * (Kd.slice et d).sz + 0=i from by show i * 1 + 0=i;omega] at hs;exact hs
theorem GY {α:Type} {enc:α→Value} {h1:∀ x,(enc x).oneCell' = true} {et e base g n cap i s:Nat} {W:World} {ok:Nat→Prop} {D:List (List α)} (z:α) (h:Kd.S (Kd.slice et (Kd.scalar enc h1)) e W base ok (.slice (some ⟨g,0,none⟩) n cap) D) (hi:i < n) (hs:s < (D.getD i []).length) :
  ∃ (gi c:Nat),W.cell? ⟨g,i,none⟩=some (.slice (some ⟨gi,0,none⟩) (D.getD i []).length c)∧ok gi∧W.cell? ⟨gi,s,none⟩=some (enc ((D.getD i []).getD s z))∧W.frozen? ⟨gi,s,none⟩=false ∧
   ∀ x,Kd.S (Kd.slice et (Kd.scalar enc h1)) e (W.setCell ⟨gi,s,none⟩ (enc x)) base ok (.slice (some ⟨g,0,none⟩) n cap) (D.set i ((D.getD i []).set s x))∧W.grownBy (W.setCell ⟨gi,s,none⟩ (enc x)) (some gi):=by
 obtain ⟨mo,c,Kt,hM,Ly,hcf,mC,hH⟩:=Kd.WC h ([]:List α) (i:Int) (by omega) (by omega);rw [Int.toNat_natCast] at hM Ly hcf;obtain ⟨v,rfl,hR⟩:=hM;obtain ⟨gi,cc,rfl,-⟩:=Kd.Xj hR (by omega);have hb:=hR.1 gi rfl;have hc0:=Ly 0 _ rfl;rw [show i * (Kd.slice et (Kd.scalar enc h1)).sz + 0=i from by show i * 1 + 0=i;omega] at hc0;obtain ⟨e1,e2⟩:=Kd.Yh z hR (s:Int) (by omega) (by omega);rw [Int.toNat_natCast] at e1 e2;refine ⟨gi,cc,hc0,(mC gi hb).1,e1,e2,fun x=>?_⟩;obtain ⟨p1,p2⟩:=Kd.Ml hR (s:Int) x;rw [Int.toNat_natCast] at p1 p2;refine ⟨?_,p2⟩;have hH2:=Kd.WT hH p2 (fun k hk=>by injection hk with hk;rw [← hk];exact hb);have:=Kd.CK hH2 (x':=(D.getD i []).set s x) (show (Kd.slice et (Kd.scalar enc h1)).M _ base mo ((D.getD i []).set s x) [.slice (some ⟨gi,0,none⟩) (D.getD i []).length cc] from ⟨_,rfl,p1⟩) (fun k hk=>hk)
 rwa [Int.toNat_natCast] at this
theorem DB {α:Type} (d:Kd α) (e:Nat) (w:World) (base:Nat) (h:base ≤ w.heap.size):Kd.S d e (w.alloc (.cells #[] e (0,0))) base (fun k=>k=w.heap.size) (.slice (some ⟨w.heap.size,0,none⟩) 0 0) []:=by
 have h1:=NT (Kd.tag (fun _=>0) d) e w w.heap.size (Nat.le_refl _);refine ⟨fun _=>0,Kd.Nd (Kd.xd (Kd.ug h1) (fun k hk=>?_)) h⟩;obtain ⟨_,h2,h3,_⟩:=hk;simp at h3;omega
theorem DY {α:Type} {d:Kd α} {et e base g n cap i:Nat} {W:World} {P:Nat→Prop} {D:List (List α)} (h:Kd.S (Kd.slice et d) e W base P (.slice (some ⟨g,0,none⟩) n cap) D) (hi:i < n) :
  ∃ (A:Option Addr) (c:Nat),W.cell? ⟨g,i,none⟩=some (.slice A (D.getD i []).length c)∧W.frozen? ⟨g,i,none⟩=false∧Kd.R d et W base (fun k=>P k∧k ≠ g∧base ≤ k∧k < W.heap.size) (.slice A (D.getD i []).length c) (D.getD i []):=by
 obtain ⟨mo,c,Kt,hM,Ly,hcf,mC,hH⟩:=Kd.WC h ([]:List α) (i:Int) (by omega) (by omega);rw [Int.toNat_natCast] at hM Ly hcf;obtain ⟨v,hc,hR⟩:=hM;obtain ⟨A,cc,rfl⟩:=Kd.od hR;have h1:=Ly 0 _ (by rw [hc];rfl);have h2:=hcf 0;rw [show i * (Kd.slice et d).sz + 0=i from by show i * 1 + 0=i;omega] at h1 h2;exact ⟨A,cc,h1,h2,Kd.xd (Kd.ug hR) (fun k hk=>⟨(mC k hk.1).1,(mC k hk.1).2,hk.2.1,hk.2.2.1⟩)⟩
structure ur (w:World) (o:Obj) (PB:Nat→Prop) (vX vY:Value) (X Y:List (List Bool)) (wr:World):Prop where
 bl:Below w.heap.size w wr
 hx:wr.heap[w.heap.size]? = some o
 x:Kd.S (Kd.slice 4 Kd.bool) 60 wr w.heap.size PB vX X
 y:Kd.S (Kd.slice 4 Kd.bool) 60 wr w.heap.size (fun k=>¬ PB k∧w.heap.size < k) vY Y
 pb:∀ k,PB k→w.heap.size < k∧k < wr.heap.size
section
variable {w wr W w1:World} {o:Obj} {PB:Nat→Prop} {vX vY v1:Value} {X Y:List (List Bool)} {p:List Bool}
theorem ur.below (h:ur w o PB vX vY X Y wr) (hb:Below wr.heap.size wr W):ur w o PB vX vY X Y W :=
 ⟨Ra h.bl hb,Va h.hx hb,Kd.Oh h.x hb,Kd.Oh h.y hb,fun k hk=>⟨(h.pb k hk).1,Nat.lt_of_lt_of_le (h.pb k hk).2 hb.size⟩⟩
theorem ur.aac (h:ur w o PB vX vY X Y wr) (hb:Below wr.heap.size wr W) (hs:Kd.S (Kd.slice 4 Kd.bool) 60 w1 w.heap.size (fun k=>PB k ∨ wr.heap.size ≤ k) v1 (X ++ [p])) (hw:Below w.heap.size w w1) (hg:W.grownBy w1 vX.ownBlock) :
  ur w o (fun k=>PB k ∨ (wr.heap.size ≤ k∧k < w1.heap.size)) v1 vY (X ++ [p]) Y w1:=by
 have h2:=h.below hb;have hsz:wr.heap.size ≤ w1.heap.size:=Nat.le_trans hb.size hg.size;have hown:∀ k,vX.ownBlock=some k→PB k:=(Kd.CM h.x).1;refine ⟨hw,?_,Kd.Ah (Kd.zv hs) (fun k hk=>hk.1.imp id (fun h3=>⟨h3,hk.2.2.1⟩)),?_,fun k hk=>?_⟩
 ·exact Vc h2.hx hg (fun e=>by have:=(h.pb _ (hown _ e.symm)).1;omega)
 ·refine Kd.Ah (Kd.RE (Kd.EY h.y hb) hg (fun k hk e=>hk.1.1 (hown k e.symm))) (fun k hk=>⟨fun h3=>h3.elim hk.1.1 (fun h4=>by have:=hk.2;omega),hk.1.2⟩)
 ·rcases hk with hk|hk
  ·have:=h.pb k hk;exact ⟨this.1,by omega⟩
  ·have:=Nc h.hx;exact ⟨by omega,hk.2⟩
theorem ur.Uaw (h:ur w o PB vX vY X Y wr) (hb:Below wr.heap.size wr W) (hs:Kd.S (Kd.slice 4 Kd.bool) 60 w1 w.heap.size (fun k=>¬ PB k∧w.heap.size < k) v1 (Y ++ [p])) (hw:Below w.heap.size w w1) (hg:W.grownBy w1 vY.ownBlock) :
  ur w o PB vX v1 X (Y ++ [p]) w1:=by
 have h2:=h.below hb;have hown:∀ k,vY.ownBlock=some k→¬ PB k∧w.heap.size < k:=(Kd.CM h.y).1;exact ⟨hw,Vc h2.hx hg (fun e=>by have:=(hown _ e.symm).2;omega),Kd.RE h2.x hg (fun k hk e=>(hown k e.symm).1 hk),hs,fun k hk=>⟨(h2.pb k hk).1,Nat.lt_of_lt_of_le (h2.pb k hk).2 hg.size⟩⟩
end
theorem ur.okX {w wr W:World} {o:Obj} {PB:Nat→Prop} {vX vY:Value} {X Y:List (List Bool)} (h:ur w o PB vX vY X Y wr) (hb:Below wr.heap.size wr W):Kd.S (Kd.slice 4 Kd.bool) 60 W w.heap.size (fun k=>(PB k ∨ wr.heap.size ≤ k)∧¬ wr.heap.size ≤ k) vX X :=
 Kd.Ah (Kd.EY h.x hb) (fun k hk=>⟨Or.inl hk.1,by have:=hk.2;omega⟩)
theorem ur.neX {w wr:World} {o:Obj} {PB:Nat→Prop} {vX vY:Value} {X Y:List (List Bool)} (h:ur w o PB vX vY X Y wr):∀ k,wr.heap.size ≤ k→(PB k ∨ wr.heap.size ≤ k)∧some k ≠ vX.ownBlock :=
 fun k hk=>⟨Or.inr hk,fun e=>by have:=(h.pb k ((Kd.CM h.x).1 k e.symm)).2;omega⟩
theorem ur.frX {w wr W:World} {o:Obj} {PB:Nat→Prop} {vX vY:Value} {X Y:List (List Bool)} (_:ur w o PB vX vY X Y wr) (hb:Below wr.heap.size wr W):∀ k,W.heap.size ≤ k→PB k ∨ wr.heap.size ≤ k:=fun _ hk=>Or.inr (Nat.le_trans hb.size hk)
theorem ur.okY {w wr W:World} {o:Obj} {PB:Nat→Prop} {vX vY:Value} {X Y:List (List Bool)} (h:ur w o PB vX vY X Y wr) (hb:Below wr.heap.size wr W):Kd.S (Kd.slice 4 Kd.bool) 60 W w.heap.size (fun k=>(¬ PB k∧w.heap.size < k)∧¬ wr.heap.size ≤ k) vY Y :=
 Kd.Ah (Kd.EY h.y hb) (fun k hk=>⟨hk.1,by have:=hk.2;omega⟩)
theorem ur.neY {w wr:World} {o:Obj} {PB:Nat→Prop} {vX vY:Value} {X Y:List (List Bool)} (h:ur w o PB vX vY X Y wr):∀ k,wr.heap.size ≤ k→(¬ PB k∧w.heap.size < k)∧some k ≠ vY.ownBlock :=
 fun k hk=>⟨⟨fun e=>by have:=(h.pb k e).2;omega,by have:=Nc h.hx;omega⟩,fun e=>by have:=Kd.Xaw h.y k e.symm;omega⟩
theorem ur.frY {w wr W:World} {o:Obj} {PB:Nat→Prop} {vX vY:Value} {X Y:List (List Bool)} (h:ur w o PB vX vY X Y wr) (hb:Below wr.heap.size wr W):∀ k,W.heap.size ≤ k→¬ PB k∧w.heap.size < k:=fun k hk=>(h.neY k (Nat.le_trans hb.size hk)).1
theorem JP {W:World} {base N:Nat} {ok:Nat→Prop} {v:Value} {xs:List Bool} (ho:Kd.R Kd.bool 4 W N ok v xs) (hl:base ≤ N):(Kd.slice 4 Kd.bool).M W base ok xs [v]:=⟨v,rfl,Kd.Nd ho hl⟩
theorem ur.forms {w wr:World} {o:Obj} {PB:Nat→Prop} {vX vY:Value} {n m:Nat} (h:ur w o PB vX vY (List.replicate m (List.replicate n false)) (List.replicate m (List.replicate n false)) wr) (hm:0 < m) :
  ∃ gX cX gY cY,vX = .slice (some ⟨gX,0,none⟩) m cX∧vY = .slice (some ⟨gY,0,none⟩) m cY:=by
 obtain ⟨gX,cX,e1,-⟩:=Kd.VC h.x (by rw [List.length_replicate];exact hm);obtain ⟨gY,cY,e2,-⟩:=Kd.VC h.y (by rw [List.length_replicate];exact hm);rw [List.length_replicate] at e1 e2;exact ⟨gX,cX,gY,cY,e1,e2⟩
theorem ur.cau {w wr:World} {o:Obj} {PB:Nat→Prop} {vY:Value} {X Y:List (List Bool)} {gX m cX i s:Nat} (h:ur w o PB (.slice (some ⟨gX,0,none⟩) m cX) vY X Y wr) (hi:i < m) (hs:s < (qe X i).length) :
  ∃ (gi c:Nat),wr.cell? ⟨gX,i,none⟩=some (.slice (some ⟨gi,0,none⟩) (qe X i).length c)∧wr.cell? ⟨gi,s,none⟩=some (.bool (seen (qe X i) s))∧wr.frozen? ⟨gi,s,none⟩=false∧PB gi ∧
   ∀ b,ur w o PB (.slice (some ⟨gX,0,none⟩) m cX) vY (X.set i ((qe X i).set s b)) Y (wr.setCell ⟨gi,s,none⟩ (.bool b)):=by
 obtain ⟨gi,c,h1,h2,h3,h4,h5⟩:=GY false h.x hi hs;refine ⟨gi,c,h1,h3,h4,h2,fun b=>?_⟩;obtain ⟨h6,hg⟩:=h5 b;have hb:=h.pb gi h2
 exact ⟨h.bl.grown hg (by omega) (fun k e=>by injection e with e;omega),Vc h.hx hg (fun e=>by injection e with e;omega),h6,
  Kd.RE h.y hg (fun k hk e=>by injection e with e;exact hk.1 (e ▸ h2)),fun k hk=>⟨(h.pb k hk).1,Nat.lt_of_lt_of_le (h.pb k hk).2 hg.size⟩⟩
theorem ur.rae {w wr W:World} {o:Obj} {PB:Nat→Prop} {vX v:Value} {X Y:List (List Bool)} {gY m cY i:Nat} {ok:Nat→Prop} {xs:List Bool} (h:ur w o PB vX (.slice (some ⟨gY,0,none⟩) m cY) X Y wr) (hb:Below wr.heap.size wr W) (hi:i < m) (hR:Kd.R Kd.bool 4 W wr.heap.size ok v xs) :
  ur w o PB vX (.slice (some ⟨gY,0,none⟩) m cY) X (Y.set i xs) (W.setCell ⟨gY,i,none⟩ v):=by
 have h2:=h.below hb;have hl:=Nc h.hx;obtain ⟨h6,hg⟩:=cac (YM:=fun k=>wr.heap.size ≤ k) (h.okY hb) (fun k hk=>(h.neY k hk).1) hi (Kd.Nd (Kd.xd (Kd.ug hR) (fun k hk=>hk.2.1)) (Nat.le_of_lt hl));have hy:=(Kd.CM h.y).1 gY rfl
 exact ⟨h2.bl.grown hg h2.bl.size (fun k e=>by injection e with e;omega),Vc h2.hx hg (fun e=>by injection e with e;omega),Kd.RE h2.x hg (fun k hk e=>by injection e with e;exact hy.1 (e ▸ hk)),h6,
  fun k hk=>⟨(h2.pb k hk).1,Nat.lt_of_lt_of_le (h2.pb k hk).2 hg.size⟩⟩
theorem ur.Uat {w wr:World} {o:Obj} {PB:Nat→Prop} {vY:Value} {X Y:List (List Bool)} {gX m cX i:Nat} (h:ur w o PB (.slice (some ⟨gX,0,none⟩) m cX) vY X Y wr) (hi:i < m) :
  ∃ (A:Option Addr) (c:Nat),wr.cell? ⟨gX,i,none⟩=some (.slice A (qe X i).length c)∧Kd.C Kd.bool wr A (qe X i).length (qe X i)∧(qe X i).length ≤ c:=by
 obtain ⟨A,c,h1,_,h2⟩:=DY h.x hi;exact ⟨A,c,h1,(Kd.Rb h2).2.2,(Kd.Rb h2).2.1⟩
theorem ur.I0 {w wr:World} {o:Obj} {PB:Nat→Prop} {vX:Value} {X Y:List (List Bool)} {gY m cY i:Nat} (h:ur w o PB vX (.slice (some ⟨gY,0,none⟩) m cY) X Y wr) (hi:i < m) :
  ∃ (A:Option Addr) (c:Nat),wr.cell? ⟨gY,i,none⟩=some (.slice A (qe Y i).length c)∧wr.frozen? ⟨gY,i,none⟩=false∧(qe Y i).length ≤ c∧Kd.C Kd.bool wr A (qe Y i).length (qe Y i)∧∀ W,Kept wr W PB→Kd.C Kd.bool W A (qe Y i).length (qe Y i):=by
 obtain ⟨A,c,h1,hf,h2⟩:=DY h.y hi;exact ⟨A,c,h1,hf,(Kd.Rb h2).2.1,(Kd.Rb h2).2.2,Kd.wG (S:=PB) h2 (fun k hk=>hk.1.1)⟩
structure LvS (bs:List Je) (X Y:List (List Bool)) (C:Nat) (a:Bool) (q:Nat):Prop where
 le:C ≤ Yq Y
 lt:a=true→C < Yq Y
 so:a=false→∀ k,q ≤ k→k < bs.length→StE bs X Y k
structure LvR (bs:List Je) (n:Nat) (X0 Y:List (List Bool)) (i:Nat) (X:List (List Bool)):Prop where
 inv:DG bs n X Y
 oth:∀ k,k ≠ i→qe X k=qe X0 k
def JZ (ts:List Int) (j:Nat) (Y X:List (List Bool)) (i:Nat):Prop:=∀ t ∈ ts.take j,∀ u,seen (qe Y t.toNat) u=true→seen (qe X i) u=true
def TkS (t s:Nat) (Y X:List (List Bool)) (i:Nat):Prop:=∀ u,u < s→seen (qe Y t) u=true→seen (qe X i) u=true
section
variable {bs:List Je} {n i s tn:Nat} {X0 X Y:List (List Bool)} {ts:List Int} {j:Nat}
theorem LvR.step (h:LvR bs n X0 Y i X) (hE:SB bs) (hi:i < bs.length) {t:Int} (ht:t ∈ Vs bs i) (htn:t=(tn:Int)) (hs:s < n) (hj:JZ ts j Y X i) (hk:TkS tn s Y X i) :
  LvR bs n X0 Y i (X.set i ((qe X i).set s (seen (qe X i) s || seen (qe Y tn) s)))∧JZ ts j Y (X.set i ((qe X i).set s (seen (qe X i) s || seen (qe Y tn) s))) i∧TkS tn (s + 1) Y (X.set i ((qe X i).set s (seen (qe X i) s || seen (qe Y tn) s))) i:=by
 have hil:i < X.length:=by rw [h.inv.xl];exact hi
 have PW:s < (qe X i).length:=by rw [h.inv.xr i hi];exact hs
 have h1:=h.inv.or hE hi ht hs;rw [htn,Int.toNat_natCast] at h1
 have hm:∀ u,seen (qe X i) u=true→seen (qe (X.set i ((qe X i).set s (seen (qe X i) s || seen (qe Y tn) s))) i) u=true:=fun u hu=>by
  rw [Cp hil,if_pos rfl,Ji PW]
  by_cases e:s=u
  ·subst e;rw [if_pos rfl,hu];rfl
  ·rw [if_neg e];exact hu
 refine ⟨⟨h1,fun k hk=>?_⟩,fun t ht u hu=>hm u (hj t ht u hu),fun u hu hy=>?_⟩
 ·rw [Cp hil,if_neg (fun e=>hk e.symm)];exact h.oth k hk
 ·by_cases e:s=u
  ·subst e;rw [Cp hil,if_pos rfl,Ji PW,if_pos rfl,hy,Bool.or_true]
  ·exact hm u (hk u (by omega) hy)
theorem JZ.next (h:JZ ts j Y X i) (hj:j < ts.length) (ht:ts[j]=(tn:Int)) (hk:TkS tn (qe Y tn).length Y X i):JZ ts (j + 1) Y X i:=by
 intro t h1 u hu;rw [List.take_succ_eq_append_getElem hj,List.mem_append,List.mem_singleton] at h1
 rcases h1 with h1|h1
 ·exact h t h1 u hu
 ·rw [h1,ht,Int.toNat_natCast] at hu;exact hk u (Yl hu) hu
theorem LvS.next {C:Nat} {a:Bool} (h:LvS bs X0 Y C a (i + 1)) (hO:mm bs n) (hi:i < bs.length) (hr:LvR bs n X0 Y i X) (hj:JZ (Vs bs i) (Vs bs i).length Y X i) :
  DG bs n X (Y.set i (oD (za bs (i:Int)) (qe X i)))∧LvS bs X (Y.set i (oD (za bs (i:Int)) (qe X i))) C (a || !decide (oD (za bs (i:Int)) (qe X i)=qe Y i)) i:=by
 have hil:i < Y.length:=by rw [hr.inv.yl];exact hi
 refine ⟨hr.inv.put hO hi,?_⟩
 by_cases he:oD (za bs (i:Int)) (qe X i)=qe Y i
 ·have hY:Y.set i (oD (za bs (i:Int)) (qe X i))=Y:=by
   rw [he];apply List.ext_getElem (by simp);intro k h1 h2;rw [List.getElem_set]
   by_cases e:i=k
   ·subst e;simp [qe,List.getD_eq_getElem?_getD,h2]
   ·rw [if_neg e]
  rw [hY,decide_eq_true he];refine ⟨h.le,fun ha=>h.lt (by simpa using ha),fun ha k hk1 hk2=>?_⟩
  by_cases e:k=i
  ·subst e;exact ⟨fun t ht u hu=>hj t (by rw [List.take_length];exact ht) u hu,he.symm⟩
  ·have:=h.so (by simpa using ha) k (by omega) hk2;unfold StE at this ⊢;rw [hr.oth k e];exact this
 ·have:=hr.inv.grow hO hi he;rw [decide_eq_false he];exact ⟨by have:=h.le;omega,fun _=>by have:=h.le;omega,fun ha=>by simp at ha⟩
end
theorem DG.cnt {bs:List Je} {n:Nat} {X Y:List (List Bool)} (h:DG bs n X Y):Yq Y ≤ n * bs.length:=by
 have:=tK (m:=n) Y (fun i hi=>by rw [h.yr i (by rw [← h.yl];exact hi)];exact Nat.le_refl _)
 rwa [h.yl] at this
abbrev Ty (Ya:Option Addr) (n0 Za:Nat) (Ja Ga:Int) (n:Nat) (Mb:Option Addr) (n4 Cb:Nat):Obj:=.cells #[.slice Ya n0 Za,.int .i64 Ja,.int .i64 Ga,.int .i64 (n:Int),.slice Mb n4 Cb] 30 (0,0)
theorem nD {w wr:World} {PB:Nat→Prop} {vX vY:Value} {X Y:List (List Bool)} {Ya Mb:Option Addr} {n0 c0 n n4 c4:Nat} {a1 a2:Int} (h:ur w (Ty Ya n0 c0 a1 a2 n Mb n4 c4) PB vX vY X Y wr):wr.cell? ⟨w.heap.size,3,none⟩=some (.int .i64 (n:Int)):=(ia h.hx 3).trans rfl
theorem qW {w wr:World} {PB:Nat→Prop} {vX vY:Value} {X Y:List (List Bool)} {Ya Mb:Option Addr} {n0 c0 n n4 c4:Nat} {a1 a2:Int} (h:ur w (Ty Ya n0 c0 a1 a2 n Mb n4 c4) PB vX vY X Y wr):wr.cell? ⟨w.heap.size,4,none⟩=some (.slice Mb n4 c4):=(ia h.hx 4).trans rfl
theorem B1 {bs:List Je} (hE:SB bs) {b j:Nat} (hb:b < bs.length) (hj:j < (Vs bs b).length) {A:Option Addr} {W:World} (hC:Kd.C (Kd.int .i64) W A (Vs bs b).length (Vs bs b)) :
  ∃ (ad:Addr) (t:Nat),A=some ad∧(Vs bs b)[j]=(t:Int)∧t < bs.length∧W.cell? (ad.add j)=some (.int .i64 (t:Int)):=by
 obtain ⟨t0,t1⟩:=hE.2.2 b hb _ (List.getElem_mem hj);obtain ⟨ad,e1,hx⟩:=Kd.Bi hC (j:Int) (by omega) (by omega);rw [Int.toNat_natCast,Kj hj] at hx;exact ⟨ad,((Vs bs b)[j]).toNat,e1,(Int.toNat_of_nonneg t0).symm,by omega,by rw [Int.toNat_of_nonneg t0];exact hx⟩
theorem cA {xs:List Bool} {A:Option Addr} {W:World} {s:Nat} (hC:Kd.C Kd.bool W A xs.length xs) (hs:s < xs.length):∃ ad:Addr,A=some ad∧W.cell? (ad.add s)=some (.bool (seen xs s)):=by
 obtain ⟨ad,e1,hx⟩:=Kd.lg hC (s:Int) (by omega) (by omega);rw [Int.toNat_natCast] at hx;exact ⟨ad,e1,hx⟩
def Et (code:List He) (q:Nat) (s:List Bool):List Bool:=(code.drop q).foldr (fun x s=>Zn s x) s
theorem Cy (code:List He) (q:Nat) (s:List Bool):(Et code q s).length=s.length:=SC _ _
theorem uv (code:List He) (s:List Bool):Et code code.length s=s:=by unfold Et;rw [List.drop_length];rfl
theorem gr {code:List He} {q:Nat} (h:q < code.length) (s:List Bool):Et code q s=Zn (Et code (q + 1) s) (Ea code (q:Int)):=by
 unfold Et;rw [List.drop_eq_getElem_cons h,List.foldr_cons,sk h]
theorem gG (b:Je) (s:List Bool):Et b.f0 0 (Ph b s)=oD b s:=rfl
theorem Ms {bs:List Je} {n i:Nat} (hO:mm bs n) (hi:i < bs.length):Dt n (za bs (i:Int)):=by
 rw [Zg hi];exact hO.2.2 _ (List.getElem_mem hi)
theorem Zv {n q:Nat} {b:Je} (h:Dt n b) (hq:q < b.f0.length):Ys n (Ea b.f0 (q:Int)):=by
 rw [sk hq];exact h.2.2 _ (List.getElem_mem hq)
theorem JY {W:World} {base n c u:Nat} {ok:Nat→Prop} {A:Option Addr} {xs:List Bool} (h:Kd.R Kd.bool 4 W base ok (.slice A n c) xs) (hu:u < xs.length) :
  ∃ g,A=some ⟨g,0,none⟩∧base ≤ g∧W.cell? ⟨g,u,none⟩=some (.bool (seen xs u))∧W.frozen? ⟨g,u,none⟩=false∧∀ b,Kd.R Kd.bool 4 (W.setCell ⟨g,u,none⟩ (.bool b)) base ok (.slice A n c) (xs.set u b)∧W.grownBy (W.setCell ⟨g,u,none⟩ (.bool b)) (some g):=by
 obtain ⟨g,cap,e,hb,-⟩:=Kd.Xj h (by omega);injection e with e1 e2 e3
 subst e1;obtain ⟨r1,r2⟩:=Kd.Yh false h (u:Int) (by omega) (by omega);rw [Int.toNat_natCast] at r1 r2;refine ⟨g,rfl,hb,r1,r2,fun b=>?_⟩;have:=Kd.Ml h (u:Int) b
 rwa [Int.toNat_natCast] at this
end Go.Proofs.Ytkigbdceceeenaa.P
end
section
namespace Go.Proofs.Ytkigbdceceeenaa.P
open Go.RowKit Go.Proofs.Ma.Tb Go.Proofs.Ma.Gd Go.Proofs.Ma.De
set_option linter.unusedVariables false
set_option linter.unusedSimpArgs false
theorem nk {i:Nat} (h:i ≤ 1048576):wrap64 ((i:Int) - 1)=(i:Int) - 1:=by unfold wrap64;omega
theorem succ_pred (i:Nat):((i + 1:Nat):Int) - 1=(i:Int):=by omega
theorem eC (X:List (List Bool)) (i:Nat):yd X (i:Int)=qe X i:=by unfold yd qe;rw [Int.toNat_natCast]
def Fm (s:List Bool) (m:Nat):List Int:=((List.range m).filter (fun i=>seen s i)).map (fun (i:Nat)=>(i:Int))
theorem yU {s:List Bool} {m:Nat} (h:seen s m=true):Fm s (m + 1)=Fm s m ++ [(m:Int)]:=by
 unfold Fm;rw [List.range_succ,List.filter_append,List.map_append];simp [h]
theorem zU {s:List Bool} {m:Nat} (h:¬ seen s m=true):Fm s (m + 1)=Fm s m:=by
 unfold Fm;rw [List.range_succ,List.filter_append,List.map_append];simp [h]
theorem kH (s:List Bool) (m:Nat):(Fm s m).length ≤ m:=by
 unfold Fm;rw [List.length_map];exact Nat.le_trans (List.length_filter_le _ _) (Nat.le_of_eq List.length_range)
theorem PG (s:List Bool) (hm:s.length ≤ 1048576):∀ (d i:Nat),i + d=s.length→Ev (fun k=>ze.l0 k (Fm s i) s (s.length:Int) (i:Int)) (Fm s s.length):=by
 intro d
 induction d with
 | zero =>
  intro i hi;obtain rfl:i=s.length:=by omega
  refine Ev.step (fun k=>by rw [ze.l0]) ?_;exact Ev.neg (by omega) (Ev.now _)
 | succ d ih =>
  intro i hi;have hl:=kH s i;have h:=ih (i + 1) (by omega);refine Ev.step (fun k=>by rw [ze.l0]) ?_;refine Ev.pos (by omega) (Ev.pos (by omega) (Ev.pos (by omega) ?_));rw [Ol,Xd (show i < s.length by omega) (by omega)]
  by_cases hs:seen s i=true
  ·rw [yU hs] at h;exact Ev.pos hs (Ev.pos (by omega) h)
  ·rw [zU hs] at h;exact Ev.neg hs h
theorem bO (s:List Bool) (hm:s.length ≤ 1048576):Ev (fun k=>ze.f k s) (Fm s s.length):=PG s hm s.length 0 (by omega)
theorem gM (b:Je) (s:List Bool) (hb:Dt s.length b) (x:List Bool) (hx:x.length=s.length):∀ (q:Nat),q ≤ b.f0.length→Ev (fun k=>cg.l0 k (Et b.f0 q x) ((q:Int) - 1) b.f0 b.f1 b.f2 b.f3 b.f4) (Et b.f0 0 x):=by
 intro q
 induction q with
 | zero =>
  intro _;refine Ev.step (fun k=>by rw [cg.l0]) ?_;exact Ev.neg (by omega) (Ev.now _)
 | succ q ih =>
  intro hq;have h1:=hb.1;have he:=nM (Et b.f0 (q + 1) x) (Ea b.f0 (q:Int)) (by rw [Cy,hx];exact Zv hb (by omega));rw [← gr (by omega)] at he;refine Ev.step (fun k=>by rw [cg.l0]) ?_;rw [succ_pred];refine Ev.pos (by omega) (Ev.pos (by omega) (Ev.pos (by omega) (Ev.bind he ?_)));rw [nk (by omega)];exact ih (by omega)
theorem VX (b:Je) (s:List Bool) (hb:Dt s.length b) (hs:s.length ≤ 1048576):Ev (fun k=>cg.f k b.f0 b.f1 b.f2 b.f3 b.f4 s) (oD b s):=by
 have hl:=gM b s hb (Ph b s) (Sl b s) b.f0.length (Nat.le_refl _);rw [uv,gG] at hl;have h1:=hb.1
 have he:Ig.f b.f0 b.f1 b.f2 b.f3 b.f4 s=some (Ph b s):=by
  unfold Ig.f Ph;rw [Option.bind_some,if_pos (by simp;omega),Option.bind_some,List.nil_append]
  by_cases hf:b.f1=0
  ·rw [if_pos hf,if_pos hf]
  ·have:=hb.2.1 hf;rw [if_neg hf,if_neg hf,if_pos (by omega),if_pos (by omega)]
 unfold cg.f;refine Ev.bind (Ev.here he) ?_;rw [nk h1];exact hl
theorem mK (b:Je) (s:List Bool) (hb:Dt s.length b) (x:List Bool) (hx:x.length=s.length):∀ (q:Nat),q ≤ b.f0.length→Ev (fun k=>Ef.l0 k (Et b.f0 q x) b.f0 ((q:Int) - 1)) (Et b.f0 0 x):=by
 intro q
 induction q with
 | zero =>
  intro _;refine Ev.step (fun k=>by rw [Ef.l0]) ?_;exact Ev.neg (by omega) (Ev.now _)
 | succ q ih =>
  intro hq;have h1:=hb.1;have he:=nK (Et b.f0 (q + 1) x) (Ea b.f0 (q:Int)) (by rw [Cy,hx];exact Zv hb (by omega));rw [← gr (by omega)] at he;refine Ev.step (fun k=>by rw [Ef.l0]) ?_;rw [succ_pred];refine Ev.pos (by omega) (Ev.pos (by omega) (Ev.pos (by omega) (Ev.bind he ?_)));rw [nk (by omega)];exact ih (by omega)
theorem wF {bs:List Je} {n i:Nat} (hO:mm bs n) (hi:i < bs.length) (X:List (List Bool)) (hX:X.length=bs.length) (hr:(qe X i).length=n) (l0:List Int) (p v s:Int):Ni.f l0 p v s bs X (i:Int)=some (Ph (za bs (i:Int)) (qe X i)):=by
 have hb:=Ms hO hi;have hn:=hO.2.1;unfold Ni.f Ph;rw [eC,Option.bind_some,if_pos (by omega),if_pos (by omega),if_pos (by simp;omega),Option.bind_some,List.nil_append,if_pos (by omega)]
 by_cases hf:(za bs (i:Int)).f1=0
 ·rw [if_pos hf,if_pos hf]
 ·have:=hb.2.1 hf;rw [if_neg hf,if_neg hf,if_pos (by omega),if_pos (by omega)]
theorem bV {bs:List Je} {n i:Nat} (hO:mm bs n) (hi:i < bs.length) (X:List (List Bool)) (hX:X.length=bs.length) (hr:(qe X i).length=n) (l0:List Int) (p v s:Int):Ev (fun k=>Ef.f k l0 p v s bs X (i:Int)) (oD (za bs (i:Int)) (qe X i)):=by
 have hb:=Ms hO hi;have hl:=mK (za bs (i:Int)) (qe X i) (by rw [hr];exact hb) (Ph (za bs (i:Int)) (qe X i)) (Sl _ _) _ (Nat.le_refl _);rw [uv,gG] at hl;unfold Ef.f;refine Ev.bind (Ev.here (wF hO hi X hX hr l0 p v s)) ?_;refine Ev.pos (by omega) (Ev.pos (by omega) ?_);rw [nk hb.1];exact hl
structure CY (bs:List Je) (n:Nat) (X:List (List Bool)):Prop where
 len:X.length=bs.length
 row:∀ i,i < bs.length→(qe X i).length=n
 so:∀ i u,i < bs.length→seen (qe X i) u=true→LB bs u i
def StS (bs:List Je) (X:List (List Bool)) (i:Nat):Prop:=∀ t ∈ Vs bs i,∀ u,seen (oD (za bs t) (qe X t.toNat)) u=true→seen (qe X i) u=true
structure C6 (bs:List Je) (n:Nat) (X0 X:List (List Bool)) (a:Bool):Prop where
 inv:CY bs n X
 le:Yq X0 ≤ Yq X
 lt:a=true→Yq X0 < Yq X
 eq:a=false→X=X0
section
variable {bs:List Je} {n:Nat} {X0 X:List (List Bool)} {a:Bool}
theorem CY.xae (h:CY bs n X) (hO:mm bs n) {i:Nat} {t:Int} (hi:i < bs.length) (ht:t ∈ Vs bs i) {u:Nat} (hu:seen (oD (za bs t) (qe X t.toNat)) u=true):LB bs u i:=by
 obtain ⟨t0,t1⟩:=hO.1.2.2 i hi t ht;have htn:t.toNat < bs.length:=by omega
 have hb:=Ms hO htn;rw [Int.toNat_of_nonneg t0] at hb;rw [cw (by rw [h.row _ htn];exact hb)] at hu;cases hc:seen (qe X t.toNat) u with
 | false=>rw [hc] at hu;exact LB.gen ht hu
 | true=>rw [hc] at hu;exact LB.step ht hu (h.so _ u htn hc)
theorem C6.put (h:C6 bs n X0 X a) {i s:Nat} (hi:i < bs.length) (hs:s < n) (hb:LB bs s i) (hns:¬ seen (qe X i) s=true):C6 bs n X0 (X.set i ((qe X i).set s true)) true:=by
 have hil:i < X.length:=by rw [h.inv.len];exact hi
 have PW:s < (qe X i).length:=by rw [h.inv.row i hi];exact hs
 have h1:=bG X i ((qe X i).set s true) hil
 have h2:=(yO (qe X i) ((qe X i).set s true) (by rw [List.length_set]) (fun u hu=>by
  rw [Ji PW]
  by_cases e:s=u
  ·rw [if_pos e]
  ·rw [if_neg e];exact hu)).2 (fun e=>hns (by rw [e,Ji PW,if_pos rfl]))
 have h3:=h.le;refine ⟨⟨by rw [List.length_set];exact h.inv.len,fun k hk=>?_,fun k u hk hu=>?_⟩,by omega,fun _=>by omega,fun e=>by cases e⟩
 ·rw [Cp hil]
  by_cases e:i=k
  ·rw [if_pos e,List.length_set];exact h.inv.row i hi
  ·rw [if_neg e];exact h.inv.row k hk
 ·rw [Cp hil] at hu
  by_cases e:i=k
  ·subst e;rw [if_pos rfl,Ji PW] at hu
   by_cases e2:s=u
   ·subst e2;exact hb
   ·rw [if_neg e2] at hu;exact h.inv.so i u hk hu
  ·rw [if_neg e] at hu;exact h.inv.so k u hk hu
theorem CY.done (h:CY bs n X) (hO:mm bs n) (hst:∀ i,i < bs.length→StS bs X i):X=Ye bs n:=by
 have hE:=hO.1
 have key:∀ u i,LB bs u i→i < bs.length→seen (qe X i) u=true:=by
  intro u i hl
  have turn:∀ (i:Nat) (t:Int),i < bs.length→t ∈ Vs bs i→CZ u (za bs t) (seen (qe X t.toNat) u)=true→seen (qe X i) u=true:=by
   intro i t hi ht h1;obtain ⟨t0,t1⟩:=hE.2.2 i hi t ht;have htn:t.toNat < bs.length:=by omega
   have hb:=Ms hO htn;rw [Int.toNat_of_nonneg t0] at hb;refine hst i hi t ht u ?_;rw [cw (by rw [h.row _ htn];exact hb)];exact h1
  induction hl with
  | @gen i t ht h1 =>
   intro hi;exact turn i t hi ht (dw (fun hf=>by cases hf) h1)
  | @step i t ht h1 _ ih =>
   intro hi;obtain ⟨t0,t1⟩:=hE.2.2 i hi t ht;exact turn i t hi ht (dw (fun _=>ih (by omega)) h1)
 apply List.ext_getElem
 ·rw [h.len,Aj]
 ·intro i h1 h2;have hi:i < bs.length:=by rw [← h.len];exact h1
  have e1:X[i]=qe X i:=by simp [qe,List.getD_eq_getElem?_getD,h1]
  have e2:(Ye bs n)[i]=Gm bs n i:=by simp [Ye]
  rw [e1,e2];refine Zz (by rw [h.row i hi,Gj]) (fun u=>?_)
  constructor
  ·intro hu;have hun:u < n:=by have:=Yl hu;rw [h.row i hi] at this;exact this
   exact (Kp hun).2 (h.so i u hi hu)
  ·intro hu;have hun:u < n:=by have:=Yl hu;rw [Gj] at this;exact this
   exact key u i ((Kp hun).1 hu) hi
theorem CY.start (bs:List Je) (n:Nat):CY bs n (List.replicate bs.length (List.replicate n false)) :=
 ⟨(DG.start bs n).xl,(DG.start bs n).xr,(DG.start bs n).xs⟩
theorem CY.cnt (h:CY bs n X):Yq X ≤ n * bs.length:=by
 have:=tK (m:=n) X (fun i hi=>by rw [h.row i (by rw [← h.len];exact hi)];exact Nat.le_refl _)
 rwa [h.len] at this
end
section
variable {bs:List Je} {n:Nat} (l0:List Int) (p v:Int) {R:List (List Bool)} {X0:List (List Bool)}
theorem jO {Q:Prop} {i j:Nat} {ts:List Int} {t:List Bool} (hO:mm bs n) (hi:i < bs.length) (htl:t.length=n) (hso:∀ u,seen t u=true→LB bs u i)
  (hK:∀ X a,C6 bs n X0 X a→(a=false→Q)→(a=false→∀ u,u < n→seen t u=true→seen (qe X0 i) u=true)→Ev (fun k=>xb.l3 k X a (i:Int) ts (wrap64 ((j:Int) + 1)) l0 p v (n:Int) bs) R) :
  ∀ (d s:Nat) (X:List (List Bool)) (a:Bool),s + d=n→C6 bs n X0 X a→(a=false→Q)→(a=false→∀ u,u < s→seen t u=true→seen (qe X0 i) u=true)→Ev (fun k=>xb.l4 k X a (i:Int) ts (j:Int) t (s:Int) l0 p v (n:Int) bs) R:=by
 intro d
 induction d with
 | zero =>
  intro s X a hs hP hQ hD;obtain rfl:s=n:=by omega
  refine Ev.step (fun k=>by rw [xb.l4]) ?_;exact Ev.neg (by omega) (hK X a hP hQ hD)
 | succ d ih =>
  intro s X a hs hP hQ hD;have UU:s < n:=by omega
  have hn:=hO.2.1;have hxl:=hP.inv.len;have hxr:=hP.inv.row i hi;refine Ev.step (fun k=>by rw [xb.l4]) ?_;refine Ev.pos (by omega) (Ev.pos (by omega) (Ev.pos (by omega) ?_));rw [Ol,Xd UU (by omega),eC,Ol,Int.toNat_natCast,Int.toNat_natCast]
  by_cases hts:seen t s=true
  ·refine Ev.pos hts (Ev.pos (by omega) (Ev.pos (by omega) (Ev.pos (by omega) ?_)))
   by_cases hx:seen (qe X i) s=true
   ·refine Ev.pos hx (ih (s + 1) X a (by omega) hP hQ (fun ha u hu hu2=>?_))
    by_cases e:u=s
    ·subst e;rw [← hP.eq ha];exact hx
    ·exact hD ha u (by omega) hu2
   ·exact Ev.neg hx (ih (s + 1) _ true (by omega) (hP.put hi UU (hso s hts) hx) (fun ha=>by cases ha) (fun ha=>by cases ha))
  ·refine Ev.neg hts (ih (s + 1) X a (by omega) hP hQ (fun ha u hu hu2=>?_))
   by_cases e:u=s
   ·subst e;exact absurd hu2 hts
   ·exact hD ha u (by omega) hu2
theorem kO {Q:Prop} {i:Nat} (hO:mm bs n) (hi:i < bs.length)
  (hK:∀ X a,C6 bs n X0 X a→(a=false→Q)→(a=false→StS bs X0 i)→Ev (fun k=>xb.l2 k X a (wrap64 ((i:Int) - 1)) l0 p v (n:Int) bs) R) :
  ∀ (d j:Nat) (X:List (List Bool)) (a:Bool),j + d=(Vs bs i).length→C6 bs n X0 X a→(a=false→Q)→(a=false→∀ t ∈ (Vs bs i).take j,∀ u,seen (oD (za bs t) (qe X0 t.toNat)) u=true→seen (qe X0 i) u=true)→Ev (fun k=>xb.l3 k X a (i:Int) (Vs bs i) (j:Int) l0 p v (n:Int) bs) R:=by
 have h2:(Vs bs i).length ≤ 2:=UL _;intro d
 induction d with
 | zero =>
  intro j X a hj hP hQ hD;obtain rfl:j=(Vs bs i).length:=by omega
  refine Ev.step (fun k=>by rw [xb.l3]) ?_;refine Ev.neg (by omega) (hK X a hP hQ (fun ha t ht=>hD ha t (by rw [List.take_length];exact ht)))
 | succ d ih =>
  intro j X a hj hP hQ hD;have hjl:j < (Vs bs i).length:=by omega
  have hn:=hO.2.1;have htm:=List.getElem_mem hjl;obtain ⟨t0,t1⟩:=hO.1.2.2 i hi _ htm;have hxl:=hP.inv.len;obtain ⟨tn,htn⟩:∃ tn:Nat,(Vs bs i)[j]=(tn:Int):=⟨_,(Int.toNat_of_nonneg t0).symm⟩;have htb:tn < bs.length:=by omega
  have hb:=Ms hO htb;have hr:=hP.inv.row tn htb;refine Ev.step (fun k=>by rw [xb.l3]) ?_;rw [Kj hjl,htn,eC];refine Ev.pos (by omega) (Ev.pos (by omega) (Ev.pos (by omega) (Ev.pos (by omega) (Ev.pos (by omega) (Ev.bind (VX _ (qe X tn) (by rw [hr];exact hb) (by omega)) ?_)))));refine jO l0 p v (X0:=X0) (Q:=a=false) hO hi (by rw [Jr];exact hr) (fun u hu=>hP.inv.xae hO hi htm (by rw [htn,Int.toNat_natCast];exact hu)) (fun X' a' O5 hQ' hD'=>?_) n 0 X a (by omega) hP id (fun ha u hu=>by omega);rw [Xd hjl (by omega)];refine ih (j + 1) X' a' (by omega) O5 (fun ha=>hQ (hQ' ha)) (fun ha t ht u hu=>?_);have hX:=hP.eq (hQ' ha);rw [List.take_succ_eq_append_getElem hjl,List.mem_append,List.mem_singleton] at ht
  rcases ht with ht|ht
  ·exact hD (hQ' ha) t ht u hu
  ·rw [ht,htn,Int.toNat_natCast,← hX] at hu;have hun:u < n:=by have:=Yl hu;rw [Jr,hr] at this;exact this
   exact hD' ha u hun hu
theorem lO (hO:mm bs n)
  (hK:∀ X a,C6 bs n X0 X a→(a=false→∀ i,i < bs.length→StS bs X0 i)→Ev (fun k=>xb.l1 k X a l0 p v (n:Int) bs) R) :
  ∀ (q:Nat) (X:List (List Bool)) (a:Bool),q ≤ bs.length→C6 bs n X0 X a→(a=false→∀ i,q ≤ i→i < bs.length→StS bs X0 i)→Ev (fun k=>xb.l2 k X a ((q:Int) - 1) l0 p v (n:Int) bs) R:=by
 intro q
 induction q with
 | zero =>
  intro X a hq hP hD;refine Ev.step (fun k=>by rw [xb.l2]) ?_;exact Ev.neg (by omega) (hK X a hP (fun ha i hi=>hD ha i (Nat.zero_le _) hi))
 | succ q ih =>
  intro X a hq hP hD;have hb:=hO.1.2.1;refine Ev.step (fun k=>by rw [xb.l2]) ?_;rw [succ_pred];refine Ev.pos (by omega) (Ev.pos (by omega) (Ev.pos (by omega) (Ev.bind (Ev.here (AU (za bs (q:Int)))) ?_)));refine kO l0 p v (X0:=X0) (Q:=a=false) hO (show q < bs.length by omega) (fun X' a' O5 hQ' hD'=>?_) _ 0 X a (Nat.zero_add _) hP id (fun _ t ht=>by simp at ht);rw [nk (by omega)];refine ih X' a' (by omega) O5 (fun ha i hi1 hi2=>?_)
  by_cases e:i=q
  ·subst e;exact hD' ha
  ·exact hD (hQ' ha) i (by omega) hi2
theorem mO (hO:mm bs n):∀ (m:Nat) (X:List (List Bool)) (a:Bool),n * bs.length - Yq X + (if a=true then 1 else 0) ≤ m→CY bs n X→(a=false→∀ i,i < bs.length→StS bs X i)→Ev (fun k=>xb.l1 k X a l0 p v (n:Int) bs) (Ye bs n):=by
 intro m
 induction m with
 | zero =>
  intro X a hm hI hD;cases a with
  | true=>rw [if_pos rfl] at hm;omega
  | false =>
   rw [← hI.done hO (hD rfl)];refine Ev.step (fun k=>by rw [xb.l1]) ?_;exact Ev.neg (by simp) (Ev.now _)
 | succ m ih =>
  intro X a hm hI hD;cases a with
  | false =>
   rw [← hI.done hO (hD rfl)];refine Ev.step (fun k=>by rw [xb.l1]) ?_;exact Ev.neg (by simp) (Ev.now _)
  | true =>
   rw [if_pos rfl] at hm;refine Ev.step (fun k=>by rw [xb.l1]) ?_;refine Ev.pos rfl ?_;rw [nk hO.1.2.1];refine lO l0 p v (X0:=X) hO (fun X' a' O5 hD'=>?_) _ X false (Nat.le_refl _) ⟨hI,Nat.le_refl _,(fun e=>by cases e),(fun _=>rfl)⟩ (fun _ i h1 h2=>by omega);have hc:=O5.inv.cnt;refine ih X' a' ?_ O5.inv (fun ha=>?_)
   ·cases a' with
    | true=>have:=O5.lt rfl;rw [if_pos rfl];omega
    | false=>have:=O5.le;rw [if_neg (by simp)];omega
   ·rw [O5.eq ha];exact hD' ha
theorem nO (hO:mm bs n):∀ (d j:Nat),j + d=bs.length→Ev (fun k=>xb.l0 k (List.replicate j (List.replicate n false)) (j:Int) l0 p v (n:Int) bs) (Ye bs n):=by
 have hb:=hO.1.2.1;have hn:=hO.2.1;intro d
 induction d with
 | zero =>
  intro j hj;obtain rfl:j=bs.length:=by omega
  refine Ev.step (fun k=>by rw [xb.l0]) ?_;exact Ev.neg (by omega) (mO l0 p v hO _ _ true (Nat.le_refl _) (CY.start bs n) (fun e=>by cases e))
 | succ d ih =>
  intro j hj;have h:=ih (j + 1) (by omega);rw [List.replicate_succ'] at h;refine Ev.step (fun k=>by rw [xb.l0]) ?_;rw [Int.toNat_natCast,Xd (show j < bs.length by omega) (by omega)];exact Ev.pos (by omega) (Ev.pos (by omega) (Ev.pos (by omega) (Ev.pos (by rw [List.length_replicate];omega) h)))
theorem dO (hO:mm bs n):Ev (fun k=>xb.f k l0 p v (n:Int) bs) (Ye bs n):=nO l0 p v hO bs.length 0 (by omega)
end
end Go.Proofs.Ytkigbdceceeenaa.P
end
section
namespace Go.Proofs.Ytkigbdceceeenaa.P
open Go.RowKit Go.Proofs.Ma.Tb Go.Proofs.Ma.Gd Go.Proofs.Ma.De
set_option linter.unusedVariables false
set_option linter.unusedSimpArgs false
attribute [local go_sem] Rh si wj Nj qh oh zi ri
def Ub.l0:Nat→List Bool→List Bool→Int→Int→Option (Bool)
 | 0,_,_,_,_=>none
 | k + 1,x0,x1,TZ,E_=>if E_ < TZ then (if 0 ≤ E_ then (if E_ < (x0.length:Int) then (if E_ < (x1.length:Int) then (if ((Vf false x0 E_) != (Vf false x1 E_))=true then (some false) else (Ub.l0 k x0 x1 TZ (wrap64 (E_ + 1)))) else (none)) else (none)) else (none)) else (some true)
def Ub.f (k:Nat) (l0:List Bool) (l1:List Bool):Option (Bool):=if (l0.length:Int)=(l1.length:Int) then (Ub.l0 k l0 l1 (l0.length:Int) 0) else (some false)
theorem Ub.sF:∀ k,(∀ y0 y1 y2 y3,eo (Ub.l0 k y0 y1 y2 y3) (Ub.l0 (k + 1) y0 y1 y2 y3))
 | 0=>fun _ _ _ _ r h=>by simp [Ub.l0] at h
 | k + 1=>by
  have AW:=Ub.sF k
  ·intro y0 y1 y2 y3;unfold Ub.l0
   repeat' first
   | (with_reducible exact AW _ _ _ _)
   | (with_reducible exact eo.refl _)
   | (with_reducible exact eo.none _)
   | (with_reducible refine eo.ite ?_ ?_)
   | (with_reducible refine eo.bind ?_ (fun _=>?_))
   | exact AW _ _ _ _
   | exact eo.none _
   | refine eo.ite ?_ ?_
   | refine eo.bind ?_ (fun _=>?_)
theorem Ub.mono:∀ a0 a1 k,eo (Ub.f k a0 a1) (Ub.f (k + 1) a0 a1):=by
 intro a0 a1 k;have AW:=Ub.sF k;unfold Ub.f
 repeat' first
   | (with_reducible exact AW _ _ _ _)
   | (with_reducible exact eo.refl _)
   | (with_reducible exact eo.none _)
   | (with_reducible refine eo.ite ?_ ?_)
   | (with_reducible refine eo.bind ?_ (fun _=>?_))
   | exact AW _ _ _ _
   | exact eo.none _
   | refine eo.ite ?_ ?_
   | refine eo.bind ?_ (fun _=>?_)
theorem Ub.calls (k:Nat) (A0:Option Addr) (c0:Nat) (l0:List Bool) (A1:Option Addr) (c1:Nat) (l1:List Bool) (r:Bool) (w:World) (Ul:Kd.C Kd.bool w A0 l0.length l0) (hc0:l0.length ≤ c0) (Zs:Kd.C Kd.bool w A1 l1.length l1) (xm:l1.length ≤ c1) (h:Ub.f k l0 l1=some r) :
  Calls Try.prog 80 #[.slice A0 l0.length c0,.slice A1 l1.length c1] w fun e w'=>e = .returned (.bool r)∧Wc w w':=by
 have ym:=ga.mk Ul;have eL:=ga.mk hc0;clear Ul hc0;have NB:=ga.mk Zs;have jU:=ga.mk xm;clear Zs xm;have H:(if (l0.length:Int)=(l1.length:Int) then (Ub.l0 k l0 l1 (l0.length:Int) 0) else (some false))=some r:=h;clear h
 by_cases c3:(l0.length:Int)=(l1.length:Int)
 ·rw [if_pos c3] at H;have Xh:((l0.length:Int) == (l1.length:Int))=true:=beq_iff_eq.mpr c3;have br:((l0.length:Int) != (l1.length:Int))=false:=bne_eq_false_iff_eq.mpr c3;have dG:(l0.length == l1.length)=true:=by first|simpa using c3|(simp at c3 ⊢;omega)
  clear c3;have H':=ga.mk H;clear H;go_enter Try.func80,Try.ntmps80;go_wp2
  repeat (go_quiet (fail);try go_wp2)
  go_loopg [13] k (fun kq v13 w'=>∃ (Pg:Int),v13 = .int .i64 Pg∧ga (Ub.l0 kq l0 l1 (l0.length:Int) Pg=some r)∧ga (kq ≤ k)∧Wc w w')
  case atStart=>exact ⟨(0),AaH,H',⟨Nat.le_refl _⟩,GaH⟩
  case round =>
   clear H'
   try clear c1
   try clear p2
   try clear c3
   try clear Xh
   try clear br
   try clear dG
   (try clear HA);(try clear wg);obtain ⟨Pg,rfl,HA,wg,⟨m1,rfl⟩⟩:=hrel;cases gk with
   | zero=>exact absurd HA.out (by simp [Ub.l0])
   | succ k1 =>
    have H:=HA.out;clear HA;simp only [Ub.l0] at H
    by_cases c4:Pg < (l0.length:Int)
    ·rw [if_pos c4] at H;have jk:decide (Pg < (l0.length:Int))=true:=decide_eq_true c4;clear c4
     by_cases c5:0 ≤ Pg
     ·rw [if_pos c5] at H;have fk:decide (0 ≤ Pg)=true:=decide_eq_true c5;clear c5
      by_cases c6:Pg < (l0.length:Int)
      ·rw [if_pos c6] at H;have gp:decide (Pg < (l0.length:Int))=true:=decide_eq_true c6;clear c6
       by_cases c7:Pg < (l1.length:Int)
       ·rw [if_pos c7] at H;have Xk:decide (Pg < (l1.length:Int))=true:=decide_eq_true c7;clear c7
        by_cases c8:((Vf false l0 Pg) != (Vf false l1 Pg))=true
        ·rw [if_pos c8] at H;have Zq:((Vf false l0 Pg) != (Vf false l1 Pg))=true:=c8;(try (have pM:decide ((Vf false l0 Pg)=(Vf false l1 Pg))=false:=by simpa using c8));(try (have kaj:((Vf false l0 Pg) == (Vf false l1 Pg))=false:=by simpa using c8));(try (have XaE:¬ ((Vf false l0 Pg)=(Vf false l1 Pg)):=by simpa using c8));clear c8;obtain rfl:=Option.some.inj H;have ng:0 ≤ (Pg:Int):=Ua;have mg:Pg < (l0.length:Int):=Ua;obtain ⟨We,ql,Ce⟩:=Kd.lg ym.out Pg ng mg;cases ql;replace ng:=eq_true ng;replace mg:=eq_true mg;have zj:0 ≤ (Pg:Int):=Ua;have yj:Pg < (l1.length:Int):=Ua;obtain ⟨Jf,qv,Mf⟩:=Kd.lg NB.out Pg zj yj;cases qv;replace zj:=eq_true zj;replace yj:=eq_true yj;go_wp2
         repeat (go_quiet (fail);try go_wp2)
         go_ret;exact ⟨by first|rfl|(simp;done)|(simp [*];done),GaH⟩
        ·rw [if_neg c8] at H;have Zq:((Vf false l0 Pg) != (Vf false l1 Pg))=false:=by simpa using c8
         (try (have pM:decide ((Vf false l0 Pg)=(Vf false l1 Pg))=true:=by simpa using c8));(try (have kaj:((Vf false l0 Pg) == (Vf false l1 Pg))=true:=by simpa using c8));clear c8;have H':=ga.mk H;clear H;have ng:0 ≤ (Pg:Int):=Ua;have mg:Pg < (l0.length:Int):=Ua;obtain ⟨We,ql,Ce⟩:=Kd.lg ym.out Pg ng mg;cases ql;replace ng:=eq_true ng;replace mg:=eq_true mg;have zj:0 ≤ (Pg:Int):=Ua;have yj:Pg < (l1.length:Int):=Ua;obtain ⟨Jf,qv,Mf⟩:=Kd.lg NB.out Pg zj yj;cases qv;replace zj:=eq_true zj;replace yj:=eq_true yj;go_wp2
         repeat (go_quiet (fail);try go_wp2)
         go_roundg k1
         case measure=>have:=wg.out;omega
         case rel=>exact ⟨(wrap64 (Pg + 1)),AaH,H',⟨by have:=wg.out;omega⟩,GaH⟩
       ·rw [if_neg c7] at H;exact absurd H (by simp)
      ·rw [if_neg c6] at H;exact absurd H (by simp)
     ·rw [if_neg c5] at H;exact absurd H (by simp)
    ·rw [if_neg c4] at H;have jk:decide (Pg < (l0.length:Int))=false:=decide_eq_false c4;clear c4;obtain rfl:=Option.some.inj H;go_wp2
     repeat (go_quiet (fail);try go_wp2)
     go_ret;exact ⟨by first|rfl|(simp;done)|(simp [*];done),GaH⟩
 ·rw [if_neg c3] at H;have Xh:((l0.length:Int) == (l1.length:Int))=false:=beq_eq_false_iff_ne.mpr c3;have br:((l0.length:Int) != (l1.length:Int))=true:=bne_iff_ne.mpr c3;have dG:(l0.length == l1.length)=false:=by first|simpa using c3|(simp at c3 ⊢;omega)
  obtain rfl:=Option.some.inj H;go_enter Try.func80,Try.ntmps80;go_wp2
  repeat (go_quiet (fail);try go_wp2)
  go_ret;exact ⟨by first|rfl|(simp;done)|(simp [*];done),GaH⟩
theorem cV (a b:List Bool) (hl:a.length=b.length) (hm:a.length ≤ 1048576):∀ (d i:Nat),i + d=a.length→Ev (fun k=>Ub.l0 k a b (a.length:Int) (i:Int)) (decide (a.drop i=b.drop i)):=by
 intro d
 induction d with
 | zero =>
  intro i hd;rw [List.drop_eq_nil_of_le (by omega),List.drop_eq_nil_of_le (by omega)];refine Ev.step (fun k=>by rw [Ub.l0]) ?_;exact Ev.neg (by omega) (Ev.now _)
 | succ d ih =>
  intro i hd;have h1:i < a.length:=by omega
  have h2:i < b.length:=by omega
  have ea:Vf false a (i:Int)=a[i]:=by simp [Vf,h1]
  have eb:Vf false b (i:Int)=b[i]:=by simp [Vf,h2]
  refine Ev.step (fun k=>by rw [Ub.l0]) ?_;refine Ev.pos (by omega) (Ev.pos (by omega) (Ev.pos (by omega) (Ev.pos (by omega) ?_)));rw [ea,eb,Xd h1 (by omega)]
  by_cases he:a[i]=b[i]
  ·refine Ev.neg (by rw [he];simp) ?_
   have e:decide (a.drop i=b.drop i)=decide (a.drop (i + 1)=b.drop (i + 1)):=by
    rw [List.drop_eq_getElem_cons h1,List.drop_eq_getElem_cons h2,he];exact decide_eq_decide.2 ⟨fun h=>(List.cons.inj h).2,fun h=>by rw [h]⟩
   rw [e];exact ih (i + 1) (by omega)
  ·refine Ev.pos (by simpa using he) ?_
   have e:decide (a.drop i=b.drop i)=false:=decide_eq_false (fun h=>by
    rw [List.drop_eq_getElem_cons h1,List.drop_eq_getElem_cons h2] at h
    exact he (List.cons.inj h).1)
   rw [e];exact Ev.now _
theorem mab (a b:List Bool) (hm:a.length ≤ 1048576):Ev (fun k=>Ub.f k a b) (decide (a=b)):=by
 unfold Ub.f
 by_cases hl:a.length=b.length
 ·exact Ev.pos (by omega) (cV a b hl hm a.length 0 (by omega))
 ·rw [decide_eq_false (fun e=>hl (by rw [e]))];exact Ev.neg (by omega) (Ev.now _)
noncomputable def qm.f (Qa:List Int) (Ja:Int) (Ga:Int) (Ia:Int) (Aa:List (Je)):Option (List (List Bool)):=open Classical in if 0 ≤ Ia∧mm Aa Ia.toNat then some (Ye Aa Ia.toNat) else none
theorem qm.calls (Ya:Option Addr) (Za:Nat) (Qa:List Int) (Ja:Int) (Ga:Int) (Ia:Int) (Mb:Option Addr) (Cb:Nat) (Aa:List (Je)) (r:List (List Bool)) (w:World) (Ud:Kd.C (Kd.int .i64) w Ya Qa.length Qa) (Rd:Qa.length ≤ Za) (yf:Kd.C Fq w Mb Aa.length Aa) (kf:Aa.length ≤ Cb) (h:qm.f Qa Ja Ga Ia Aa=some r) :
  Calls Try.prog 47 #[.agg #[.slice Ya Qa.length Za,.int .i64 Ja,.int .i64 Ga,.int .i64 Ia,.slice Mb Aa.length Cb]] w fun e w'=>∃ Nl:Value,e = .returned (Nl)∧Kd.S (Kd.slice 4 Kd.bool) 60 w' w.heap.size (fun _=>True) Nl r∧Below w.heap.size w w':=by
 unfold qm.f at h
 by_cases hf:0 ≤ Ia∧mm Aa Ia.toNat
 case neg=>rw [if_neg hf] at h;cases h
 rw [if_pos hf] at h;obtain rfl:=Option.some.inj h;obtain ⟨hn0,hO⟩:=hf;obtain ⟨n,rfl⟩:∃ n:Nat,Ia=(n:Int):=⟨Ia.toNat,(Int.toNat_of_nonneg hn0).symm⟩;have naF:=ga.mk (show Ye Aa ((n:Int)).toNat=Ye Aa n from by rw [Int.toNat_natCast]);rw [Int.toNat_natCast] at hO;clear h hn0;have HO:=ga.mk hO;have hn:n ≤ 1048576:=hO.2.1;have hm0:0 < Aa.length:=hO.1.1;have hm1:Aa.length ≤ 1048576:=hO.1.2.1;clear hO;obtain ⟨W1,qg⟩:∃ W1,W1=((w.alloc (.cells #[.slice Ya Qa.length Za,.int .i64 Ja,.int .i64 Ga,.int .i64 (n:Int),.slice Mb Aa.length Cb] 30 (0,0))).alloc (.cells #[] 60 (0,0))).alloc (.cells #[] 60 (0,0)):=⟨_,rfl⟩;have HW:=ga.mk qg
 have HA:=ga.mk (show ur w (Ty Ya Qa.length Za Ja Ga n Mb Aa.length Cb) (fun k=>k=w.heap.size + 1) (.slice (some ⟨w.heap.size + 1,0,none⟩) 0 0) (.slice (some ⟨w.heap.size + 2,0,none⟩) 0 0) [] [] W1 from by
  have z1:(w.alloc (.cells #[.slice Ya Qa.length Za,.int .i64 Ja,.int .i64 Ga,.int .i64 (n:Int),.slice Mb Aa.length Cb] 30 (0,0))).heap.size=w.heap.size + 1:=by simp
  have b1:=xj w (.cells #[.slice Ya Qa.length Za,.int .i64 Ja,.int .i64 Ga,.int .i64 (n:Int),.slice Mb Aa.length Cb] 30 (0,0));have e1:=qa (Below.refl w.heap.size w) (.cells #[.slice Ya Qa.length Za,.int .i64 Ja,.int .i64 Ga,.int .i64 (n:Int),.slice Mb Aa.length Cb] 30 (0,0));rw [qg];generalize w.alloc (.cells #[.slice Ya Qa.length Za,.int .i64 Ja,.int .i64 Ga,.int .i64 (n:Int),.slice Mb Aa.length Cb] 30 (0,0))=u1 at z1 b1 e1 ⊢;have z2:(u1.alloc (.cells #[] 60 (0,0))).heap.size=w.heap.size + 2:=by simp [z1]
  have s1:=DB (Kd.slice 4 Kd.bool) 60 u1 w.heap.size (by omega);have e2:=qa (Below.refl u1.heap.size u1) (.cells #[] 60 (0,0));rw [z1] at s1;generalize u1.alloc (.cells #[] 60 (0,0))=u2 at z2 s1 e2 ⊢;have s2:=DB (Kd.slice 4 Kd.bool) 60 u2 w.heap.size (by omega);have e3:=qa (Below.refl u2.heap.size u2) (.cells #[] 60 (0,0));have z3:(u2.alloc (.cells #[] 60 (0,0))).heap.size=w.heap.size + 3:=by simp [z2]
  rw [z2] at s2
  exact ⟨Ra (Ra e1 e2) e3,Va (Va b1 e2) e3,Kd.Oh s1 e3,Kd.Ah s2 (fun k hk=>⟨by omega,by omega⟩),fun k hk=>⟨by omega,by omega⟩⟩)
 have NH:=ga.mk yf;have jN:=ga.mk kf;clear qg Ud yf Rd kf;go_enter Try.func47,Try.ntmps47
 go_upto_region 2 with (fail)
 rw [← HW.out];clear HW;have Gq:=qW HA.out;go_wp2;clear Gq
 go_loopg [3,4,19] Aa.length (fun gg v3 v4 v19 wr=>∃ (j:Nat) (PB:Nat→Prop),j ≤ Aa.length∧Aa.length - j ≤ gg∧v19 = .int .i64 j∧ga (ur w (Ty Ya Qa.length Za Ja Ga n Mb Aa.length Cb) PB v3 v4 (List.replicate j (List.replicate n false)) (List.replicate j (List.replicate n false)) wr))
 case atStart=>exact ⟨0,_,Nat.zero_le _,by omega,rfl,HA⟩
 case round =>
  clear HA;(try clear PB);(try clear HA);obtain ⟨j,PB,hj,AV,rfl,HA⟩:=hrel
  by_cases hlt:j < Aa.length
  ·have Ns:decide ((j:Int) < (Aa.length:Int))=true:=decide_eq_true (by omega);have Hq:=nD HA.out;have O8:(0:Int) ≤ (n:Int):=by omega
   have f_:=ga.mk (show ((n:Int)).toNat * 1 ≤ 281474976710656 from by omega);have HLL:=ga.mk (show ((List.replicate j (List.replicate n false)).length + 1) * 24 ≤ 140737488355328 from by rw [List.length_replicate];omega)
   go_upto_region 5 with (first|((with_reducible refine Ab (N:=24) rfl ?_);refine Kd.jr Kd.bool (w0:=wr) wr.heap.size 4 rfl (N:=24) rfl 60 _ _ rfl (n:Int) rfl rfl Try.underlying60 (.bool false) 1 Ir rfl (by decide) (by omega) false (ok:=fun k=>wr.heap.size ≤ k) (Dh:=fun k=>wr.heap.size ≤ k) rfl (fun _ hk=>hk) (Nat.le_refl _) O8 f_.out (Below.refl _ _) (Nat.le_refl _) ?_;intro v24 OV ho hb hg hat;rw [Int.toNat_natCast] at ho;obtain ⟨A24,CH,rfl⟩:=Kd.od ho;have aal:=ga.mk (JP ho HA.out.bl.size);simp only [List.length_replicate] at aal;have oad:=ga.mk hb;have Hak:=ga.mk (Ra HA.out.bl hb);clear ho hb hg hat Hq)|((with_reducible refine Ab (N:=26) rfl ?_);refine Kd.EB (Kd.slice 4 Kd.bool) (w0:=w) w.heap.size rfl (.tmp 21) (.tmp 25) 55 60 (.slice none 0 0) 24 rfl Try.underlying55 BF rfl (by decide) (by omega) _ (List.replicate j (List.replicate n false)) (List.replicate n false) _ (fun k=>PB k ∨ wr.heap.size ≤ k) (fun k=>wr.heap.size ≤ k) rfl rfl aal.out HA.out.neX (HA.out.frX oad.out) (HA.out.okX oad.out) Hak.out Hak.out.size HLL.out ?_;intro v26 zp hs hb hg hat;have E7:=ga.mk (HA.out.aac oad.out hs hb hg);clear hs hb hg hat))
   have Hq:=nD E7.out
   go_upto_region 6 with (first|((with_reducible refine Ab (N:=30) rfl ?_);refine Kd.jr Kd.bool (w0:=zp) zp.heap.size 4 rfl (N:=30) rfl 60 _ _ rfl (n:Int) rfl rfl Try.underlying60 (.bool false) 1 Ir rfl (by decide) (by omega) false (ok:=fun k=>zp.heap.size ≤ k) (Dh:=fun k=>zp.heap.size ≤ k) rfl (fun _ hk=>hk) (Nat.le_refl _) O8 f_.out (Below.refl _ _) (Nat.le_refl _) ?_;intro v30 GG ho hb hg hat;rw [Int.toNat_natCast] at ho;obtain ⟨Kz,ZK,rfl⟩:=Kd.od ho;have Zak:=ga.mk (JP ho E7.out.bl.size);simp only [List.length_replicate] at Zak;have nad:=ga.mk hb;have Gak:=ga.mk (Ra E7.out.bl hb);clear ho hb hg hat Hq)|((with_reducible refine Ab (N:=32) rfl ?_);refine Kd.EB (Kd.slice 4 Kd.bool) (w0:=w) w.heap.size rfl (.tmp 27) (.tmp 31) 55 60 (.slice none 0 0) 24 rfl Try.underlying55 BF rfl (by decide) (by omega) _ (List.replicate j (List.replicate n false)) (List.replicate n false) _ _ (fun k=>zp.heap.size ≤ k) rfl rfl Zak.out E7.out.neY (E7.out.frY nad.out) (E7.out.okY nad.out) Gak.out Gak.out.size HLL.out ?_;intro v32 XM hs hb hg hat;have HA2:=ga.mk (E7.out.Uaw nad.out hs hb hg);clear hs hb hg hat))
   go_wp2
   go_roundg (Aa.length - (j + 1))
   case measure=>omega
   case rel =>
    have h2:=HA2.out;rw [← List.replicate_succ'] at h2;exact ⟨j + 1,_,by omega,by omega,by go_num,⟨h2⟩⟩
  ·have Ns:decide ((j:Int) < (Aa.length:Int))=false:=decide_eq_false (by omega);have hje:j=Aa.length:=by omega
   have ha:=HA.out;rw [hje] at ha;obtain ⟨gX,cX,gY,cY,rfl,rfl⟩:=ha.forms hm0;clear HA;have HA:=ga.mk ha;clear ha hje AV hj;have HV:=ga.mk (DG.start Aa n);generalize List.replicate Aa.length (List.replicate n false)=X0 at HA HV;have HM0:=ga.mk HV.out.cnt;go_wp2;clear hlt Ns
   go_loopg [5] (n * Aa.length + 1) (fun gg v5 wr=>∃ (X Y:List (List Bool)) (a:Bool),v5 = .bool a∧n * Aa.length - Yq Y + (if a=true then 1 else 0) ≤ gg∧ga (DG Aa n X Y)∧ga (a=false→∀ i,i < Aa.length→StE Aa X Y i)∧ga (ur w (Ty Ya Qa.length Za Ja Ga n Mb Aa.length Cb) PB (.slice (some ⟨gX,0,none⟩) Aa.length cX) (.slice (some ⟨gY,0,none⟩) Aa.length cY) X Y wr))
   case atStart=>exact ⟨X0,X0,true,rfl,by rw [if_pos rfl];omega,HV,⟨fun e=>by cases e⟩,HA⟩
   case round =>
    clear HV HA HM0;(try clear X);(try clear Y);(try clear HV);(try clear S6);(try clear HA);obtain ⟨X,Y,a,rfl,AV,HV,S6,HA⟩:=hrel;cases a with
    | false =>
     have HDN:=ga.mk (HV.out.done HO.out (S6.out rfl));go_wp2;go_ret;exact ⟨_,rfl,by rw [← HDN.out];exact Kd.Ah HA.out.x (fun _ _=>trivial),HA.out.bl⟩
    | true =>
     have taf:=AV;rw [if_pos rfl] at taf;have HS:=ga.mk (show LvS Aa X Y (Yq Y) false Aa.length from ⟨Nat.le_refl _,(fun e=>by cases e),(fun _ k h1 h2=>by omega)⟩);clear S6 AV;generalize Yq Y=C at HS taf;have Gq:=qW HA.out;have NW:wrap64 ((Aa.length:Int) - 1)=(Aa.length:Int) - 1:=by unfold wrap64;omega
     have HWR:=ga.mk NW;clear NW;go_wp2;clear Gq
     go_loopg [5,6] Aa.length (fun g3 v5 v6 wr=>∃ (z:Int) (q:Nat) (X Y:List (List Bool)) (a:Bool),v5 = .bool a∧v6 = .int .i64 z∧z + 1=(q:Int)∧q ≤ Aa.length∧q ≤ g3∧ga (DG Aa n X Y)∧ga (LvS Aa X Y C a q)∧ga (ur w (Ty Ya Qa.length Za Ja Ga n Mb Aa.length Cb) PB (.slice (some ⟨gX,0,none⟩) Aa.length cX) (.slice (some ⟨gY,0,none⟩) Aa.length cY) X Y wr))
     case atStart=>exact ⟨(Aa.length:Int) - 1,Aa.length,X,Y,false,rfl,by first|rfl|(go_simp;done)|exact congrArg _ HWR.out|go_num,by omega,Nat.le_refl _,Nat.le_refl _,HV,HS,HA⟩
     case round =>
      clear HV HS HA;(try clear X);(try clear Y);(try clear HV);(try clear HS);(try clear HA);obtain ⟨z,q,X,Y,a,rfl,rfl,hz,hq,aN,HV,HS,HA⟩:=hrel
      by_cases hz0:0 ≤ z
      ·obtain ⟨i,rfl⟩:∃ i:Nat,z=(i:Int):=⟨z.toNat,(Int.toNat_of_nonneg hz0).symm⟩;obtain rfl:q=i + 1:=by omega
       have hi:i < Aa.length:=by omega
       have CW:decide ((i:Int) ≥ 0)=true:=decide_eq_true (by omega);obtain ⟨ag,Ac,cc,e1,hc0,xm,My,OC,fK,Kt,EX⟩:=sj NH.out (i:Int) (by omega) (by omega);subst e1;have Gq:=qW HA.out;simp only [Int.toNat_natCast] at hc0 xm My OC fK;have mZ:=ga.mk EX;have q_:=ga.mk Kt;replace hc0:=Wb hc0 (Kept.ic HA.out.bl (fun _=>False)) id;replace xm:=Wb xm (Kept.ic HA.out.bl (fun _=>False)) id;replace My:=Wb My (Kept.ic HA.out.bl (fun _=>False)) id;replace OC:=Wb OC (Kept.ic HA.out.bl (fun _=>False)) id;replace fK:=Wb fK (Kept.ic HA.out.bl (fun _=>False)) id;have q1:0 ≤ (i:Int):=by omega
       have q2:(i:Int) < (Aa.length:Int):=by omega
       have Uak:=ga.mk (show om.f (za Aa (i:Int)).f0 (za Aa (i:Int)).f1 (za Aa (i:Int)).f2 (za Aa (i:Int)).f3 (za Aa (i:Int)).f4=some (Vs Aa i) from BU _);clear EX Kt
       go_upto_region 14 with (fail)
       have qw:=qa (Below.refl wr.heap.size wr) (.cells #[.slice Ac (za Aa (i:Int)).f0.length cc,.int .i64 (za Aa (i:Int)).f1,.int .i64 (za Aa (i:Int)).f2,.int .i64 (za Aa (i:Int)).f3,.int .i64 (za Aa (i:Int)).f4] 59 (0,0));have wz:=xj wr (.cells #[.slice Ac (za Aa (i:Int)).f0.length cc,.int .i64 (za Aa (i:Int)).f1,.int .i64 (za Aa (i:Int)).f2,.int .i64 (za Aa (i:Int)).f3,.int .i64 (za Aa (i:Int)).f4] 59 (0,0));generalize wr.alloc (.cells #[.slice Ac (za Aa (i:Int)).f0.length cc,.int .i64 (za Aa (i:Int)).f1,.int .i64 (za Aa (i:Int)).f2,.int .i64 (za Aa (i:Int)).f3,.int .i64 (za Aa (i:Int)).f4] 59 (0,0))=sr at qw wz ⊢;have Ew:=ga.mk (HA.out.below qw);have Wl:=ga.mk wz;have HPQ:=ga.mk (show ¬ PB wr.heap.size from fun e=>by have:=(HA.out.pb _ e).2;omega);have HCD:=ga.mk (Kd.Nb mZ.out Ew.out.bl);clear qw wz HA Gq hc0 xm My OC fK q1 q2 CW hz0;generalize wr.heap.size=q7 at Wl HPQ ⊢;have zy:=(ia Wl.out 0).trans rfl;have N8:=(ia Wl.out 1).trans rfl;have h72:=(ia Wl.out 2).trans rfl;have h73:=(ia Wl.out 3).trans rfl;have h74:=(ia Wl.out 4).trans rfl;have htl:(Vs Aa i).length ≤ 2:=UL _;go_wp2_with (first|(go_at_call 78;(with_reducible refine (om.calls Ac cc (za Aa (i:Int)).f0 (za Aa (i:Int)).f1 (za Aa (i:Int)).f2 (za Aa (i:Int)).f3 (za Aa (i:Int)).f4 (Vs Aa i) sr HCD.out q_.out Uak.out).mono ?_);rintro e zm ⟨v15,rfl,ho,hb⟩;obtain ⟨An,cn,rfl⟩:=Kd.od ho;have Nak:=ga.mk ho;have qo:=ga.mk hb;clear ho hb zy N8 h72 h73 h74));have Fal:=ga.mk (Ew.out.below qo.out);have OB:=ga.mk (Va Wl.out qo.out);have HNC:=ga.mk (Kd.wG (S:=PB) (Kd.xd (Kd.ug Nak.out) (fun k hk=>hk.2.1)) (fun k hk e=>by have:=(Ew.out.pb k e).2;omega));have HR:=ga.mk (show LvR Aa n X Y i X from ⟨HV.out,fun _ _=>rfl⟩);have HT:=ga.mk (show JZ (Vs Aa i) 0 Y X i from fun t ht=>by simp at ht);clear Ew Nak qo HCD Wl Uak
       go_loopg [51] (Vs Aa i).length (fun g4 v51 wr=>∃ (j:Nat) (X':List (List Bool)),v51 = .int .i64 j∧j ≤ (Vs Aa i).length∧(Vs Aa i).length - j ≤ g4∧ga (LvR Aa n X Y i X')∧ga (JZ (Vs Aa i) j Y X' i)∧ga (ur w (Ty Ya Qa.length Za Ja Ga n (some ag) Aa.length Cb) PB (.slice (some ⟨gX,0,none⟩) Aa.length cX) (.slice (some ⟨gY,0,none⟩) Aa.length cY) X' Y wr)∧ga (Kept zm wr PB))
       case atStart=>exact ⟨0,X,rfl,Nat.zero_le _,by omega,HR,HT,Fal,⟨Kept.refl _ _⟩⟩
       case round =>
        clear HR HT Fal;(try clear X);(try clear HR);(try clear HT);(try clear HA);(try clear HK);obtain ⟨j,X',rfl,hj,WK,HR,HT,HA,HK⟩:=hrel
        by_cases hjt:j < (Vs Aa i).length
        ·have Aaa:decide ((j:Int) < ((Vs Aa i).length:Int))=true:=decide_eq_true (by omega);have r1:0 ≤ (j:Int):=by omega
         have r2:(j:Int) < ((Vs Aa i).length:Int):=by omega
         obtain ⟨an,tn,e1,ht,htn,hx⟩:=B1 HO.out.1 hi hjt (HNC.out wr HK.out);subst e1;have HTN:=ga.mk ht;have HTM:=ga.mk (List.getElem_mem hjt);obtain ⟨Ay,cy,hcy,hfy,hly,hCy,hKy⟩:=HA.out.I0 htn;have Z6:=ga.mk hKy;have HYN:=ga.mk (HV.out.yr tn htn);have hyn:(qe Y tn).length ≤ 1048576:=by have:=HYN.out;omega
         have t1:0 ≤ (tn:Int):=by omega
         have t2:(tn:Int) < (Aa.length:Int):=by omega
         have HTS:=ga.mk (show TkS tn 0 Y X' i from fun u hu=>by omega);clear ht hCy hKy hfy;go_wp2;clear hcy hx t1 t2 r1 r2 Aaa
         go_loopg [60] (qe Y tn).length (fun g5 v60 wr=>∃ (s:Nat) (DV:List (List Bool)),v60 = .int .i64 s∧s ≤ (qe Y tn).length∧(qe Y tn).length - s ≤ g5∧ga (LvR Aa n X Y i DV)∧ga (JZ (Vs Aa i) j Y DV i)∧ga (TkS tn s Y DV i)∧ga (ur w (Ty Ya Qa.length Za Ja Ga n (some ag) Aa.length Cb) PB (.slice (some ⟨gX,0,none⟩) Aa.length cX) (.slice (some ⟨gY,0,none⟩) Aa.length cY) DV Y wr)∧ga (Kept zm wr PB)∧ga (∀ W,Kept wr W PB→Kd.C Kd.bool W Ay (qe Y tn).length (qe Y tn)))
         case atStart=>exact ⟨0,X',rfl,Nat.zero_le _,by omega,HR,HT,HTS,HA,HK,Z6⟩
         case round =>
          clear HR HT HTS HA HK Z6;(try clear X);(try clear HR);(try clear HT);(try clear HTS);(try clear HA);(try clear HK);(try clear Z6);obtain ⟨s,DV,rfl,hs,hg5,HR,HT,HTS,HA,HK,Z6⟩:=hrel
          by_cases hst:s < (qe Y tn).length
          ·have Bau:decide ((s:Int) < ((qe Y tn).length:Int))=true:=decide_eq_true (by omega);have s1:0 ≤ (s:Int):=by omega
           have s2:(s:Int) < ((qe Y tn).length:Int):=by omega
           have hxl:(qe DV i).length=(qe Y tn).length:=by rw [HYN.out,HR.out.inv.xr i hi]
           have s3:(s:Int) < ((qe DV i).length:Int):=by omega
           have HXL:=ga.mk hxl;have i1:0 ≤ (i:Int):=by omega
           have i2:(i:Int) < (Aa.length:Int):=by omega
           obtain ⟨ay,e2,hy⟩:=cA (Z6.out wr (Kept.refl _ _)) hst;subst e2;obtain ⟨gi,ci,hcx,hce,hfz,hpg,hput⟩:=(HA.out.below (vo (Below.refl wr.heap.size wr))).cau hi (show s < (qe DV i).length by omega);have J5:wr.cell? ⟨gX,i,none⟩=some (.slice (some ⟨gi,0,none⟩) (qe DV i).length ci):=hcx;have K5:wr.cell? ⟨gi,s,none⟩=some (.bool (seen (qe DV i) s)):=hce;obtain ⟨Zs,hr2,hr3⟩:=HR.out.step HO.out.1 hi HTM.out HTN.out (by have:=HYN.out;omega) HT.out HTS.out;have HPG:=ga.mk hpg;clear hxl hpg;cases hold:seen (qe DV i) s with
           | true =>
            rw [hold,Bool.true_or] at Zs hr2 hr3;rw [hold] at K5 hce;have HP:=ga.mk (hput true);have HRS:=ga.mk (And.intro Zs (And.intro hr2 hr3));have EV:=ga.mk (And.intro hce hfz);clear Zs hr2 hr3 hput hcx hce hfz hold
            go_upto_region 20 with (fail)
            go_still_tail 16,(by kernel_rfl)
            have wg:=ga.mk ((HK.out.drew).setCell (p:=⟨gi,s,none⟩) (Or.inl HPG.out) (.bool true));have jZ:=ga.mk (Kd.yD Z6.out (((Kept.refl wr PB).drew).setCell (p:=⟨gi,s,none⟩) (Or.inl HPG.out) (.bool true)));obtain ⟨hce,hfz⟩:=EV.out;have EV:=ga.mk hce;clear J5 K5 hy HA HK Z6
            change wpList _ _ _ _ _ wr.drew
            generalize wr.drew=wd at HP wg jZ hce hfz ⊢;go_wp2
            go_roundg ((qe Y tn).length - (s + 1))
            case measure=>omega
            case rel=>exact ⟨s + 1,_,by go_num,by omega,by omega,⟨HRS.out.1⟩,⟨HRS.out.2.1⟩,⟨HRS.out.2.2⟩,HP,wg,jZ⟩
           | false =>
            rw [hold,Bool.false_or] at Zs hr2 hr3;rw [hold] at K5 hce;have HP:=ga.mk (hput (seen (qe Y tn) s));have HRS:=ga.mk (And.intro Zs (And.intro hr2 hr3));have EV:=ga.mk (And.intro hce hfz);clear Zs hr2 hr3 hput hcx hce hfz hold
            go_upto_region 20 with (fail)
            go_still_tail 16,(by kernel_rfl)
            have wg:=ga.mk ((HK.out.drew).setCell (p:=⟨gi,s,none⟩) (Or.inl HPG.out) (.bool (seen (qe Y tn) s)));have jZ:=ga.mk (Kd.yD Z6.out (((Kept.refl wr PB).drew).setCell (p:=⟨gi,s,none⟩) (Or.inl HPG.out) (.bool (seen (qe Y tn) s))));obtain ⟨hce,hfz⟩:=EV.out;have EV:=ga.mk hce;clear J5 K5 hy HA HK Z6
            change wpList _ _ _ _ _ wr.drew
            generalize wr.drew=wd at HP wg jZ hce hfz ⊢;go_wp2
            go_roundg ((qe Y tn).length - (s + 1))
            case measure=>omega
            case rel=>exact ⟨s + 1,_,by go_num,by omega,by omega,⟨HRS.out.1⟩,⟨HRS.out.2.1⟩,⟨HRS.out.2.2⟩,HP,wg,jZ⟩
          ·have Bau:decide ((s:Int) < ((qe Y tn).length:Int))=false:=decide_eq_false (by omega);have HTJ:=ga.mk (HT.out.next hjt HTN.out (by have h2:=HTS.out;rwa [show s=(qe Y tn).length by omega] at h2));go_wp2
           go_roundg ((Vs Aa i).length - (j + 1))
           case measure=>omega
           case rel=>exact ⟨j + 1,DV,by go_num,by omega,by omega,HR,HTJ,HA,HK⟩
        ·have Aaa:decide ((j:Int) < ((Vs Aa i).length:Int))=false:=decide_eq_false (by omega);have HTJ:=ga.mk (show JZ (Vs Aa i) (Vs Aa i).length Y X' i by have h2:=HT.out;rwa [show j=(Vs Aa i).length by omega] at h2);obtain ⟨wk,rfl⟩:∃ wk,wk=wr:=⟨_,rfl⟩;have HQK:=ga.mk (Ve OB.out HK.out HPQ.out);have eP:=ga.mk (Nc HQK.out);have HLR:=ga.mk (HR.out.inv.xr i hi);obtain ⟨Ax,cx,hcx,hCx,hlx⟩:=HA.out.Uat hi;have D7:=ga.mk (qa (Below.refl wk.heap.size wk) (.cells #[] 4 (0,0)));have HCX:=ga.mk (Kd.Nb hCx D7.out);have HEM:=ga.mk (NT Kd.bool 4 wk wk.heap.size (Nat.le_refl _));have HLN:=ga.mk (show (([]:List Bool).length + (qe X' i).length) * 1 ≤ 140737488355328 from by have:=HLR.out;simp;omega);have J5:=Wb hcx (Kept.ic D7.out (fun _=>False)) id;have i1:0 ≤ (i:Int):=by omega
         have i2:(i:Int) < (Aa.length:Int):=by omega
         clear hCx HK HNC HT OB
         go_upto_region 24 with (first|((with_reducible refine Ab (N:=88) rfl ?_);refine Kd.vk Kd.bool (w0:=wk) wk.heap.size rfl (.tmp 83) (.tmp 87) 60 4 (.bool false) 1 rfl Try.underlying60 Ir rfl (by decide) (by omega) (.slice (some ⟨wk.heap.size,0,none⟩) 0 0) [] (qe X' i) Ax (qe X' i).length cx (fun _=>True) (fun _=>False) rfl rfl HEM.out HCX.out (fun _ _ h=>h) (fun _ hk=>hk.elim) (fun _ _=>trivial) D7.out D7.out.size HLN.out ?_;intro v12 Ks ho PC OG hat;rw [List.nil_append] at ho;obtain ⟨As,cs,rfl⟩:=Kd.od ho;have U6:=ga.mk ho;have OK:=ga.mk PC;clear ho PC OG hat hcx J5))
         clear D7 HCX HEM HLN hlx hjt Aaa hj WK i1 i2;have kP:=ga.mk (Ms HO.out hi);have sV:=ga.mk (Va HQK.out OK.out);have N8:Ks.cell? ⟨q7,1,none⟩=some (.int .i64 (za Aa (i:Int)).f1):=(ia sV.out 1).trans rfl
         by_cases JL:(za Aa (i:Int)).f1=0
         case' pos =>
          have hfa:((za Aa (i:Int)).f1 == 0)=true:=beq_iff_eq.2 JL;have hfb:((za Aa (i:Int)).f1 != 0)=false:=by rw [JL];rfl
          have qV:=ga.mk (show Kd.R Kd.bool 4 Ks wk.heap.size (fun _=>True) (.slice As (qe X' i).length cs) (Ph (za Aa (i:Int)) (qe X' i)) from by rw [show Ph (za Aa (i:Int)) (qe X' i)=qe X' i from if_pos JL];exact U6.out);have nZ:=OK;have bZ:=sV
          go_upto_region 26 with (fail)
          clear N8 hfa hfb U6 OK sV JL;generalize Ks=zp at qV nZ bZ ⊢
         case' neg =>
          have hfa:((za Aa (i:Int)).f1 == 0)=false:=beq_eq_false_iff_ne.2 JL;have hfb:((za Aa (i:Int)).f1 != 0)=true:=bne_iff_ne.2 JL;obtain ⟨f20,f21⟩:=kP.out.2.1 JL;obtain ⟨u,hu⟩:∃ u:Nat,(za Aa (i:Int)).f2=(u:Int):=⟨(za Aa (i:Int)).f2.toNat,(Int.toNat_of_nonneg f20).symm⟩;have DZ:u < (qe X' i).length:=by have:=HLR.out;omega
          have yau:(u:Int) < ((qe X' i).length:Int):=by omega
          have hu0:0 ≤ (u:Int):=by omega
          have h72:Ks.cell? ⟨q7,2,none⟩=some (.int .i64 (u:Int)):=by rw [← hu];exact (ia sV.out 2).trans rfl
          obtain ⟨gs,e3,hgs,hcs,hfs,hput⟩:=JY U6.out DZ;obtain ⟨hr,hg⟩:=hput true;have qV:=ga.mk (show Kd.R Kd.bool 4 (Ks.setCell ⟨gs,u,none⟩ (.bool true)) wk.heap.size (fun _=>True) (.slice As (qe X' i).length cs) (Ph (za Aa (i:Int)) (qe X' i)) from by rw [show Ph (za Aa (i:Int)) (qe X' i)=(qe X' i).set u true from by unfold Ph;rw [if_neg JL,hu,Int.toNat_natCast]];exact hr);have nZ:=ga.mk (OK.out.grown hg OK.out.size (fun k e=>by injection e with e;omega));have bZ:=ga.mk (Vc sV.out hg (fun e=>by injection e with e;have:=eP.out;omega));subst e3;clear hr hg hput f20 f21 hu DZ
          go_upto_region 26 with (fail)
          clear N8 h72 hfa hfb U6 OK sV JL hcs hfs hgs yau hu0;generalize Ks.setCell ⟨gs,u,none⟩ (.bool true)=zp at qV nZ bZ ⊢;generalize (some ⟨gs,0,none⟩:Option Addr)=As at qV ⊢
         all_goals
          have zy:zp.cell? ⟨q7,0,none⟩=some (.slice Ac (za Aa (i:Int)).f0.length cc):=(ia bZ.out 0).trans rfl;have Kt:(za Aa (i:Int)).f0.length ≤ 1048576:=kP.out.1;have NW:wrap64 (((za Aa (i:Int)).f0.length:Int) - 1)=((za Aa (i:Int)).f0.length:Int) - 1:=by unfold wrap64;omega
          have HWR:=ga.mk NW;clear NW;go_wp2;clear zy
          go_loopg [13] (za Aa (i:Int)).f0.length (fun g6 v13 wr=>∃ (z:Int) (q:Nat),v13 = .int .i64 z∧z + 1=(q:Int)∧q ≤ (za Aa (i:Int)).f0.length∧q ≤ g6∧ga (Kd.R Kd.bool 4 wr wk.heap.size (fun _=>True) (.slice As (qe X' i).length cs) (Et (za Aa (i:Int)).f0 q (Ph (za Aa (i:Int)) (qe X' i))))∧ga (Below wk.heap.size wk wr))
          case atStart=>exact ⟨((za Aa (i:Int)).f0.length:Int) - 1,(za Aa (i:Int)).f0.length,by first|rfl|(go_simp;done)|exact congrArg _ HWR.out|go_num,by omega,Nat.le_refl _,Nat.le_refl _,⟨by rw [uv];exact qV.out⟩,nZ⟩
          case round =>
           clear qV nZ bZ;(try clear dP);(try clear NK);obtain ⟨z,q,rfl,hz6,hq6,hg6,dP,NK⟩:=hrel
           by_cases hz0:0 ≤ z
           ·obtain ⟨p,rfl⟩:∃ p:Nat,z=(p:Int):=⟨z.toNat,(Int.toNat_of_nonneg hz0).symm⟩;obtain rfl:q=p + 1:=by omega
            have hp:p < (za Aa (i:Int)).f0.length:=by omega
            have CW:decide ((p:Int) ≥ 0)=true:=decide_eq_true (by omega);have p1:0 ≤ (p:Int):=by omega
            have p2:(p:Int) < ((za Aa (i:Int)).f0.length:Int):=by omega
            have zy:wr.cell? ⟨q7,0,none⟩=some (.slice Ac (za Aa (i:Int)).f0.length cc):=(ia (Va HQK.out NK.out) 0).trans rfl;obtain ⟨aI,e5,k0,k1,k2,k3,k4,k5,k6⟩:=jm (Kd.Nb mZ.out (Ra HA.out.bl NK.out)) (p:Int) (by omega) (by omega);subst e5;simp only [Int.toNat_natCast] at k0 k1 k2 k3 k4 k5 k6;obtain ⟨kb,tQ⟩:=Ev.rounds (nK (Et (za Aa (i:Int)).f0 (p + 1) (Ph (za Aa (i:Int)) (qe X' i))) (Ea (za Aa (i:Int)).f0 (p:Int)) (by rw [Cy,Sl,HLR.out];exact Zv kP.out hp));have HKB:=ga.mk tQ;have hwp:wrap64 ((p:Int) - 1)=(p:Int) - 1:=by unfold wrap64;omega
            have HWP:=ga.mk hwp;clear tQ hwp hz0;go_wp2_with (first|(go_at_call 79;(with_reducible refine (Zd.calls kb (fun _=>True) (.slice As (qe X' i).length cs) (Et (za Aa (i:Int)).f0 (p + 1) (Ph (za Aa (i:Int)) (qe X' i))) (Ea (za Aa (i:Int)).f0 (p:Int)).f0 (Ea (za Aa (i:Int)).f0 (p:Int)).f1 (Ea (za Aa (i:Int)).f0 (p:Int)).f2 (Ea (za Aa (i:Int)).f0 (p:Int)).f3 (Ea (za Aa (i:Int)).f0 (p:Int)).f4 (Ea (za Aa (i:Int)).f0 (p:Int)).f5 (Ea (za Aa (i:Int)).f0 (p:Int)).f6 _ wk wr NK.out dP.out HKB.out).mono ?_);rintro e AP ⟨rfl,ho,hb,-⟩;have HS7:=ga.mk ho;have FV:=ga.mk hb;clear ho hb zy k0 k1 k2 k3 k4 k5 k6))
            go_roundg p
            case measure=>omega
            case rel=>exact ⟨(p:Int) - 1,p,by first|rfl|(go_simp;done)|exact congrArg _ HWP.out|go_num,by omega,by omega,Nat.le_refl _,⟨by rw [gr hp];exact Kd.xd HS7.out (fun _ _=>trivial)⟩,FV⟩
           ·have CW:decide (z ≥ 0)=false:=decide_eq_false (by omega);obtain rfl:q=0:=by omega
            have HSI:=ga.mk (show Kd.R Kd.bool 4 wr wk.heap.size (fun _=>True) (.slice As (qe X' i).length cs) (oD (za Aa (i:Int)) (qe X' i)) from dP.out);obtain ⟨Ay,cy,hcy,hfy,hly,hCy,-⟩:=(HA.out.below NK.out).I0 hi;obtain ⟨HN1,HN2⟩:=HS.out.next HO.out hi HR.out HTJ.out;have HN1:=ga.mk HN1;have HN2:=ga.mk HN2;obtain ⟨ke,hke⟩:=Ev.rounds (mab (oD (za Aa (i:Int)) (qe X' i)) (qe Y i) (by rw [Jr,HLR.out];omega));have hEQ:=Ub.calls ke As cs (oD (za Aa (i:Int)) (qe X' i)) Ay cy (qe Y i) _ wr (Kd.Rb HSI.out).2.2 (by have:=(Kd.Rb HSI.out).2.1;rw [Jr];exact this) hCy hly hke;rw [Jr] at hEQ;have hU:=ga.mk hEQ;have i1:0 ≤ (i:Int):=by omega
            have i2:(i:Int) < (Aa.length:Int):=by omega
            clear hEQ hke hCy hfy hly;cases a with
            | true =>
             go_upto_region 31 with (fail)
             clear hcy;have FV:=NK;have HP:=ga.mk (HA.out.rae FV.out hi HSI.out);obtain ⟨Az,cz,hcz,hfz,-⟩:=(HA.out.below FV.out).I0 hi;have hwi:wrap64 ((i:Int) - 1)=(i:Int) - 1:=by unfold wrap64;omega
             have HWI:=ga.mk hwi;have i1:0 ≤ (i:Int):=by omega
             have i2:(i:Int) < (Aa.length:Int):=by omega
             clear hwi;go_wp2
             go_roundg i
             case measure=>omega
             case rel=>exact ⟨(i:Int) - 1,i,X',_,_,by first|rfl|(rw [Bool.true_or]),by first|rfl|(go_simp;done)|exact congrArg _ HWI.out|go_num,by omega,by omega,Nat.le_refl _,HN1,HN2,HP⟩
            | false =>
             go_upto_region 31 with (first|(go_at_call 80;(with_reducible refine hU.out.mono ?_);rintro e eH ⟨rfl,hd⟩;have zal:=ga.mk hd.below;clear hd hcy))
             have FV:=ga.mk (Ra NK.out zal.out);have HP:=ga.mk (HA.out.rae FV.out hi (Kd.ld HSI.out zal.out));obtain ⟨Az,cz,hcz,hfz,-⟩:=(HA.out.below FV.out).I0 hi;have hwi:wrap64 ((i:Int) - 1)=(i:Int) - 1:=by unfold wrap64;omega
             have HWI:=ga.mk hwi;have i1:0 ≤ (i:Int):=by omega
             have i2:(i:Int) < (Aa.length:Int):=by omega
             clear hwi;go_wp2
             go_roundg i
             case measure=>omega
             case rel=>exact ⟨(i:Int) - 1,i,X',_,_,by first|rfl|(rw [Bool.false_or]),by first|rfl|(go_simp;done)|exact congrArg _ HWI.out|go_num,by omega,by omega,Nat.le_refl _,HN1,HN2,HP⟩
      ·have CW:decide (z ≥ 0)=false:=decide_eq_false (by omega);obtain rfl:q=0:=by omega
       have h1:=HS.out.le;have h2:=HS.out.lt;have h3:=HV.out.cnt
       have HM:=ga.mk (show n * Aa.length - Yq Y + (if a=true then 1 else 0) < n * Aa.length - C + 1 from by
        cases a with
        | false=>rw [if_neg (by simp)];omega
        | true=>have:=h2 rfl;rw [if_pos rfl];omega)
       clear h1 h2 h3;go_wp2
       go_roundg (n * Aa.length - Yq Y + (if a=true then 1 else 0))
       case measure=>have:=HM.out;omega
       case rel=>exact ⟨X,Y,a,rfl,Nat.le_refl _,HV,⟨fun e i hi=>HS.out.so e i (Nat.zero_le _) hi⟩,HA⟩
section
variable {l0:List Int} {p v s:Int} {l4:List Je}
theorem wB (h:Xn l0 p v s l4=true):BC l0 p v s l4.length=true∧(∀ b ∈ l4,er l0 s l4 b=true)∧xe l4 ≤ 1000:=by
 unfold Xn at h;simp only [Bool.and_eq_true,Bool.not_eq_true',List.any_eq_false,decide_eq_true_eq] at h;exact ⟨h.1,fun b hb=>by have:=h.2.1 b hb;simpa using this,h.2.2⟩
theorem tT (l:List Je) (b:Je) (hb:b ∈ l):b.f0.length ≤ xe l:=by
 unfold xe;exact xF (List.mem_map.mpr ⟨b,hb,rfl⟩)
end
end Go.Proofs.Ytkigbdceceeenaa.P
end
section
namespace Go.Proofs.Ytkigbdceceeenaa.P
open Go.RowKit Go.Proofs.Ma.Tb Go.Proofs.Ma.Gd Go.Proofs.Ma.De
set_option linter.unusedVariables false
set_option linter.unusedSimpArgs false
theorem haa {n0 n:Nat} {x:He} (h:Co n0 (n:Int) x=true):Ys n x:=by
 unfold Co Km at h;unfold Ys
 by_cases o0:x.f0=0
 ·rw [Qz (by omega) (by omega) (by omega)];simp [o0,Fl] at h ⊢;omega
 by_cases o1:x.f0=1
 ·rw [zq (Or.inl o1)];simp [o1,Fl] at h ⊢;omega
 by_cases o2:x.f0=2
 ·rw [YB o2];simp [o2,Fl] at h ⊢;omega
 by_cases o3:x.f0=3
 ·by_cases ha:0 ≤ x.f2
  ·rw [jF ha (Or.inl o3) (by omega)];simp [o3,Fl] at h ⊢;omega
  ·rw [gF ha (Or.inl o3) (by omega)];simp [o3,Fl] at h ⊢;omega
 by_cases o4:x.f0=4
 ·by_cases ha:0 ≤ x.f2
  ·rw [kF ha o4];simp [o4,Fl] at h ⊢;omega
  ·rw [iF ha o4];simp [o4,Fl] at h ⊢;omega
 by_cases o5:x.f0=5
 ·rw [Qz (by omega) (by omega) (by omega)];simp [o5,Fl] at h ⊢;omega
 by_cases o6:x.f0=6
 ·rw [zq (Or.inr o6)];simp [o6,Fl] at h ⊢;omega
 simp [o0,o1,o2,o3,o4,o5,o6] at h
theorem rY {n0 n n4:Nat} {b:Je} (h:Sk n0 (n:Int) n4 b.f0 b.f1 b.f2 b.f3 b.f4=true) (hl:b.f0.length ≤ 1048576):Dt n b:=by
 unfold Sk at h;simp only [Bool.and_eq_true,Bool.not_eq_true',List.any_eq_false] at h;obtain ⟨⟨h1,_⟩,h2⟩:=h;refine ⟨hl,fun hf=>?_,fun x hx=>haa (n0:=n0) (by have:=h1 x hx;simpa using this)⟩;rw [if_neg hf] at h2
 by_cases h3:b.f1=1
 ·rw [if_pos h3] at h2;simp [Fl] at h2;omega
 ·rw [if_neg h3] at h2
  by_cases h4:b.f1=2
  ·rw [if_pos h4] at h2;simp [Fl] at h2;omega
  ·rw [if_neg h4] at h2;cases h2
theorem C1 {l0:List Int} {p v:Int} {n:Nat} {bs:List Je} (h:Xn l0 p v (n:Int) bs=true) (ht:xe bs ≤ 1048576):mm bs n:=by
 obtain ⟨h1,h2,_⟩:=wB h;have hh:=zC h1;exact ⟨qO h,by omega,fun b hb=>rY (h2 b hb) (Nat.le_trans (tT bs b hb) ht)⟩
theorem sg {S:Nat→Prop} {w0 w W:World} {a:Addr} {v:Value} (hc:w0.cell? a=some v) (hb0:Below w0.heap.size w0 w) (hS0:∀ k,S k→w0.heap.size ≤ k) (hk:Kept w W (I7 S w)):W.cell? a=some v :=
 Wb (Wb hc (Kept.ic hb0 (fun _=>False)) id) hk (fun e=>e.elim (fun h=>by have:=hS0 _ h;have:=World.block_lt_of_cell? w0 a hc;omega) (fun h=>by have:=World.block_lt_of_cell? w0 a hc;have:=hb0.size;omega))
theorem pT {S:Nat→Prop} {w0 w:World} (hb0:Below w0.heap.size w0 w) (hS0:∀ k,S k→w0.heap.size ≤ k):∀ k,I7 S w k→w0.heap.size ≤ k:=fun k h=>h.elim (hS0 k) (fun h=>Nat.le_trans hb0.size h)
theorem pK {St:Type} (f:St→He→List Bool→St) (Inv:St→World→Prop) (S:Nat→Prop) (g:Nat) (lb:Array Value) (eg:∀ args w,(callFunc g args).run Try.prog w = .ok (.enter g args) w)
  (Ya:Option Addr) (Za:Nat) (Qa:List Int) (Ja:Int) (Ga:Int) (n:Nat) (Mb:Option Addr) (Cb:Nat) (Aa:List (Je)) (A1:Option Addr) (c1:Nat) (X:List (List Bool)) (st0:St) (w0 w:World)
  (hb0:Below w0.heap.size w0 w) (hS0:∀ k,S k→w0.heap.size ≤ k) (hS:∀ k,S k→k < w.heap.size) (Ud:Kd.C (Kd.int .i64) w0 Ya Qa.length Qa) (Rd:Qa.length ≤ Za) (yf:Kd.C Fq w0 Mb Aa.length Aa) (kf:Aa.length ≤ Cb)
  (Zs:∀ W,Kept w W (I7 S w)→Kd.C (Kd.slice 4 Kd.bool) W A1 X.length X) (xm:X.length ≤ c1) (hO:mm Aa n) (hX:X.length=Aa.length) (hr:∀ i,i < Aa.length→(qe X i).length=n)
  (hI0:Inv st0 w) (hI:∀ st W W',Inv st W→W.heap.size ≤ W'.heap.size→(∀ k,k < w.heap.size→W'.heap[k]? = W.heap[k]?)→Inv st W')
  (hp:∀ (W:World) (st:St) (x:He) (A:Option Addr) (c:Nat) (s:List Bool),Kept w W (I7 S w)→Inv st W→Ys n x→s.length=n→(∀ W',Kept W W' S→Kd.C Kd.bool W' A s.length s)→s.length ≤ c →
   Calls Try.prog g (#[.agg #[.int .i64 x.f0,.int .i64 x.f1,.int .i64 x.f2,.int .i64 x.f3,.int .i64 x.f4,.int .i64 x.f5,.string x.f6],.slice A s.length c] ++ lb) W fun e w'=>e = .returned (.tuple #[])∧Inv (f st x s) w'∧Kept W w' S∧Below 0 W w') :
  Calls Try.prog 50 #[.agg #[.slice Ya Qa.length Za,.int .i64 Ja,.int .i64 Ga,.int .i64 (n:Int),.slice Mb Aa.length Cb],.slice A1 X.length c1,.func (.func g) #[] lb] w fun e w'=>e = .returned (.tuple #[])∧Inv (dh f Aa X 0 st0) w'∧Kept w w' (I7 S w)∧Below 0 w w':=by
 have fD:=ga.mk hb0;have ZG:=ga.mk hS0;have HSS:=ga.mk hS;have ym:=ga.mk Ud;have NH:=ga.mk yf;have fU:=ga.mk Rd;have jN:=ga.mk kf;have NB:=ga.mk Zs;have HL1:=ga.mk xm;have HO:=ga.mk hO;have HX:=ga.mk hX;have LZ:=ga.mk hr;have HI:=ga.mk hI;have HP:=ga.mk hp;have hn:n ≤ 1048576:=hO.2.1;have hm1:Aa.length ≤ 1048576:=hO.1.2.1;have HI1:=ga.mk (hI st0 w (w.alloc (.cells #[.slice Ya Qa.length Za,.int .i64 Ja,.int .i64 Ga,.int .i64 (n:Int),.slice Mb Aa.length Cb] 30 (0,0))) hI0 (qa (Below.refl w.heap.size w) _).size (fun k hk=>(qa (Below.refl w.heap.size w) _).block k hk));have HA:=ga.mk (show GV S w (Ty Ya Qa.length Za Ja Ga n Mb Aa.length Cb) (w.alloc (.cells #[.slice Ya Qa.length Za,.int .i64 Ja,.int .i64 Ga,.int .i64 (n:Int),.slice Mb Aa.length Cb] 30 (0,0))) from ⟨(Kept.refl _ _).alloc _,ir (qa (Below.refl w.heap.size w) _),xj _ _⟩);clear hb0 hS0 hS Ud yf Rd kf Zs xm hO hX hr hI0 hI hp;go_enter Try.func50,Try.ntmps50
 go_upto_region 1 with (fail)
 generalize (w.alloc (.cells #[.slice Ya Qa.length Za,.int .i64 Ja,.int .i64 Ga,.int .i64 (n:Int),.slice Mb Aa.length Cb] 30 (0,0)))=w1 at HI1 HA ⊢;have Gq:w1.cell? ⟨w.heap.size,4,none⟩=some (.slice Mb Aa.length Cb):=(ia HA.out.hx 4).trans rfl;go_wp2;clear Gq
 go_loopg [13] Aa.length (fun gg v13 wr=>∃ (i:Nat) (st:St),v13 = .int .i64 i∧i ≤ Aa.length∧Aa.length - i ≤ gg∧ga (dh f Aa X i st=dh f Aa X 0 st0)∧ga (Inv st wr)∧ga (GV S w (Ty Ya Qa.length Za Ja Ga n Mb Aa.length Cb) wr))
 case atStart=>exact ⟨0,st0,rfl,Nat.zero_le _,by omega,⟨rfl⟩,HI1,HA⟩
 case round =>
  clear HI1 HA;(try clear hU);(try clear jP);(try clear HA);obtain ⟨i,st,rfl,hi,AV,hU,jP,HA⟩:=hrel
  by_cases hlt:i < Aa.length
  ·have Ns:decide ((i:Int) < (Aa.length:Int))=true:=decide_eq_true (by omega);have i1:0 ≤ (i:Int):=by omega
   have i2:(i:Int) < (Aa.length:Int):=by omega
   obtain ⟨ag,Ac,cc,e1,hc0,xm,My,OC,fK,Kt,EX⟩:=sj NH.out (i:Int) (by omega) (by omega);subst e1;simp only [Int.toNat_natCast] at hc0 xm My OC fK;have mZ:=ga.mk EX;have q_:=ga.mk Kt;have EV:=ga.mk HA.out.k;replace hc0:=sg hc0 fD.out ZG.out EV.out;replace xm:=sg xm fD.out ZG.out EV.out;replace My:=sg My fD.out ZG.out EV.out;replace OC:=sg OC fD.out ZG.out EV.out;replace fK:=sg fK fD.out ZG.out EV.out;clear EX Kt
   go_upto_region 4 with (fail)
   have qw:=qa (Below.refl wr.heap.size wr) (.cells #[.slice Ac (za Aa (i:Int)).f0.length cc,.int .i64 (za Aa (i:Int)).f1,.int .i64 (za Aa (i:Int)).f2,.int .i64 (za Aa (i:Int)).f3,.int .i64 (za Aa (i:Int)).f4] 59 (0,0));have wz:=xj wr (.cells #[.slice Ac (za Aa (i:Int)).f0.length cc,.int .i64 (za Aa (i:Int)).f1,.int .i64 (za Aa (i:Int)).f2,.int .i64 (za Aa (i:Int)).f3,.int .i64 (za Aa (i:Int)).f4] 59 (0,0));generalize wr.alloc (.cells #[.slice Ac (za Aa (i:Int)).f0.length cc,.int .i64 (za Aa (i:Int)).f1,.int .i64 (za Aa (i:Int)).f2,.int .i64 (za Aa (i:Int)).f3,.int .i64 (za Aa (i:Int)).f4] 59 (0,0))=sr at qw wz ⊢;have Ew:=ga.mk (HA.out.below qw);have cD:=ga.mk (HI.out st wr sr jP.out qw.size (fun k hk=>qw.block k (Nat.lt_trans hk HA.out.le)));have Wl:=ga.mk wz;have eP:=ga.mk HA.out.le;have kP:=ga.mk (Ms HO.out hlt);have HE:=ga.mk (wF HO.out hlt X HX.out (LZ.out i hlt) Qa Ja Ga (n:Int));have l7:=ga.mk (And.intro (Kd.zD (Kd.gl .i64) ym.out fD.out (pT fD.out ZG.out) sr Ew.out.k) (And.intro (Kd.zD xW NH.out fD.out (pT fD.out ZG.out) sr Ew.out.k) (NB.out sr Ew.out.k)));clear qw wz HA jP EV hc0 xm My OC fK i1 i2 Ns;generalize wr.heap.size=q7 at Wl eP ⊢;have hx0:sr.cell? ⟨w.heap.size,0,none⟩=some (.slice Ya Qa.length Za):=(ia Ew.out.hx 0).trans rfl;have hx1:sr.cell? ⟨w.heap.size,1,none⟩=some (.int .i64 Ja):=(ia Ew.out.hx 1).trans rfl;have Ow:sr.cell? ⟨w.heap.size,2,none⟩=some (.int .i64 Ga):=(ia Ew.out.hx 2).trans rfl;have Hq:sr.cell? ⟨w.heap.size,3,none⟩=some (.int .i64 (n:Int)):=(ia Ew.out.hx 3).trans rfl;have Gq:sr.cell? ⟨w.heap.size,4,none⟩=some (.slice (some ag) Aa.length Cb):=(ia Ew.out.hx 4).trans rfl
   go_upto_region 5 with (first|(go_at_call 81;(with_reducible refine (Ni.calls Ya Za Qa Ja Ga (n:Int) (some ag) Cb Aa A1 c1 X (i:Int) _ sr l7.out.1 fU.out l7.out.2.1 jN.out l7.out.2.2 HL1.out HE.out).mono ?_);rintro e w5 ⟨v5,rfl,ho,hb⟩;obtain ⟨As,cs,rfl⟩:=Kd.od ho;have Lt:=ga.mk ho;have kU:=ga.mk hb;clear ho hb hx0 hx1 Ow Hq Gq))
   have hjl:(Ph (za Aa (i:Int)) (qe X i)).length=n:=by rw [Sl];exact LZ.out i hlt
   rw [hjl] at Lt ⊢;clear hjl;have lU:=ga.mk (Ew.out.below kU.out);have NZ:=ga.mk (HI.out st sr w5 cD.out kU.out.size (fun k hk=>kU.out.block k (Nat.lt_trans hk Ew.out.le)));have HQ5:=ga.mk (Va Wl.out kU.out);have OM:=ga.mk (And.intro (Nc Wl.out) (And.intro Ew.out.le kU.out.size));have gU:=ga.mk (show Vq f ((za Aa (i:Int)).f0.take (za Aa (i:Int)).f0.length).reverse (Et (za Aa (i:Int)).f0 (za Aa (i:Int)).f0.length (Ph (za Aa (i:Int)) (qe X i))) st=Xy f Aa X st i by rw [List.take_length,uv];rfl);clear Ew cD Wl l7 kU;generalize sr.heap.size=N5 at Lt OM;have zy:w5.cell? ⟨q7,0,none⟩=some (.slice Ac (za Aa (i:Int)).f0.length cc):=(ia HQ5.out 0).trans rfl;have Kt:(za Aa (i:Int)).f0.length ≤ 1048576:=kP.out.1;have NW:wrap64 (((za Aa (i:Int)).f0.length:Int) - 1)=((za Aa (i:Int)).f0.length:Int) - 1:=nk Kt;have HWR:=ga.mk NW;clear NW;go_wp2;clear zy
   go_loopg [9] (za Aa (i:Int)).f0.length (fun g6 v9 wr=>∃ (z:Int) (q:Nat) (st':St),v9 = .int .i64 z∧z + 1=(q:Int)∧q ≤ (za Aa (i:Int)).f0.length∧q ≤ g6∧ga (Vq f ((za Aa (i:Int)).f0.take q).reverse (Et (za Aa (i:Int)).f0 q (Ph (za Aa (i:Int)) (qe X i))) st' = Xy f Aa X st i)∧ga (Inv st' wr)∧ga (GV S w (Ty Ya Qa.length Za Ja Ga n (some ag) Aa.length Cb) wr)∧ga (Kd.R Kd.bool 4 wr N5 (fun _=>True) (.slice As n cs) (Et (za Aa (i:Int)).f0 q (Ph (za Aa (i:Int)) (qe X i))))∧ga (N5 ≤ wr.heap.size)∧ga (wr.heap[q7]? = some (.cells #[.slice Ac (za Aa (i:Int)).f0.length cc,.int .i64 (za Aa (i:Int)).f1,.int .i64 (za Aa (i:Int)).f2,.int .i64 (za Aa (i:Int)).f3,.int .i64 (za Aa (i:Int)).f4] 59 (0,0))))
   case atStart=>exact ⟨((za Aa (i:Int)).f0.length:Int) - 1,(za Aa (i:Int)).f0.length,st,by first|rfl|(go_simp;done)|exact congrArg _ HWR.out|go_num,by omega,Nat.le_refl _,Nat.le_refl _,gU,NZ,lU,⟨by rw [uv];exact Lt.out⟩,⟨OM.out.2.2⟩,HQ5⟩
   case round =>
    clear gU NZ lU Lt HQ5;(try clear gU);(try clear NZ);(try clear lU);(try clear Lt);(try clear Vak);(try clear HQ5);obtain ⟨z,q,st',rfl,hz,hq,hg6,gU,NZ,lU,Lt,Vak,HQ5⟩:=hrel
    by_cases hz0:0 ≤ z
    ·obtain ⟨p,rfl⟩:∃ p:Nat,z=(p:Int):=⟨z.toNat,(Int.toNat_of_nonneg hz0).symm⟩;obtain rfl:q=p + 1:=by omega
     have L1:p < (za Aa (i:Int)).f0.length:=by omega
     have CW:decide ((p:Int) ≥ 0)=true:=decide_eq_true (by omega);have p1:0 ≤ (p:Int):=by omega
     have p2:(p:Int) < ((za Aa (i:Int)).f0.length:Int):=by omega
     have zy:wr.cell? ⟨q7,0,none⟩=some (.slice Ac (za Aa (i:Int)).f0.length cc):=(ia HQ5.out 0).trans rfl;obtain ⟨aI,e5,k0,k1,k2,k3,k4,k5,k6⟩:=jm mZ.out (p:Int) (by omega) (by omega);subst e5;simp only [Int.toNat_natCast] at k0 k1 k2 k3 k4 k5 k6;have kZ:=ga.mk (And.intro k0 (And.intro k1 (And.intro k2 (And.intro k3 (And.intro k4 (And.intro k5 k6))))));replace k0:=sg k0 fD.out ZG.out lU.out.k;replace k1:=sg k1 fD.out ZG.out lU.out.k;replace k2:=sg k2 fD.out ZG.out lU.out.k;replace k3:=sg k3 fD.out ZG.out lU.out.k;replace k4:=sg k4 fD.out ZG.out lU.out.k;replace k5:=sg k5 fD.out ZG.out lU.out.k;replace k6:=sg k6 fD.out ZG.out lU.out.k;have ZT:=ga.mk (show (Et (za Aa (i:Int)).f0 (p + 1) (Ph (za Aa (i:Int)) (qe X i))).length=n by rw [Cy,Sl];exact LZ.out i hlt);have KK:=ga.mk (Zv kP.out L1);have ct:=HP.out wr st' (Ea (za Aa (i:Int)).f0 (p:Int)) As cs (Et (za Aa (i:Int)).f0 (p + 1) (Ph (za Aa (i:Int)) (qe X i))) lU.out.k NZ.out KK.out ZT.out (fun W' hk=>(Kd.Rb (Kd.Fp (Kd.xd (Kd.ug Lt.out) (fun k hk=>hk.2.1)) hk (fun k hk e=>by have:=HSS.out k e;have:=OM.out;omega))).2.2) (by have:=(Kd.Rb Lt.out).2.1;rw [ZT.out];exact this);rw [ZT.out] at ct;have k7:=ga.mk ct;have eg2:=eg;clear ct hz0
     go_upto_region 9 with (go_at_fn g;refine k7.out.mono ?_;rintro e w6 ⟨rfl,hi6,hk6,GZ⟩;have MZ:=ga.mk hi6;have HK6:=ga.mk hk6;have NK:=ga.mk GZ;clear hi6 hk6 GZ zy k0 k1 k2 k3 k4 k5 k6)
     have RZ:=ga.mk (lU.out.kept HSS.out HK6.out NK.out);have dP:=ga.mk (Kd.Fp (Kd.xd (Kd.ug Lt.out) (fun k hk=>hk.2.1)) HK6.out (fun k hk e=>by have:=HSS.out k e;have:=OM.out;omega));have HQ6:=ga.mk (Ve HQ5.out HK6.out (fun e=>by have:=HSS.out _ e;have:=eP.out;omega));have wD:=ga.mk (show N5 ≤ w6.heap.size by have h1:=HK6.out.1;have:=Vak.out;omega);obtain ⟨kb,tQ⟩:=Ev.rounds (nK (Et (za Aa (i:Int)).f0 (p + 1) (Ph (za Aa (i:Int)) (qe X i))) (Ea (za Aa (i:Int)).f0 (p:Int)) (by rw [ZT.out];exact KK.out));have HKB:=ga.mk tQ;have HCB:=ga.mk (Bz wD.out);have HSB:=ga.mk (show Kd.R Kd.bool 4 w6 (UG w6 N5).heap.size (fun k=>N5 ≤ k) (.slice As n cs) (Et (za Aa (i:Int)).f0 (p + 1) (Ph (za Aa (i:Int)) (qe X i))) by rw [Gl wD.out];exact dP.out);obtain ⟨k0,k1,k2,k3,k4,k5,k6⟩:=kZ.out;replace k0:=sg k0 fD.out ZG.out RZ.out.k;replace k1:=sg k1 fD.out ZG.out RZ.out.k;replace k2:=sg k2 fD.out ZG.out RZ.out.k;replace k3:=sg k3 fD.out ZG.out RZ.out.k;replace k4:=sg k4 fD.out ZG.out RZ.out.k;replace k5:=sg k5 fD.out ZG.out RZ.out.k;replace k6:=sg k6 fD.out ZG.out RZ.out.k;have zy:w6.cell? ⟨q7,0,none⟩=some (.slice (some aI) (za Aa (i:Int)).f0.length cc):=(ia HQ6.out 0).trans rfl;have hwp:wrap64 ((p:Int) - 1)=(p:Int) - 1:=nk (by omega);have HWP:=ga.mk hwp;clear tQ hwp;go_wp2_with (first|(go_at_call 79;(with_reducible refine (Zd.calls kb (fun k=>N5 ≤ k) (.slice As n cs) (Et (za Aa (i:Int)).f0 (p + 1) (Ph (za Aa (i:Int)) (qe X i))) (Ea (za Aa (i:Int)).f0 (p:Int)).f0 (Ea (za Aa (i:Int)).f0 (p:Int)).f1 (Ea (za Aa (i:Int)).f0 (p:Int)).f2 (Ea (za Aa (i:Int)).f0 (p:Int)).f3 (Ea (za Aa (i:Int)).f0 (p:Int)).f4 (Ea (za Aa (i:Int)).f0 (p:Int)).f5 (Ea (za Aa (i:Int)).f0 (p:Int)).f6 _ (UG w6 N5) w6 HCB.out HSB.out HKB.out).mono ?_);rintro e w7 ⟨rfl,ho,hb,hk⟩;have HS7:=ga.mk ho;have FV:=ga.mk hb;have HK7:=ga.mk hk;clear ho hb hk zy k0 k1 k2 k3 k4 k5 k6))
     have N1:Below w.heap.size w6 w7:=by
      have hb:=FV.out;have hs:=Gl wD.out;have h2:=OM.out.2.1;refine ⟨hb.os,hb.tape,hb.output,HK7.out.1,fun k hk=>HK7.out.2 k (by have:=wD.out;omega) (by omega)⟩
     have HA7:=ga.mk (show GV S w _ w7 from ⟨RZ.out.k.Wo HK7.out (fun k hk=>Or.inr (by have:=OM.out.2.1;omega)),RZ.out.b.trans (ir N1),Ve RZ.out.hx HK7.out (by have:=OM.out.2.1;omega)⟩);have HI7:=ga.mk (HI.out _ w6 w7 MZ.out N1.size N1.block);have HQ7:=ga.mk (Ve HQ6.out HK7.out (by have:=OM.out.1;omega));have hs7:=HS7.out;rw [Gl wD.out,← gr L1] at hs7;have HS8:=ga.mk (Kd.xd hs7 (fun _ _=>trivial:∀ k,_→(fun _:Nat=>True) k));have jX:=gU.out;rw [aG f L1,← gr L1] at jX;have HF7:=ga.mk jX;clear hs7 jX N1
     go_roundg p
     case measure=>omega
     case rel=>exact ⟨(p:Int) - 1,p,_,by first|rfl|(go_simp;done)|exact congrArg _ HWP.out|go_num,by omega,by omega,Nat.le_refl _,HF7,HI7,HA7,HS8,⟨Nat.le_trans wD.out HK7.out.1⟩,HQ7⟩
    ·have CW:decide (z ≥ 0)=false:=decide_eq_false (by omega);obtain rfl:q=0:=by omega
     have jX:=gU.out;rw [List.take_zero,List.reverse_nil,show Vq f [] (Et (za Aa (i:Int)).f0 0 (Ph (za Aa (i:Int)) (qe X i))) st' = st' from rfl] at jX;have HEN:=ga.mk (show dh f Aa X (i + 1) st' = dh f Aa X 0 st0 by rw [jX,← Qo f hlt];exact hU.out);clear jX;go_wp2
     go_roundg (Aa.length - (i + 1))
     case measure=>omega
     case rel=>exact ⟨i + 1,st',by go_num,by omega,by omega,HEN,NZ,lU⟩
  ·have Ns:decide ((i:Int) < (Aa.length:Int))=false:=decide_eq_false (by omega);obtain rfl:i=Aa.length:=by omega
   have heq:=hU.out;rw [wq] at heq;have HEE:=ga.mk heq;clear heq;go_wp2;refine bodyPost_end (v:=.tuple #[]) ?_ rfl ?_
   ·exact results_none rfl _ _ _
   exact ⟨rfl,by rw [← HEE.out];exact jP.out,HA.out.k,HA.out.b⟩
attribute [local go_sem] Rh wj
theorem aA {bs:List (Je)} {n i:Nat} (hi:i < bs.length):qe (Ye bs n) i=Gm bs n i:=by
 unfold qe Ye;rw [List.getD_eq_getElem?_getD];simp [hi]
section
variable {bs:List Je} {n:Nat} (l0:List Int) (p v:Int)
end
theorem mV {b:Je} {s:List Bool} (hb:Dt s.length b) (hs:s.length ≤ 1048576):Ig.f b.f0 b.f1 b.f2 b.f3 b.f4 s=some (Ph b s):=by
 unfold Ig.f Ph;rw [Option.bind_some,if_pos (by simp;omega),Option.bind_some,List.nil_append]
 by_cases hf:b.f1=0
 ·rw [if_pos hf,if_pos hf]
 ·have:=hb.2.1 hf;rw [if_neg hf,if_neg hf,if_pos (by omega),if_pos (by omega)]
section
variable {bs:List Je} {n:Nat} (l0:List Int) (p v:Int)
end
end Go.Proofs.Ytkigbdceceeenaa.P
end
section
namespace Go.Proofs.Ytkigbdceceeenaa.P
open Go.RowKit Go.Proofs.Ma.Tb Go.Proofs.Ma.Gd Go.Proofs.Ma.De
set_option linter.unusedVariables false
set_option linter.unusedSimpArgs false
def Sq (n:Nat) (T:List (List Bool)):Prop:=T.length=n∧∀ i,i < n→(qe T i).length=n
def qL (T:List (List Bool)) (a b:Nat):List (List Bool):=T.set a ((qe T a).set b true)
def mD (T:List (List Bool)) (a b:Nat):List (List Bool):=if a=b then T else qL (qL T a b) b a
structure zM (n:Nat) (T:List (List Bool)) (P:Nat→Nat→Prop):Prop where
 sq:Sq n T
 so:∀ i j,i < n→j < n→(seen (qe T i) j=true ↔ i ≠ j∧(P i j ∨ P j i))
section
variable {n a b:Nat} {T U:List (List Bool)} {P Q:Nat→Nat→Prop}
theorem Sq.put (h:Sq n T) (ha:a < n) (b:Nat):Sq n (qL T a b):=by
 refine ⟨by unfold qL;rw [List.length_set];exact h.1,fun i hi=>?_⟩;unfold qL;rw [Cp (by rw [h.1];exact ha)]
 by_cases e:a=i
 ·rw [if_pos e,List.length_set];exact h.2 a ha
 ·rw [if_neg e];exact h.2 i hi
theorem jH (h:Sq n T) (ha:a < n) (hb:b < n) (i j:Nat):seen (qe (qL T a b) i) j=true ↔ seen (qe T i) j=true ∨ (a=i∧b=j):=by
 unfold qL;rw [Cp (by rw [h.1];exact ha)]
 by_cases e:a=i
 ·subst e;rw [if_pos rfl,Ji (by rw [h.2 a ha];exact hb)]
  by_cases e2:b=j
  ·rw [if_pos e2];exact ⟨fun _=>Or.inr ⟨rfl,e2⟩,fun _=>rfl⟩
  ·rw [if_neg e2];exact ⟨Or.inl,fun h=>h.resolve_right (fun h=>e2 h.2)⟩
 ·rw [if_neg e];exact ⟨Or.inl,fun h=>h.resolve_right (fun h=>e h.1)⟩
theorem Sq.meet (h:Sq n T) (ha:a < n) (hb:b < n):Sq n (mD T a b):=by
 unfold mD
 by_cases e:a=b
 ·rw [if_pos e];exact h
 ·rw [if_neg e];exact (h.put ha b).put hb a
theorem zM.Wq (h:zM n T P) (hp:∀ i j,P i j ↔ Q i j):zM n T Q:=⟨h.sq,fun i j hi hj=>by rw [h.so i j hi hj,hp,hp]⟩
theorem zM.meet (h:zM n T P) (ha:a < n) (hb:b < n):zM n (mD T a b) (fun i j=>P i j ∨ (i=a∧j=b)):=by
 refine ⟨h.sq.meet ha hb,fun i j hi hj=>?_⟩;unfold mD
 by_cases e:a=b
 ·rw [if_pos e,h.so i j hi hj]
  constructor
  ·rintro ⟨h1,h2⟩;exact ⟨h1,h2.imp Or.inl Or.inl⟩
  ·rintro ⟨h1,h2⟩;refine ⟨h1,?_⟩
   rcases h2 with (h2|⟨h3,h4⟩)|(h2|⟨h3,h4⟩)
   ·exact Or.inl h2
   ·exact absurd (h3.trans (e.trans h4.symm)) h1
   ·exact Or.inr h2
   ·exact absurd (h4.trans (e.symm.trans h3.symm)) h1
 ·rw [if_neg e,jH (h.sq.put ha b) hb ha,jH h.sq ha hb,h.so i j hi hj]
  constructor
  ·rintro ((⟨h1,h2⟩|⟨rfl,rfl⟩)|⟨rfl,rfl⟩)
   ·exact ⟨h1,h2.imp Or.inl Or.inl⟩
   ·exact ⟨e,Or.inl (Or.inr ⟨rfl,rfl⟩)⟩
   ·exact ⟨fun h=>e h.symm,Or.inr (Or.inr ⟨rfl,rfl⟩)⟩
  ·rintro ⟨h1,(h2|⟨rfl,rfl⟩)|(h2|⟨rfl,rfl⟩)⟩
   ·exact Or.inl (Or.inl ⟨h1,Or.inl h2⟩)
   ·exact Or.inl (Or.inr ⟨rfl,rfl⟩)
   ·exact Or.inl (Or.inl ⟨h1,Or.inr h2⟩)
   ·exact Or.inr ⟨rfl,rfl⟩
theorem zM.ext (h:zM n T P) (h2:zM n U Q) (hp:∀ i j,i ≠ j→((P i j ∨ P j i) ↔ (Q i j ∨ Q j i))):T=U:=by
 apply List.ext_getElem
 ·rw [h.sq.1,h2.sq.1]
 ·intro i h1 h3;have e1:T[i]=qe T i:=by simp [qe,List.getD_eq_getElem?_getD,h1]
  have e2:U[i]=qe U i:=by simp [qe,List.getD_eq_getElem?_getD,h3]
  rw [e1,e2];have hi:i < n:=by rw [← h.sq.1];exact h1
  have l1:=h.sq.2 i hi;have l2:=h2.sq.2 i hi;refine Zz (by rw [l1,l2]) (fun j=>?_)
  constructor
  ·intro hs;have hj:j < n:=by have:=Yl hs;omega
   have ⟨x,y⟩:=(h.so i j hi hj).1 hs;exact (h2.so i j hi hj).2 ⟨x,(hp i j x).1 y⟩
  ·intro hs;have hj:j < n:=by have:=Yl hs;omega
   have ⟨x,y⟩:=(h2.so i j hi hj).1 hs;exact (h.so i j hi hj).2 ⟨x,(hp i j x).2 y⟩
theorem YV {n m i:Nat} (hi:i < m):qe (List.replicate m (List.replicate n false)) i=List.replicate n false:=by
 unfold qe;rw [List.getD_eq_getElem?_getD,List.getElem?_replicate,if_pos hi];rfl
theorem zM.start (n:Nat):zM n (List.replicate n (List.replicate n false)) (fun _ _=>False) :=
 ⟨⟨by simp,fun i hi=>by rw [YV hi];simp⟩,fun i j hi _=>by
  rw [YV hi,Iw]
  exact ⟨fun h=>(by cases h),fun h=>h.2.elim False.elim False.elim⟩⟩
end
def Vg (P:Nat→Nat→Prop) (x:He) (s:List Bool):Nat→Nat→Prop:=fun i j=>P i j ∨ (Am x ≥ 0∧i=(Am x).toNat∧seen s j=true)
def KP:Nat→Nat→Prop:=fun _ _=>False
theorem wH (l:List He):∀ (s:List Bool) (P:Nat→Nat→Prop) (a b:Nat),Vq Vg l s P a b ↔ P a b ∨ Vq Vg l s KP a b:=by
 induction l with
 | nil=>intro s P a b;exact ⟨Or.inl,fun h=>h.elim id False.elim⟩
 | cons x r ih =>
  intro s P a b
  show Vq Vg r (Zn s x) (Vg P x s) a b ↔ P a b ∨ Vq Vg r (Zn s x) (Vg KP x s) a b
  rw [ih _ (Vg P x s),ih _ (Vg KP x s)];unfold Vg KP
  constructor
  ·rintro ((h|h)|h)
   ·exact Or.inl h
   ·exact Or.inr (Or.inl (Or.inr h))
   ·exact Or.inr (Or.inr h)
  ·rintro (h|(h|h)|h)
   ·exact Or.inl (Or.inl h)
   ·exact h.elim
   ·exact Or.inl (Or.inr h)
   ·exact Or.inr h
theorem qK (bs:List Je) (X:List (List Bool)):∀ (d i:Nat) (P E:Nat→Nat→Prop) (a b:Nat),i + d=bs.length→(dh Vg bs X i (fun i j=>P i j ∨ E i j) a b ↔ dh Vg bs X i P a b ∨ E a b):=by
 intro d
 induction d with
 | zero =>
  intro i P E a b hi;obtain rfl:i=bs.length:=by omega
  rw [wq,wq]
 | succ d ih =>
  intro i P E a b hi;have hib:i < bs.length:=by omega
  rw [Qo Vg hib,Qo Vg hib]
  have he:Xy Vg bs X (fun i j=>P i j ∨ E i j) i=fun a b=>Xy Vg bs X P i a b ∨ E a b:=by
   funext a b
   unfold Xy;rw [wH _ _ (fun i j=>P i j ∨ E i j),wH _ _ P];exact propext ⟨fun h=>h.elim (fun h=>h.elim (fun h=>Or.inl (Or.inl h)) Or.inr) (fun h=>Or.inl (Or.inr h)),fun h=>h.elim (fun h=>h.elim (fun h=>Or.inl (Or.inl h)) Or.inr) (fun h=>Or.inl (Or.inr h))⟩
  rw [he];exact ih (i + 1) _ E a b (by omega)
noncomputable def DF (bs:List Je) (n:Nat):List Bool:=oD (za bs ((0:Nat):Int)) (Gm bs n 0)
noncomputable def vF (bs:List Je) (n:Nat):Nat→Nat→Prop:=fun a b=>dh Vg bs (Ye bs n) 0 KP a b ∨ (seen (DF bs n) a=true∧seen (DF bs n) b=true)
noncomputable def Gp (bs:List Je) (n:Nat):List (List Bool):=open Classical in (List.range n).map fun i=>(List.range n).map fun j=>decide (i ≠ j∧(vF bs n i j ∨ vF bs n j i))
theorem Nw (bs:List Je) (n:Nat):(Gp bs n).length=n:=by simp [Gp]
theorem gC (bs:List Je) (n:Nat):zM n (Gp bs n) (vF bs n):=by
 have hr:∀ i,i < n→qe (Gp bs n) i=(open Classical in (List.range n).map fun j=>decide (i ≠ j∧(vF bs n i j ∨ vF bs n j i))):=fun i hi=>by
  unfold qe Gp;rw [List.getD_eq_getElem?_getD];simp [hi]
 refine ⟨⟨Nw bs n,fun i hi=>by rw [hr i hi];simp⟩,fun i j hi hj=>?_⟩;rw [hr i hi];simp [seen,List.getD_eq_getElem?_getD,hj]
theorem EU {bs:List Je} {n i:Nat} (hi:i < n):(qe (Gp bs n) i).length=n:=(gC bs n).sq.2 i hi
end Go.Proofs.Ytkigbdceceeenaa.P
end
section
namespace Go.Proofs.Ytkigbdceceeenaa.P
open Go.RowKit Go.Proofs.Ma.Tb Go.Proofs.Ma.Gd Go.Proofs.Ma.De
set_option linter.unusedVariables false
set_option linter.unusedSimpArgs false
theorem XH {W:World} {base g c n a b:Nat} {PB:Nat→Prop} {T:List (List Bool)} (h:Kd.S (Kd.slice 4 Kd.bool) 60 W base PB (.slice (some ⟨g,0,none⟩) n c) T) (hq:Sq n T) (ha:a < n) (hb:b < n) :
  ∃ (gi c2:Nat) (v:Bool),W.cell? ⟨g,a,none⟩=some (.slice (some ⟨gi,0,none⟩) n c2)∧W.cell? ⟨gi,b,none⟩=some (.bool v)∧W.frozen? ⟨gi,b,none⟩=false ∧
   Kd.S (Kd.slice 4 Kd.bool) 60 (W.setCell ⟨gi,b,none⟩ (.bool true)) base PB (.slice (some ⟨g,0,none⟩) n c) (qL T a b)∧Kept W (W.setCell ⟨gi,b,none⟩ (.bool true)) PB∧Below 0 W (W.setCell ⟨gi,b,none⟩ (.bool true)):=by
 have hl:=hq.2 a ha;obtain ⟨gi,c2,h1,h2,h3,h4,h5⟩:=GY false h ha (show b < (T.getD a []).length from by rw [show T.getD a []=qe T a from rfl,hl];exact hb);rw [show (T.getD a []).length=n from hl] at h1;exact ⟨gi,c2,_,h1,h3,h4,(h5 true).1,(Kept.refl W PB).setCell (p:=⟨gi,b,none⟩) (Or.inl h2) (.bool true),(Below.refl 0 W).setCell (Nat.zero_le _) _⟩
theorem YH (base n a b:Nat) (PB:Nat→Prop) (v:Value) (T:List (List Bool)) (w:World) (h:Kd.S (Kd.slice 4 Kd.bool) 60 w base PB v T) (hq:Sq n T) (ha:a < n) (hb:b < n) (hn:n ≤ 1048576) :
  Calls Try.prog 84 #[v,.int .i64 (a:Int),.int .i64 (b:Int)] w fun e w'=>e = .returned (.tuple #[])∧Kd.S (Kd.slice 4 Kd.bool) 60 w' base PB v (mD T a b)∧Kept w w' PB∧Below 0 w w':=by
 obtain ⟨g,c,rfl,-⟩:=Kd.VC h (by rw [hq.1];omega);rw [hq.1] at h ⊢;have HH:=ga.mk h;unfold mD
 by_cases e:a=b
 ·subst e;rw [if_pos rfl];clear h;go_enter Try.func84,Try.ntmps84;go_wp2;refine bodyPost_end (v:=.tuple #[]) ?_ rfl ?_
  ·exact results_none rfl _ _ _
  exact ⟨rfl,HH.out,Kept.refl _ _,Below.refl _ _⟩
 ·rw [if_neg e];have HQ:=ga.mk hq;have hne:¬ ((a:Int)=(b:Int)):=by omega
  have a1:0 ≤ (a:Int):=by omega
  have a2:(a:Int) < (n:Int):=by omega
  have b1:0 ≤ (b:Int):=by omega
  have b2:(b:Int) < (n:Int):=by omega
  obtain ⟨gi,c2,z,p1,p2,hfz,p4,p5,p6⟩:=XH h hq ha hb;have H4:=ga.mk p4;have H5:=ga.mk p5;have H6:=ga.mk p6;clear h hq p4 p5 p6;go_enter Try.func84,Try.ntmps84
  go_upto_region 2 with (fail)
  clear p1 p2 hfz;generalize w.setCell ⟨gi,b,none⟩ (.bool true)=w1 at H4 H5 H6 ⊢;obtain ⟨gj,c3,z2,p1,p2,hfz,p4,p5,p6⟩:=XH H4.out (HQ.out.put ha b) hb ha;have H7:=ga.mk p4;have H8:=ga.mk (H5.out.Wo p5 (fun _ h=>Or.inl h));have H9:=ga.mk (H6.out.trans p6);clear p4 p5 p6 H4 H5 H6;go_wp2;refine bodyPost_end (v:=.tuple #[]) ?_ rfl ?_
  ·exact results_none rfl _ _ _
  exact ⟨rfl,H7.out,H8.out,H9.out⟩
theorem oI (base n a b q:Nat) (PB:Nat→Prop) (v:Value) (T:List (List Bool)) (w:World) (hx:w.heap[q]? = some (.cells #[v] 55 (0,0))) (hpq:¬ PB q) (h:Kd.S (Kd.slice 4 Kd.bool) 60 w base PB v T) (hq:Sq n T) (ha:a < n) (hb:b < n) (hn:n ≤ 1048576) :
  Calls Try.prog 85 #[.int .i64 (a:Int),.int .i64 (b:Int),.pointer (some ⟨q,0,none⟩)] w fun e w'=>e = .returned (.tuple #[])∧Kd.S (Kd.slice 4 Kd.bool) 60 w' base PB v (mD T a b)∧Kept w w' PB∧Below 0 w w':=by
 obtain ⟨g,c,rfl,-⟩:=Kd.VC h (by rw [hq.1];omega);rw [hq.1] at h hx ⊢;have HH:=ga.mk h;unfold mD
 by_cases e:a=b
 ·subst e;rw [if_pos rfl];clear h;go_enter Try.func85,Try.ntmps85;go_wp2;refine bodyPost_end (v:=.tuple #[]) ?_ rfl ?_
  ·exact results_none rfl _ _ _
  exact ⟨rfl,HH.out,Kept.refl _ _,Below.refl _ _⟩
 ·rw [if_neg e];have HQ:=ga.mk hq;have hne:¬ ((a:Int)=(b:Int)):=by omega
  have a1:0 ≤ (a:Int):=by omega
  have a2:(a:Int) < (n:Int):=by omega
  have b1:0 ≤ (b:Int):=by omega
  have b2:(b:Int) < (n:Int):=by omega
  obtain ⟨gi,c2,z,p1,p2,hfz,p4,p5,p6⟩:=XH h hq ha hb;have hx0:w.cell? ⟨q,0,none⟩=some (.slice (some ⟨g,0,none⟩) n c):=(ia hx 0).trans rfl;have HX:=ga.mk (Ve hx p5 hpq);have H4:=ga.mk p4;have H5:=ga.mk p5;have H6:=ga.mk p6;clear h hq p4 p5 p6 hx;go_enter Try.func85,Try.ntmps85
  go_upto_region 2 with (fail)
  clear p1 p2 hfz hx0;generalize w.setCell ⟨gi,b,none⟩ (.bool true)=w1 at H4 H5 H6 HX ⊢;obtain ⟨gj,c3,z2,p1,p2,hfz,p4,p5,p6⟩:=XH H4.out (HQ.out.put ha b) hb ha;have hx0:w1.cell? ⟨q,0,none⟩=some (.slice (some ⟨g,0,none⟩) n c):=(ia HX.out 0).trans rfl;have H7:=ga.mk p4;have H8:=ga.mk (H5.out.Wo p5 (fun _ h=>Or.inl h));have H9:=ga.mk (H6.out.trans p6);clear p4 p5 p6 H4 H5 H6;go_wp2;refine bodyPost_end (v:=.tuple #[]) ?_ rfl ?_
  ·exact results_none rfl _ _ _
  exact ⟨rfl,H7.out,H8.out,H9.out⟩
structure fN (base n q qf:Nat) (PB:Nat→Prop) (v:Value) (P:Nat→Nat→Prop) (W:World):Prop where
 hf:W.heap[qf]? = some (.cells #[.func (.func 85) #[] #[.pointer (some ⟨q,0,none⟩)]] 101 (0,0))
 hx:W.heap[q]? = some (.cells #[v] 55 (0,0))
 pf:¬ PB qf
 pq:¬ PB q
 t:∃ T,Kd.S (Kd.slice 4 Kd.bool) 60 W base PB v T∧zM n T P
def Hr (P:Nat→Nat→Prop) (x:He) (s:List Bool) (u:Nat):Nat→Nat→Prop:=fun i j=>P i j ∨ (Am x ≥ 0∧i=(Am x).toNat∧j < u∧seen s j=true)
theorem mH {n:Nat} {x:He} (hx:Ys n x) (h:Am x ≥ 0):(Am x).toNat < n:=by
 have h2:=hx.2;unfold Am at h ⊢
 by_cases h4:x.f0=4
 ·rw [if_pos h4] at h;omega
 ·rw [if_neg h4] at h ⊢
  by_cases h6:x.f0=6
  ·rw [if_pos h6] at h;omega
  ·rw [if_neg h6];have:=h2 h4 h6;omega
theorem sL (x:He):th.f x.f0 x.f1 x.f2 x.f3 x.f4 x.f5 x.f6=some (Am x):=by
 unfold th.f Am
 by_cases h4:x.f0=4
 ·rw [if_pos h4,if_pos h4]
 ·rw [if_neg h4,if_neg h4]
  by_cases h6:x.f0=6
  ·rw [if_pos h6,if_pos h6]
  ·rw [if_neg h6,if_neg h6]
theorem fN.below {base n q qf:Nat} {PB:Nat→Prop} {v:Value} {P:Nat→Nat→Prop} {W W':World} (h:fN base n q qf PB v P W) (hb:Below W.heap.size W W'):fN base n q qf PB v P W':=by
 obtain ⟨T,h1,h2⟩:=h.t;exact ⟨Va h.hf hb,Va h.hx hb,h.pf,h.pq,T,Kd.Oh h1 hb,h2⟩
theorem fN.Wq {base n q qf:Nat} {PB:Nat→Prop} {v:Value} {P Q:Nat→Nat→Prop} {W:World} (h:fN base n q qf PB v P W) (hp:∀ i j,P i j ↔ Q i j):fN base n q qf PB v Q W:=by
 obtain ⟨T,h1,h2⟩:=h.t;exact ⟨h.hf,h.hx,h.pf,h.pq,T,h1,h2.Wq hp⟩
theorem fN.call {base n q qf a b:Nat} {PB:Nat→Prop} {v:Value} {P:Nat→Nat→Prop} {W:World} (h:fN base n q qf PB v P W) (ha:a < n) (hb:b < n) (hn:n ≤ 1048576) :
  Calls Try.prog 85 #[.int .i64 (a:Int),.int .i64 (b:Int),.pointer (some ⟨q,0,none⟩)] W fun e w'=>e = .returned (.tuple #[])∧fN base n q qf PB v (fun i j=>P i j ∨ (i=a∧j=b)) w'∧Kept W w' PB∧Below 0 W w':=by
 obtain ⟨T,h1,h2⟩:=h.t;refine (oI base n a b q PB v T W h.hx h.pq h1 h2.sq ha hb hn).mono ?_;rintro e w' ⟨e1,e2,e3,e4⟩;exact ⟨e1,⟨Ve h.hf e3 h.pf,Ve h.hx e3 h.pq,h.pf,h.pq,_,e2,h2.meet ha hb⟩,e3,e4⟩
theorem jI (base n q qf:Nat) (PB:Nat→Prop) (v:Value) (P:Nat→Nat→Prop) (x:He) (A:Option Addr) (c:Nat) (s:List Bool) (w:World)
  (hI:fN base n q qf PB v P w) (hpb:∀ k,PB k→k < w.heap.size) (hi:Ys n x) (hs:s.length=n) (hn:n ≤ 1048576) (hC:∀ W',Kept w W' PB→Kd.C Kd.bool W' A s.length s) (hc:s.length ≤ c) :
  Calls Try.prog 86 #[.agg #[.int .i64 x.f0,.int .i64 x.f1,.int .i64 x.f2,.int .i64 x.f3,.int .i64 x.f4,.int .i64 x.f5,.string x.f6],.slice A s.length c,.pointer (some ⟨qf,0,none⟩)] w fun e w'=>e = .returned (.tuple #[])∧fN base n q qf PB v (Vg P x s) w'∧Kept w w' PB∧Below 0 w w':=by
 subst hs;have HC:=ga.mk hC;have mZ:=ga.mk hc;have KK:=ga.mk hi;have cZ:=ga.mk hpb;have kN:=ga.mk (qa (Below.refl w.heap.size w) (.cells #[.int .i64 x.f0,.int .i64 x.f1,.int .i64 x.f2,.int .i64 x.f3,.int .i64 x.f4,.int .i64 x.f5,.string x.f6] 65 (0,0)));have HX1:=ga.mk (xj w (.cells #[.int .i64 x.f0,.int .i64 x.f1,.int .i64 x.f2,.int .i64 x.f3,.int .i64 x.f4,.int .i64 x.f5,.string x.f6] 65 (0,0)));have HI1:=ga.mk ((hI.below kN.out).Wq (Q:=Hr P x s 0) (fun i j=>Iff.intro Or.inl (fun h=>h.elim id (fun h=>absurd h.2.2.1 (Nat.not_lt_zero _)))));have eg:∀ args w,(callFunc 85 args).run Try.prog w = .ok (.enter 85 args) w:=enters_of Try.func85 (by kernel_rfl) rfl;clear hC hc hi hpb hI;go_enter Try.func86,Try.ntmps86
 go_upto_region 1 with (fail)
 generalize w.alloc (.cells #[.int .i64 x.f0,.int .i64 x.f1,.int .i64 x.f2,.int .i64 x.f3,.int .i64 x.f4,.int .i64 x.f5,.string x.f6] 65 (0,0))=w1 at kN HX1 HI1 ⊢;have wg:=ga.mk (Kept.ic kN.out PB);have HZ1:=ga.mk (ir kN.out);clear kN;go_wp2
 go_loopg [10] s.length (fun g v10 wr=>∃ (i:Nat),v10 = .int .i64 i∧i ≤ s.length∧s.length - i ≤ g∧ga (fN base s.length q qf PB v (Hr P x s i) wr)∧ga (Kept w wr PB)∧ga (Below 0 w wr)∧ga (wr.heap[w.heap.size]? = some (.cells #[.int .i64 x.f0,.int .i64 x.f1,.int .i64 x.f2,.int .i64 x.f3,.int .i64 x.f4,.int .i64 x.f5,.string x.f6] 65 (0,0))))
 case atStart=>exact ⟨0,rfl,Nat.zero_le _,by omega,HI1,wg,HZ1,HX1⟩
 case round =>
  clear HI1 wg HZ1 HX1;(try clear HI);(try clear HK);(try clear HZ);(try clear HX);obtain ⟨i,rfl,hi,hg,HI,HK,HZ,HX⟩:=hrel
  by_cases hlt:i < s.length
  ·have Ns:decide ((i:Int) < (s.length:Int))=true:=decide_eq_true (by omega);have i1:0 ≤ (i:Int):=by omega
   have i2:(i:Int) < (s.length:Int):=by omega
   obtain ⟨ad,e1,xm⟩:=cA (HC.out wr HK.out) hlt;subst e1;have hx0:wr.cell? ⟨w.heap.size,0,none⟩=some (.int .i64 x.f0):=(ia HX.out 0).trans rfl;have hx1:wr.cell? ⟨w.heap.size,1,none⟩=some (.int .i64 x.f1):=(ia HX.out 1).trans rfl;have Ow:wr.cell? ⟨w.heap.size,2,none⟩=some (.int .i64 x.f2):=(ia HX.out 2).trans rfl;have Hq:wr.cell? ⟨w.heap.size,3,none⟩=some (.int .i64 x.f3):=(ia HX.out 3).trans rfl;have Gq:wr.cell? ⟨w.heap.size,4,none⟩=some (.int .i64 x.f4):=(ia HX.out 4).trans rfl;have RP:wr.cell? ⟨w.heap.size,5,none⟩=some (.int .i64 x.f5):=(ia HX.out 5).trans rfl;have UK:wr.cell? ⟨w.heap.size,6,none⟩=some (.string x.f6):=(ia HX.out 6).trans rfl;have HME:=ga.mk (sL x)
   go_upto_region 5 with (first|(go_at_call 87;(with_reducible refine (th.calls x.f0 x.f1 x.f2 x.f3 x.f4 x.f5 x.f6 (Am x) wr HME.out).mono ?_);rintro e w2 ⟨rfl,hb⟩;have Ht:=ga.mk hb;clear hb hx0 hx1 Ow Hq Gq RP UK xm))
   have i_:=ga.mk (HI.out.below Ht.out);have zl:=ga.mk (HK.out.below Ht.out);have HZ2:=ga.mk (HZ.out.trans (ir Ht.out));have HX2:=ga.mk (Va HX.out Ht.out);clear HI HK HZ HX Ht i1 i2 Ns
   by_cases VK:seen s i=true∧Am x ≥ 0
   ·obtain ⟨lC,hm⟩:=VK;obtain ⟨D,hD⟩:∃ D:Nat,Am x=(D:Int):=⟨(Am x).toNat,(Int.toNat_of_nonneg hm).symm⟩;have hDn:D < s.length:=by have:=mH KK.out hm;omega
    have HDD:=ga.mk hD;rw [hD];rw [lC];have hd0:decide ((D:Int) ≥ 0)=true:=decide_eq_true (by omega);have hf0:w2.cell? ⟨qf,0,none⟩=some (.func (.func 85) #[] #[.pointer (some ⟨q,0,none⟩)]):=(ia i_.out.hf 0).trans rfl;have q_:=ga.mk (i_.out.call hDn hlt hn);have HSE:=ga.mk lC;clear hm hD lC;go_wp2_with (go_at_fn 85;refine q_.out.mono ?_;rintro e w3 ⟨rfl,h1,h2,h3⟩;have HI3:=ga.mk h1;have Aq:=ga.mk (zl.out.Wo h2 (fun _ h=>Or.inl h));have HZ3:=ga.mk (HZ2.out.trans h3);have HX3:=ga.mk (Ve HX2.out h2 (fun e=>by have:=cZ.out _ e;omega));clear h1 h2 h3 hf0)
    have jP:=ga.mk (HI3.out.Wq (Q:=Hr P x s (i + 1)) (fun a b=>by
     unfold Hr;have h1:=HDD.out
     constructor
     ·rintro ((h|⟨h2,h3,h4,h5⟩)|⟨rfl,rfl⟩)
      ·exact Or.inl h
      ·exact Or.inr ⟨h2,h3,by omega,h5⟩
      ·exact Or.inr ⟨by omega,by omega,by omega,HSE.out⟩
     ·rintro (h|⟨h2,h3,h4,h5⟩)
      ·exact Or.inl (Or.inl h)
      ·by_cases e:b=i
       ·exact Or.inr ⟨by omega,e⟩
       ·exact Or.inl (Or.inr ⟨h2,h3,by omega,h5⟩)))
    go_roundg (s.length - (i + 1))
    case measure=>omega
    case rel=>exact ⟨i + 1,by go_num,by omega,by omega,jP,Aq,HZ3,HX3⟩
   ·have jP:=ga.mk (i_.out.Wq (Q:=Hr P x s (i + 1)) (fun a b=>by
     unfold Hr
     constructor
     ·rintro (h|⟨h2,h3,h4,h5⟩)
      ·exact Or.inl h
      ·exact Or.inr ⟨h2,h3,by omega,h5⟩
     ·rintro (h|⟨h2,h3,h4,h5⟩)
      ·exact Or.inl h
      ·by_cases e:b=i
       ·subst e;exact absurd ⟨h5,h2⟩ VK
       ·exact Or.inr ⟨h2,h3,by omega,h5⟩))
    have HGO:=ga.mk VK;clear VK i_;cases lC:seen s i with
    | false =>
     clear lC;go_wp2
     go_roundg (s.length - (i + 1))
     case measure=>omega
     case rel=>exact ⟨i + 1,by go_num,by omega,by omega,jP,zl,HZ2,HX2⟩
    | true =>
     have hd0:decide (Am x ≥ 0)=false:=decide_eq_false (fun h=>HGO.out ⟨lC,h⟩);clear lC;go_wp2
     go_roundg (s.length - (i + 1))
     case measure=>omega
     case rel=>exact ⟨i + 1,by go_num,by omega,by omega,jP,zl,HZ2,HX2⟩
  ·have Ns:decide ((i:Int) < (s.length:Int))=false:=decide_eq_false (by omega)
   have jP:=ga.mk (HI.out.Wq (Q:=Vg P x s) (fun a b=>by
    unfold Hr Vg
    constructor
    ·rintro (h|⟨h2,h3,h4,h5⟩)
     ·exact Or.inl h
     ·exact Or.inr ⟨h2,h3,h5⟩
    ·rintro (h|⟨h2,h3,h5⟩)
     ·exact Or.inl h
     ·exact Or.inr ⟨h2,h3,by have:=Yl h5;omega,h5⟩))
   go_wp2;refine bodyPost_end (v:=.tuple #[]) ?_ rfl ?_
   ·exact results_none rfl _ _ _
   exact ⟨rfl,jP.out,HK.out,HZ.out⟩
end Go.Proofs.Ytkigbdceceeenaa.P
end
