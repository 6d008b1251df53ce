import Derived.Test.YtkigbdceceeenaaQSpilled1
import Derived.Test.YtkigbdceceeenaaQSpilled8
import Derived.Shelf.Abstract
import Derived.Test.YtkigbdceceeenaaQSpilled7
import Derived.Test.YtkigbdceceeenaaQSpilled4
import Derived.Test.YtkigbdceceeenaaQSpilled3
import Derived.Test.YtkigbdceceeenaaQSpilled2
import Derived.Outline
import Derived.RegionTactic
import Derived.StillTailTactics
import Derived.Test.YtkigbdceceeenaaQSpilled6
set_option maxHeartbeats 8000000
set_option maxRecDepth 100000
section
namespace Go.Proofs.Ytkigbdceceeenaa.P
open Go.RowKit Go.Proofs.Ma.Wb Go.Proofs.Ma.Jd Go.Proofs.Ma.Fe
set_option linter.unusedVariables false
set_option linter.unusedSimpArgs false
attribute [local go_sem] Gi Xi Jj ak Sh Rh Yi Wi
def Df.l0:Nat→List Bool→List (Le)→Int→Option (List Bool)
 | 0,_,_,_=>none
 | k + 1,x7,x8,x9=>if x9 ≥ 0 then (if 0 ≤ x9 then (if x9 < (x8.length:Int) then ((ue.f k x7 ((Ea x8 x9).f0) ((Ea x8 x9).f1) ((Ea x8 x9).f2) ((Ea x8 x9).f3) ((Ea x8 x9).f4) ((Ea x8 x9).f5) ((Ea x8 x9).f6)).bind fun t107=>(Df.l0 k t107 x8 (wrap64 (x9 - 1)))) else (none)) else (none)) else (some x7)
def Df.f (k:Nat) (Qa:List Int) (Ja:Int) (Ga:Int) (Ia:Int) (Aa:List (He)) (l1:List (List Bool)) (a2:Int):Option (List Bool):=(rj.f Qa Ja Ga Ia Aa l1 a2).bind fun t102=>(if 0 ≤ a2 then (if a2 < (Aa.length:Int) then (Df.l0 k t102 ((za Aa a2).f0) (wrap64 ((((za Aa a2).f0).length:Int) - 1))) else (none)) else (none))
theorem Df.calls (k:Nat) (Wa:Option Addr) (Xa:Nat) (Qa:List Int) (Ja:Int) (Ga:Int) (Ia:Int) (Jb:Option Addr) (yb:Nat) (Aa:List (He)) (A1:Option Addr) (c1:Nat) (l1:List (List Bool)) (a2:Int) (r:List Bool) (w:World) (Od:Kd.C (Kd.int .i64) w Wa Qa.length Qa) (Md:Qa.length ≤ Xa) (Re:Kd.C iq w Jb Aa.length Aa) (Qe:Aa.length ≤ yb) (Kp:Kd.C (Kd.slice 4 Kd.bool) w A1 l1.length l1) (Xk:l1.length ≤ c1) (h:Df.f k Qa Ja Ga Ia Aa l1 a2=some r) :
  Calls Try.prog 49 #[.agg #[.slice Wa Qa.length Xa,.int .i64 Ja,.int .i64 Ga,.int .i64 Ia,.slice Jb Aa.length yb],.slice A1 l1.length c1,.int .i64 a2] w fun e w'=>∃ wm:Value,e = .returned (wm)∧Kd.R Kd.bool 4 w' w.heap.size (fun _=>True) wm r∧Below w.heap.size w w':=by
 have KB:=Try.underlying30;have kA:=Try.underlying65;have fe:=ga.mk Od;have ye:=ga.mk Md;clear Od Md;have We:=ga.mk Re;have Xf:=ga.mk Qe;clear Re Qe;have Uo:=ga.mk Kp;have FG:=ga.mk Xk;clear Kp Xk;have HB:=ga.mk (Below.refl w.heap.size w);have H:((rj.f Qa Ja Ga Ia Aa l1 a2).bind fun t102=>(if 0 ≤ a2 then (if a2 < (Aa.length:Int) then (Df.l0 k t102 ((za Aa a2).f0) (wrap64 ((((za Aa a2).f0).length:Int) - 1))) else (none)) else (none)))=some r:=h;clear h;replace H:=Option.bind_eq_some_iff.mp H;obtain ⟨t102,A40,H⟩:=H;replace H:(if 0 ≤ a2 then (if a2 < (Aa.length:Int) then (Df.l0 k t102 ((za Aa a2).f0) (wrap64 ((((za Aa a2).f0).length:Int) - 1))) else (none)) else (none))=some r:=H;have A4:=ga.mk A40;clear A40
 by_cases c5:0 ≤ a2
 ·rw [if_pos c5] at H;have Nk:decide (0 ≤ a2)=true:=decide_eq_true c5;clear c5
  by_cases c6:a2 < (Aa.length:Int)
  ·rw [if_pos c6] at H;have Mp:decide (a2 < (Aa.length:Int))=true:=decide_eq_true c6;clear c6;have H':=ga.mk H;clear H;go_enter Try.func49,Try.ntmps49;go_wp2_with (first|((with_reducible refine qb (N:=3) rfl ?_);refine Ib ?hg (N:=3) ?hd (cs:=#[.slice Wa Qa.length Xa,.int .i64 Ja,.int .i64 Ga,.int .i64 Ia,.slice Jb Aa.length yb]) (t:=30) ?hr ?_;(case hd=>rfl);(case hg=>rfl);(case hr=>first|(go_simp;done)|(go_simp;rfl));intro ya hg w7 Sb hb;have Cb:=ga.mk (Na CaH hb);have Eb:=ga.mk (Sb);have Rb:=ga.mk ((by rw [hg];exact (La CaH):w.heap.size ≤ ya));have Gc:=ga.mk ((by rw [hg];exact (La CaH):w.heap.size ≤ ya));clear HB;have HB:=Cb;have oa:=Eb;have Nd:=Rb;have Ta:=Gc;clear Cb Eb Rb Gc hb Sb hg;have Yu:w7.cell? ⟨ya,0,none⟩=some (.slice Wa Qa.length Xa):=(ia oa.out 0).trans rfl;have Xu:w7.cell? ⟨ya,1,none⟩=some (.int .i64 Ja):=(ia oa.out 1).trans rfl;have Wu:w7.cell? ⟨ya,2,none⟩=some (.int .i64 Ga):=(ia oa.out 2).trans rfl;have Vu:w7.cell? ⟨ya,3,none⟩=some (.int .i64 Ia):=(ia oa.out 3).trans rfl;have Uu:w7.cell? ⟨ya,4,none⟩=some (.slice Jb Aa.length yb):=(ia oa.out 4).trans rfl;have Hu:=aa oa.out 0;have Gu:=aa oa.out 1;have Fu:=aa oa.out 2;have Eu:=aa oa.out 3;have Du:=aa oa.out 4)|((with_reducible refine Bb (f:=81) rfl ?_);refine Tc (some 13) rfl rfl Try.func81 (by kernel_rfl) rfl #[.agg #[.slice Wa Qa.length Xa,.int .i64 Ja,.int .i64 Ga,.int .i64 Ia,.slice Jb Aa.length yb],.slice A1 l1.length c1,.int .i64 a2] rfl FaH ?_;(with_reducible refine (rj.calls _ _ Qa Ja Ga Ia _ _ Aa _ _ l1 a2 t102 _ ?yc ?uc ?td ?qd ?Hp ?Gp A4.out).mono ?_);(case yc=>repeat (first|exact (Kd.Ab fe.out HB.out)|(with_reducible refine Kd.Lb ?_ _)|(with_reducible refine Kd.Kb ?_ _)|(with_reducible refine Kd.Xb ?_)));(case uc=>exact ye.out);(case td=>repeat (first|exact (Kd.Ab We.out HB.out)|(with_reducible refine Kd.Lb ?_ _)|(with_reducible refine Kd.Kb ?_ _)|(with_reducible refine Kd.Xb ?_)));(case qd=>exact Xf.out);(case Hp=>repeat (first|exact (Kd.Ab Uo.out HB.out)|(with_reducible refine Kd.Lb ?_ _)|(with_reducible refine Kd.Kb ?_ _)|(with_reducible refine Kd.Xb ?_)));(case Gp=>exact FG.out);rintro e w9 ⟨Sm,rfl,Hi,hb⟩;refine ⟨_,rfl,?_⟩;have Cb:=ga.mk (Kd.Wd Hi (La BaH));have Eb:=ga.mk (Va (g:=ya) (o:=.cells #[.slice Wa Qa.length Xa,.int .i64 Ja,.int .i64 Ga,.int .i64 Ia,.slice Jb Aa.length yb] 30 (0,0)) DaH hb);have Rb:=ga.mk (Na BaH hb);clear oa HB;have Cg:=Cb;have oa:=Eb;have HB:=Rb;clear Cb Eb Rb;(try clear hb);(try clear jj);(try clear hk);(try clear hi);(try clear Hi);have Ai:w9.cell? ⟨ya,0,none⟩=some (.slice Wa Qa.length Xa):=(ia oa.out 0).trans rfl;have zi:w9.cell? ⟨ya,1,none⟩=some (.int .i64 Ja):=(ia oa.out 1).trans rfl;have si:w9.cell? ⟨ya,2,none⟩=some (.int .i64 Ga):=(ia oa.out 2).trans rfl;have ri:w9.cell? ⟨ya,3,none⟩=some (.int .i64 Ia):=(ia oa.out 3).trans rfl;have qi:w9.cell? ⟨ya,4,none⟩=some (.slice Jb Aa.length yb):=(ia oa.out 4).trans rfl;have ni:=aa oa.out 0;have ki:=aa oa.out 1;have ji:=aa oa.out 2;have ei:=aa oa.out 3;have di:=aa oa.out 4;have Vm:0 ≤ (a2:Int):=Ua;have Um:a2 < (Aa.length:Int):=Ua;obtain ⟨Ii,Yh,yg,sC,qh,xj,wj,uj,tj,yj,zj⟩:=Fj We.out a2 Vm Um;cases sC;replace qh:=Sa HB.out qh;replace xj:=Sa HB.out xj;replace wj:=Sa HB.out wj;replace uj:=Sa HB.out uj;replace tj:=Sa HB.out tj;have Bo:=ga.mk zj;have Mv:=ga.mk yj;clear zj yj;replace Vm:=eq_true Vm;replace Um:=eq_true Um))
   go_loopg [9] k (fun kq v9 w'=>∃ (Ng:List Bool) (nh:Int),v9 = .int .i64 nh∧ga (Df.l0 kq Ng ((za Aa a2).f0) nh=some r)∧ga (kq ≤ k)∧ga (Kd.R Kd.bool 4 w' w.heap.size (fun _=>True) Sm Ng)∧ga (w'.heap[ya]? = some (.cells #[(.slice Wa Qa.length Xa),.int .i64 Ja,.int .i64 Ga,.int .i64 Ia,(.slice (some Ii) Aa.length yb)] 30 (0,0)))∧ga (Below w.heap.size w w'))
   case atStart=>exact ⟨(t102),(wrap64 ((((za Aa a2).f0).length:Int) - 1)),IaH,H',⟨Nat.le_refl _⟩,⟨XaH⟩,⟨HaH⟩,⟨EaH⟩⟩
   case round =>
    clear H'
    try clear c1
    try clear p1
    try clear q1
    try clear hx1
    try clear p2
    try clear c4
    try clear c5
    try clear Nk
    try clear c6
    try clear Mp
    try clear p6
    try clear c8
    try clear Gt
    try clear LG
    try clear JG
    try clear SU
    try clear Ai
    try clear zi
    try clear si
    try clear ri
    try clear qi
    try clear Yu
    try clear Xu
    try clear Wu
    try clear Vu
    try clear Uu
    try clear ni
    try clear ki
    try clear ji
    try clear ei
    try clear di
    try clear Hu
    try clear Gu
    try clear Fu
    try clear Eu
    try clear Du
    try clear qh
    try clear xj
    try clear wj
    try clear uj
    try clear tj
    try clear Vm
    try clear Um
    (try clear HA);(try clear pg);(try clear rm);(try clear oa);(try clear HB);obtain ⟨Ng,nh,rfl,HA,pg,rm,oa,HB⟩:=hrel;cases gk with
    | zero=>exact absurd HA.out (by simp [Df.l0])
    | succ k1 =>
     have H:=HA.out;clear HA;simp only [Df.l0] at H
     by_cases zG:nh ≥ 0
     ·rw [if_pos zG] at H;have KM:decide (0 ≤ nh)=true:=decide_eq_true zG;clear zG
      by_cases gu:0 ≤ nh
      ·rw [if_pos gu] at H;have bY:decide (0 ≤ nh)=true:=decide_eq_true gu;clear gu
       by_cases VC:nh < (((za Aa a2).f0).length:Int)
       ·rw [if_pos VC] at H;have f_:decide (nh < (((za Aa a2).f0).length:Int))=true:=decide_eq_true VC;clear VC;replace H:=Option.bind_eq_some_iff.mp H;obtain ⟨t107,jN,H⟩:=H;replace H:(Df.l0 k1 t107 ((za Aa a2).f0) (wrap64 (nh - 1)))=some r:=H;have A14:=ga.mk jN;clear jN;have H':=ga.mk H;clear H;have Yq:0 ≤ (nh:Int):=Ua;have Wq:nh < (((za Aa a2).f0).length:Int):=Ua;obtain ⟨Sv,mK,Al,mQ,lQ,kQ,jQ,iQ,gQ⟩:=Jm Bo.out nh Yq Wq;cases mK;replace Al:=Sa HB.out Al;replace mQ:=Sa HB.out mQ;replace lQ:=Sa HB.out lQ;replace kQ:=Sa HB.out kQ;replace jQ:=Sa HB.out jQ;replace iQ:=Sa HB.out iQ;replace gQ:=Sa HB.out gQ;replace Yq:=eq_true Yq;replace Wq:=eq_true Wq;obtain ⟨Vad,eac,eax⟩:=Kd.Bd rm.out;subst eax;go_wp2_with (first|((with_reducible refine Bb (f:=79) rfl ?_);refine Tc (some 32) rfl rfl Try.func79 (by kernel_rfl) rfl #[.slice Vad Ng.length eac,.agg #[.int .i64 ((Ea ((za Aa a2).f0) nh).f0),.int .i64 ((Ea ((za Aa a2).f0) nh).f1),.int .i64 ((Ea ((za Aa a2).f0) nh).f2),.int .i64 ((Ea ((za Aa a2).f0) nh).f3),.int .i64 ((Ea ((za Aa a2).f0) nh).f4),.int .i64 ((Ea ((za Aa a2).f0) nh).f5),.string ((Ea ((za Aa a2).f0) nh).f6)]] rfl FaH ?_;(with_reducible refine (ue.calls k1 (fun k_=>some k_=(.slice Vad Ng.length eac:Value).ownBlock) (.slice Vad Ng.length eac) Ng ((Ea ((za Aa a2).f0) nh).f0) ((Ea ((za Aa a2).f0) nh).f1) ((Ea ((za Aa a2).f0) nh).f2) ((Ea ((za Aa a2).f0) nh).f3) ((Ea ((za Aa a2).f0) nh).f4) ((Ea ((za Aa a2).f0) nh).f5) ((Ea ((za Aa a2).f0) nh).f6) t107 w _ ?yc ?uc A14.out).mono ?_);(case yc=>repeat (first|(with_reducible first|exact HB.out|apply qa|apply ja|apply ta|refine ua ?_ Ta.out)|exact HB.out));(case uc=>exact Kd.Vx rfl rm.out);rintro e qz ⟨rfl,hy0,hb,hkp⟩;refine ⟨_,rfl,?_⟩;have Cb:=ga.mk (Kd.wY rfl hy0 (fun k_ e_=>rm.out.1 k_ e_));have Eb:=ga.mk (Ve DaH hkp (fun hs_=>(fun e_=>(Kd.Fk rm.out oa.out (by decide)) e_) hs_));have Rb:=ga.mk (hb);clear rm oa HB;have rm:=Cb;have oa:=Eb;have HB:=Rb;clear Cb Eb Rb;(try clear hb);(try clear hkp);(try clear hy0)))
        go_roundg k1
        case measure=>have:=pg.out;omega
        case rel=>exact ⟨(t107),(wrap64 (nh - 1)),IaH,H',⟨by have:=pg.out;omega⟩,⟨by (with_reducible repeat (first|apply Kd.mb|apply Kd.jb|apply Kd.Gb));exact rm.out⟩,⟨HaH⟩,⟨EaH⟩⟩
       ·rw [if_neg VC] at H;exact absurd H (by simp)
      ·rw [if_neg gu] at H;exact absurd H (by simp)
     ·rw [if_neg zG] at H;have KM:decide (0 ≤ nh)=false:=decide_eq_false zG;clear zG;obtain rfl:=Option.some.inj H;go_wp2;go_ret;exact ⟨_,by first|rfl|(simp [Pa,Oa] <;> rfl)|(simp [*,Pa,Oa] <;> rfl),by (with_reducible repeat (first|apply Kd.mb|apply Kd.jb|apply Kd.Gb));exact rm.out,EaH⟩
  ·rw [if_neg c6] at H;exact absurd H (by simp)
 ·rw [if_neg c5] at H;exact absurd H (by simp)
theorem zT {α:Type} (d:Kd α) (e:Nat) (w:World) (base:Nat) (h:base ≤ w.heap.size):d.R e (w.alloc (.cells #[] e (0,0))) base (fun _=>True) (.slice (some ⟨w.heap.size,0,none⟩) 0 0) []:=by
 refine ⟨fun _ _=>trivial,[],?_,⟨by simp,fun i p hp=>by simp at hp⟩⟩;have h2:=World.ownsRow_lit (base:=base) (e:=e) (size:=d.sz) w #[] 0 h (by simp [maxLen]) (by simp)
 simpa using h2
theorem tH {α:Type} {d:Kd α} {e B:Nat} {ok:Nat→Prop} {W w':World} {v:Value} {xs:List α} (h:d.R e w' W.heap.size ok v xs) (hB:B ≤ W.heap.size):d.R e w' B (fun k=>W.heap.size ≤ k∧k < w'.heap.size) v xs :=
 Kd.Wd (Kd.Xd (Kd.Bg h) (fun _ hk=>⟨hk.2.1,hk.2.2.1⟩)) hB
theorem Baa {α:Type} {d:Kd α} {e B:Nat} {ok:Nat→Prop} {W w':World} {v:Value} {xs:List α} (h:Kd.S d e w' W.heap.size ok v xs) (hB:B ≤ W.heap.size):Kd.S d e w' B (fun k=>W.heap.size ≤ k∧k < w'.heap.size) v xs :=
 Kd.Cp (Kd.Gj (Kd.Iv h) (fun _ hk=>⟨hk.2.1,hk.2.2.1⟩)) hB
theorem Jac {α:Type} {d:Kd α} {et e base g n cap i:Nat} {W:World} {ok pN:Nat→Prop} {D:List (List α)} {v:Value} {xs:List α} (h:Kd.S (Kd.slice et d) e W base (fun k=>ok k∧¬ pN k) (.slice (some ⟨g,0,none⟩) n cap) D) (hg:∀ k,pN k→ok k) (hi:i < n) (hx:Kd.R d et W base pN v xs) :
  Kd.S (Kd.slice et d) e (W.setCell ⟨g,i,none⟩ v) base ok (.slice (some ⟨g,0,none⟩) n cap) (D.set i xs)∧W.grownBy (W.setCell ⟨g,i,none⟩ v) (some g):=by
 obtain ⟨Fo,c,Xv,hM,ey,hcf,MB,hH⟩:=Kd.zC h ([]:List α) (i:Int) (by omega) (by omega);have hH2:=Kd.IY hH hg;have Iai:c.length=1:=Xv
 obtain ⟨u,rfl⟩:∃ u,c=[u]:=by
  rcases c with _|⟨u,_|⟨u2,c⟩⟩
  ·simp at Iai
  ·exact ⟨u,rfl⟩
  ·simp at Iai
 have hs:=Kd.Iac (d:=Kd.slice et d) hH2 (by omega) (by omega) (seg:=[v]) (j:=0) (show 0 + 1 ≤ 1 from by decide) (x':=xs) (Di:=pN) (show (Kd.slice et d).M W base pN xs [v] from ⟨v,rfl,hx⟩) (fun k hk=>Or.inr hk);rw [Int.toNat_natCast,show i * (Kd.slice et d).sz + 0=i from by show i * 1 + 0=i;omega] at hs;exact hs
theorem qY {α:Type} {enc:α→Value} {h1:∀ x,(enc x).oneCell' = true} {et e base g n cap i s:Nat} {W:World} {ok:Nat→Prop} {D:List (List α)} (z:α) (h:Kd.S (Kd.slice et (Kd.scalar enc h1)) e W base ok (.slice (some ⟨g,0,none⟩) n cap) D) (hi:i < n) (hs:s < (D.getD i []).length) :
  ∃ (gi c:Nat),W.cell? ⟨g,i,none⟩=some (.slice (some ⟨gi,0,none⟩) (D.getD i []).length c)∧ok gi∧W.cell? ⟨gi,s,none⟩=some (enc ((D.getD i []).getD s z))∧W.frozen? ⟨gi,s,none⟩=false ∧
   ∀ x,Kd.S (Kd.slice et (Kd.scalar enc h1)) e (W.setCell ⟨gi,s,none⟩ (enc x)) base ok (.slice (some ⟨g,0,none⟩) n cap) (D.set i ((D.getD i []).set s x))∧W.grownBy (W.setCell ⟨gi,s,none⟩ (enc x)) (some gi):=by
 obtain ⟨Fo,c,Xv,hM,ey,hcf,MB,hH⟩:=Kd.zC h ([]:List α) (i:Int) (by omega) (by omega);rw [Int.toNat_natCast] at hM ey hcf;obtain ⟨v,rfl,hR⟩:=hM;obtain ⟨gi,cc,rfl,-⟩:=Kd.Ul hR (by omega);have hb:=hR.1 gi rfl;have hc0:=ey 0 _ rfl;rw [show i * (Kd.slice et (Kd.scalar enc h1)).sz + 0=i from by show i * 1 + 0=i;omega] at hc0;obtain ⟨e1,e2⟩:=Kd.Cj z hR (s:Int) (by omega) (by omega);rw [Int.toNat_natCast] at e1 e2;refine ⟨gi,cc,hc0,(MB gi hb).1,e1,e2,fun x=>?_⟩;obtain ⟨p1,p2⟩:=Kd.yo hR (s:Int) x;rw [Int.toNat_natCast] at p1 p2;refine ⟨?_,p2⟩;have hH2:=Kd.OT hH p2 (fun k hk=>by injection hk with hk;rw [← hk];exact hb);have:=Kd.wK hH2 (x':=(D.getD i []).set s x) (show (Kd.slice et (Kd.scalar enc h1)).M _ base Fo ((D.getD i []).set s x) [.slice (some ⟨gi,0,none⟩) (D.getD i []).length cc] from ⟨_,rfl,p1⟩) (fun k hk=>hk)
 rwa [Int.toNat_natCast] at this
theorem iB {α:Type} (d:Kd α) (e:Nat) (w:World) (base:Nat) (h:base ≤ w.heap.size):Kd.S d e (w.alloc (.cells #[] e (0,0))) base (fun k=>k=w.heap.size) (.slice (some ⟨w.heap.size,0,none⟩) 0 0) []:=by
 have h1:=zT (Kd.tag (fun _=>0) d) e w w.heap.size (Nat.le_refl _);refine ⟨fun _=>0,Kd.Wd (Kd.Xd (Kd.Bg h1) (fun k hk=>?_)) h⟩;obtain ⟨_,h2,h3,_⟩:=hk;simp at h3;omega
theorem nY {α:Type} {d:Kd α} {et e base g n cap i:Nat} {W:World} {P:Nat→Prop} {D:List (List α)} (h:Kd.S (Kd.slice et d) e W base P (.slice (some ⟨g,0,none⟩) n cap) D) (hi:i < n) :
  ∃ (A:Option Addr) (c:Nat),W.cell? ⟨g,i,none⟩=some (.slice A (D.getD i []).length c)∧W.frozen? ⟨g,i,none⟩=false∧Kd.R d et W base (fun k=>P k∧k ≠ g∧base ≤ k∧k < W.heap.size) (.slice A (D.getD i []).length c) (D.getD i []):=by
 obtain ⟨Fo,c,Xv,hM,ey,hcf,MB,hH⟩:=Kd.zC h ([]:List α) (i:Int) (by omega) (by omega);rw [Int.toNat_natCast] at hM ey hcf;obtain ⟨v,hc,hR⟩:=hM;obtain ⟨A,cc,rfl⟩:=Kd.Bd hR;have h1:=ey 0 _ (by rw [hc];rfl);have h2:=hcf 0;rw [show i * (Kd.slice et d).sz + 0=i from by show i * 1 + 0=i;omega] at h1 h2;exact ⟨A,cc,h1,h2,Kd.Xd (Kd.Bg hR) (fun k hk=>⟨(MB k hk.1).1,(MB k hk.1).2,hk.2.1,hk.2.2.1⟩)⟩
structure Ur (w:World) (o:Obj) (PB:Nat→Prop) (vX vY:Value) (X Y:List (List Bool)) (wr:World):Prop where
 bl:Below w.heap.size w wr
 hx:wr.heap[w.heap.size]? = some o
 x:Kd.S (Kd.slice 4 Kd.bool) 60 wr w.heap.size PB vX X
 y:Kd.S (Kd.slice 4 Kd.bool) 60 wr w.heap.size (fun k=>¬ PB k∧w.heap.size < k) vY Y
 pb:∀ k,PB k→w.heap.size < k∧k < wr.heap.size
section
variable {w wr W w1:World} {o:Obj} {PB:Nat→Prop} {vX vY v1:Value} {X Y:List (List Bool)} {p:List Bool}
theorem Ur.below (h:Ur w o PB vX vY X Y wr) (hb:Below wr.heap.size wr W):Ur w o PB vX vY X Y W :=
 ⟨Na h.bl hb,Va h.hx hb,Kd.lg h.x hb,Kd.lg h.y hb,fun k hk=>⟨(h.pb k hk).1,Nat.lt_of_lt_of_le (h.pb k hk).2 hb.size⟩⟩
theorem Ur.Hac (h:Ur w o PB vX vY X Y wr) (hb:Below wr.heap.size wr W) (hs:Kd.S (Kd.slice 4 Kd.bool) 60 w1 w.heap.size (fun k=>PB k ∨ wr.heap.size ≤ k) v1 (X ++ [p])) (hw:Below w.heap.size w w1) (hg:W.grownBy w1 vX.ownBlock) :
  Ur w o (fun k=>PB k ∨ (wr.heap.size ≤ k∧k < w1.heap.size)) v1 vY (X ++ [p]) Y w1:=by
 have h2:=h.below hb;have hsz:wr.heap.size ≤ w1.heap.size:=Nat.le_trans hb.size hg.size;have hown:∀ k,vX.ownBlock=some k→PB k:=(Kd.PM h.x).1;refine ⟨hw,?_,Kd.Gj (Kd.Iv hs) (fun k hk=>hk.1.imp id (fun h3=>⟨h3,hk.2.2.1⟩)),?_,fun k hk=>?_⟩
 ·exact xd h2.hx hg (fun e=>by have:=(h.pb _ (hown _ e.symm)).1;omega)
 ·refine Kd.Gj (Kd.pE (Kd.oY h.y hb) hg (fun k hk e=>hk.1.1 (hown k e.symm))) (fun k hk=>⟨fun h3=>h3.elim hk.1.1 (fun h4=>by have:=hk.2;omega),hk.1.2⟩)
 ·rcases hk with hk|hk
  ·have:=h.pb k hk;exact ⟨this.1,by omega⟩
  ·have:=Pc h.hx;exact ⟨by omega,hk.2⟩
theorem Ur.zax (h:Ur w o PB vX vY X Y wr) (hb:Below wr.heap.size wr W) (hs:Kd.S (Kd.slice 4 Kd.bool) 60 w1 w.heap.size (fun k=>¬ PB k∧w.heap.size < k) v1 (Y ++ [p])) (hw:Below w.heap.size w w1) (hg:W.grownBy w1 vY.ownBlock) :
  Ur w o PB vX v1 X (Y ++ [p]) w1:=by
 have h2:=h.below hb;have hown:∀ k,vY.ownBlock=some k→¬ PB k∧w.heap.size < k:=(Kd.PM h.y).1;exact ⟨hw,xd h2.hx hg (fun e=>by have:=(hown _ e.symm).2;omega),Kd.pE h2.x hg (fun k hk e=>(hown k e.symm).1 hk),hs,fun k hk=>⟨(h2.pb k hk).1,Nat.lt_of_lt_of_le (h2.pb k hk).2 hg.size⟩⟩
end
theorem Ur.okX {w wr W:World} {o:Obj} {PB:Nat→Prop} {vX vY:Value} {X Y:List (List Bool)} (h:Ur w o PB vX vY X Y wr) (hb:Below wr.heap.size wr W):Kd.S (Kd.slice 4 Kd.bool) 60 W w.heap.size (fun k=>(PB k ∨ wr.heap.size ≤ k)∧¬ wr.heap.size ≤ k) vX X :=
 Kd.Gj (Kd.oY h.x hb) (fun k hk=>⟨Or.inl hk.1,by have:=hk.2;omega⟩)
theorem Ur.neX {w wr:World} {o:Obj} {PB:Nat→Prop} {vX vY:Value} {X Y:List (List Bool)} (h:Ur w o PB vX vY X Y wr):∀ k,wr.heap.size ≤ k→(PB k ∨ wr.heap.size ≤ k)∧some k ≠ vX.ownBlock :=
 fun k hk=>⟨Or.inr hk,fun e=>by have:=(h.pb k ((Kd.PM h.x).1 k e.symm)).2;omega⟩
theorem Ur.frX {w wr W:World} {o:Obj} {PB:Nat→Prop} {vX vY:Value} {X Y:List (List Bool)} (_:Ur w o PB vX vY X Y wr) (hb:Below wr.heap.size wr W):∀ k,W.heap.size ≤ k→PB k ∨ wr.heap.size ≤ k:=fun _ hk=>Or.inr (Nat.le_trans hb.size hk)
theorem Ur.okY {w wr W:World} {o:Obj} {PB:Nat→Prop} {vX vY:Value} {X Y:List (List Bool)} (h:Ur w o PB vX vY X Y wr) (hb:Below wr.heap.size wr W):Kd.S (Kd.slice 4 Kd.bool) 60 W w.heap.size (fun k=>(¬ PB k∧w.heap.size < k)∧¬ wr.heap.size ≤ k) vY Y :=
 Kd.Gj (Kd.oY h.y hb) (fun k hk=>⟨hk.1,by have:=hk.2;omega⟩)
theorem Ur.neY {w wr:World} {o:Obj} {PB:Nat→Prop} {vX vY:Value} {X Y:List (List Bool)} (h:Ur w o PB vX vY X Y wr):∀ k,wr.heap.size ≤ k→(¬ PB k∧w.heap.size < k)∧some k ≠ vY.ownBlock :=
 fun k hk=>⟨⟨fun e=>by have:=(h.pb k e).2;omega,by have:=Pc h.hx;omega⟩,fun e=>by have:=Kd.Bax h.y k e.symm;omega⟩
theorem Ur.frY {w wr W:World} {o:Obj} {PB:Nat→Prop} {vX vY:Value} {X Y:List (List Bool)} (h:Ur w o PB vX vY X Y wr) (hb:Below wr.heap.size wr W):∀ k,W.heap.size ≤ k→¬ PB k∧w.heap.size < k:=fun k hk=>(h.neY k (Nat.le_trans hb.size hk)).1
theorem YP {W:World} {base N:Nat} {ok:Nat→Prop} {v:Value} {xs:List Bool} (ho:Kd.R Kd.bool 4 W N ok v xs) (hl:base ≤ N):(Kd.slice 4 Kd.bool).M W base ok xs [v]:=⟨v,rfl,Kd.Wd ho hl⟩
theorem Ur.forms {w wr:World} {o:Obj} {PB:Nat→Prop} {vX vY:Value} {n m:Nat} (h:Ur w o PB vX vY (List.replicate m (List.replicate n false)) (List.replicate m (List.replicate n false)) wr) (hm:0 < m) :
  ∃ gX cX gY cY,vX = .slice (some ⟨gX,0,none⟩) m cX∧vY = .slice (some ⟨gY,0,none⟩) m cY:=by
 obtain ⟨gX,cX,e1,-⟩:=Kd.yC h.x (by rw [List.length_replicate];exact hm);obtain ⟨gY,cY,e2,-⟩:=Kd.yC h.y (by rw [List.length_replicate];exact hm);rw [List.length_replicate] at e1 e2;exact ⟨gX,cX,gY,cY,e1,e2⟩
theorem Ur.Eau {w wr:World} {o:Obj} {PB:Nat→Prop} {vY:Value} {X Y:List (List Bool)} {gX m cX i s:Nat} (h:Ur w o PB (.slice (some ⟨gX,0,none⟩) m cX) vY X Y wr) (hi:i < m) (hs:s < (Be X i).length) :
  ∃ (gi c:Nat),wr.cell? ⟨gX,i,none⟩=some (.slice (some ⟨gi,0,none⟩) (Be X i).length c)∧wr.cell? ⟨gi,s,none⟩=some (.bool (seen (Be X i) s))∧wr.frozen? ⟨gi,s,none⟩=false∧PB gi ∧
   ∀ b,Ur w o PB (.slice (some ⟨gX,0,none⟩) m cX) vY (X.set i ((Be X i).set s b)) Y (wr.setCell ⟨gi,s,none⟩ (.bool b)):=by
 obtain ⟨gi,c,h1,h2,h3,h4,h5⟩:=qY false h.x hi hs;refine ⟨gi,c,h1,h3,h4,h2,fun b=>?_⟩;obtain ⟨h6,hg⟩:=h5 b;have hb:=h.pb gi h2
 exact ⟨h.bl.grown hg (by omega) (fun k e=>by injection e with e;omega),xd h.hx hg (fun e=>by injection e with e;omega),h6,
  Kd.pE h.y hg (fun k hk e=>by injection e with e;exact hk.1 (e ▸ h2)),fun k hk=>⟨(h.pb k hk).1,Nat.lt_of_lt_of_le (h.pb k hk).2 hg.size⟩⟩
theorem Ur.Oae {w wr W:World} {o:Obj} {PB:Nat→Prop} {vX v:Value} {X Y:List (List Bool)} {gY m cY i:Nat} {ok:Nat→Prop} {xs:List Bool} (h:Ur w o PB vX (.slice (some ⟨gY,0,none⟩) m cY) X Y wr) (hb:Below wr.heap.size wr W) (hi:i < m) (hR:Kd.R Kd.bool 4 W wr.heap.size ok v xs) :
  Ur w o PB vX (.slice (some ⟨gY,0,none⟩) m cY) X (Y.set i xs) (W.setCell ⟨gY,i,none⟩ v):=by
 have h2:=h.below hb;have hl:=Pc h.hx;obtain ⟨h6,hg⟩:=Jac (pN:=fun k=>wr.heap.size ≤ k) (h.okY hb) (fun k hk=>(h.neY k hk).1) hi (Kd.Wd (Kd.Xd (Kd.Bg hR) (fun k hk=>hk.2.1)) (Nat.le_of_lt hl));have hy:=(Kd.PM h.y).1 gY rfl
 exact ⟨h2.bl.grown hg h2.bl.size (fun k e=>by injection e with e;omega),xd h2.hx hg (fun e=>by injection e with e;omega),Kd.pE h2.x hg (fun k hk e=>by injection e with e;exact hy.1 (e ▸ hk)),h6,
  fun k hk=>⟨(h2.pb k hk).1,Nat.lt_of_lt_of_le (h2.pb k hk).2 hg.size⟩⟩
theorem Ur.wau {w wr:World} {o:Obj} {PB:Nat→Prop} {vY:Value} {X Y:List (List Bool)} {gX m cX i:Nat} (h:Ur w o PB (.slice (some ⟨gX,0,none⟩) m cX) vY X Y wr) (hi:i < m) :
  ∃ (A:Option Addr) (c:Nat),wr.cell? ⟨gX,i,none⟩=some (.slice A (Be X i).length c)∧Kd.C Kd.bool wr A (Be X i).length (Be X i)∧(Be X i).length ≤ c:=by
 obtain ⟨A,c,h1,_,h2⟩:=nY h.x hi;exact ⟨A,c,h1,(Kd.Vb h2).2.2,(Kd.Vb h2).2.1⟩
theorem Ur.P1 {w wr:World} {o:Obj} {PB:Nat→Prop} {vX:Value} {X Y:List (List Bool)} {gY m cY i:Nat} (h:Ur w o PB vX (.slice (some ⟨gY,0,none⟩) m cY) X Y wr) (hi:i < m) :
  ∃ (A:Option Addr) (c:Nat),wr.cell? ⟨gY,i,none⟩=some (.slice A (Be Y i).length c)∧wr.frozen? ⟨gY,i,none⟩=false∧(Be Y i).length ≤ c∧Kd.C Kd.bool wr A (Be Y i).length (Be Y i)∧∀ W,Kept wr W PB→Kd.C Kd.bool W A (Be Y i).length (Be Y i):=by
 obtain ⟨A,c,h1,hf,h2⟩:=nY h.y hi;exact ⟨A,c,h1,hf,(Kd.Vb h2).2.1,(Kd.Vb h2).2.2,Kd.dG (S:=PB) h2 (fun k hk=>hk.1.1)⟩
structure LvS (bs:List He) (X Y:List (List Bool)) (C:Nat) (a:Bool) (q:Nat):Prop where
 le:C ≤ Gr Y
 lt:a=true→C < Gr Y
 so:a=false→∀ k,q ≤ k→k < bs.length→StE bs X Y k
structure LvR (bs:List He) (n:Nat) (X0 Y:List (List Bool)) (i:Nat) (X:List (List Bool)):Prop where
 inv:jG bs n X Y
 oth:∀ k,k ≠ i→Be X k=Be X0 k
def M0 (ts:List Int) (j:Nat) (Y X:List (List Bool)) (i:Nat):Prop:=∀ t ∈ ts.take j,∀ u,seen (Be Y t.toNat) u=true→seen (Be X i) u=true
def TkS (t s:Nat) (Y X:List (List Bool)) (i:Nat):Prop:=∀ u,u < s→seen (Be Y t) u=true→seen (Be X i) u=true
section
variable {bs:List He} {n i s tn:Nat} {X0 X Y:List (List Bool)} {ts:List Int} {j:Nat}
theorem LvR.step (h:LvR bs n X0 Y i X) (hE:uB bs) (hi:i < bs.length) {t:Int} (ht:t ∈ Rt bs i) (htn:t=(tn:Int)) (hs:s < n) (hj:M0 ts j Y X i) (hk:TkS tn s Y X i) :
  LvR bs n X0 Y i (X.set i ((Be X i).set s (seen (Be X i) s || seen (Be Y tn) s)))∧M0 ts j Y (X.set i ((Be X i).set s (seen (Be X i) s || seen (Be Y tn) s))) i∧TkS tn (s + 1) Y (X.set i ((Be X i).set s (seen (Be X i) s || seen (Be Y tn) s))) i:=by
 have hil:i < X.length:=by rw [h.inv.xl];exact hi
 have NW:s < (Be X i).length:=by rw [h.inv.xr i hi];exact hs
 have h1:=h.inv.or hE hi ht hs;rw [htn,Int.toNat_natCast] at h1
 have hm:∀ u,seen (Be X i) u=true→seen (Be (X.set i ((Be X i).set s (seen (Be X i) s || seen (Be Y tn) s))) i) u=true:=fun u hu=>by
  rw [Vp hil,if_pos rfl,Nj NW]
  by_cases e:s=u
  ·subst e;rw [if_pos rfl,hu];rfl
  ·rw [if_neg e];exact hu
 refine ⟨⟨h1,fun k hk=>?_⟩,fun t ht u hu=>hm u (hj t ht u hu),fun u hu hy=>?_⟩
 ·rw [Vp hil,if_neg (fun e=>hk e.symm)];exact h.oth k hk
 ·by_cases e:s=u
  ·subst e;rw [Vp hil,if_pos rfl,Nj NW,if_pos rfl,hy,Bool.or_true]
  ·exact hm u (hk u (by omega) hy)
theorem M0.next (h:M0 ts j Y X i) (hj:j < ts.length) (ht:ts[j]=(tn:Int)) (hk:TkS tn (Be Y tn).length Y X i):M0 ts (j + 1) Y X i:=by
 intro t h1 u hu;rw [List.take_succ_eq_append_getElem hj,List.mem_append,List.mem_singleton] at h1
 rcases h1 with h1|h1
 ·exact h t h1 u hu
 ·rw [h1,ht,Int.toNat_natCast] at hu;exact hk u (Em hu) hu
theorem LvS.next {C:Nat} {a:Bool} (h:LvS bs X0 Y C a (i + 1)) (hO:Lm bs n) (hi:i < bs.length) (hr:LvR bs n X0 Y i X) (hj:M0 (Rt bs i) (Rt bs i).length Y X i) :
  jG bs n X (Y.set i (QC (za bs (i:Int)) (Be X i)))∧LvS bs X (Y.set i (QC (za bs (i:Int)) (Be X i))) C (a || !decide (QC (za bs (i:Int)) (Be X i)=Be Y i)) i:=by
 have hil:i < Y.length:=by rw [hr.inv.yl];exact hi
 refine ⟨hr.inv.put hO hi,?_⟩
 by_cases he:QC (za bs (i:Int)) (Be X i)=Be Y i
 ·have hY:Y.set i (QC (za bs (i:Int)) (Be X i))=Y:=by
   rw [he];apply List.ext_getElem (by simp);intro k h1 h2;rw [List.getElem_set]
   by_cases e:i=k
   ·subst e;simp [Be,List.getD_eq_getElem?_getD,h2]
   ·rw [if_neg e]
  rw [hY,decide_eq_true he];refine ⟨h.le,fun ha=>h.lt (by simpa using ha),fun ha k hk1 hk2=>?_⟩
  by_cases e:k=i
  ·subst e;exact ⟨fun t ht u hu=>hj t (by rw [List.take_length];exact ht) u hu,he.symm⟩
  ·have:=h.so (by simpa using ha) k (by omega) hk2;unfold StE at this ⊢;rw [hr.oth k e];exact this
 ·have:=hr.inv.grow hO hi he;rw [decide_eq_false he];exact ⟨by have:=h.le;omega,fun _=>by have:=h.le;omega,fun ha=>by simp at ha⟩
end
theorem jG.cnt {bs:List He} {n:Nat} {X Y:List (List Bool)} (h:jG bs n X Y):Gr Y ≤ n * bs.length:=by
 have:=oK (m:=n) Y (fun i hi=>by rw [h.yr i (by rw [← h.yl];exact hi)];exact Nat.le_refl _)
 rwa [h.yl] at this
abbrev sy (Wa:Option Addr) (n0 Xa:Nat) (Ja Ga:Int) (n:Nat) (Jb:Option Addr) (n4 yb:Nat):Obj:=.cells #[.slice Wa n0 Xa,.int .i64 Ja,.int .i64 Ga,.int .i64 (n:Int),.slice Jb n4 yb] 30 (0,0)
theorem PC {w wr:World} {PB:Nat→Prop} {vX vY:Value} {X Y:List (List Bool)} {Wa Jb:Option Addr} {n0 c0 n n4 c4:Nat} {a1 a2:Int} (h:Ur w (sy Wa n0 c0 a1 a2 n Jb n4 c4) PB vX vY X Y wr):wr.cell? ⟨w.heap.size,3,none⟩=some (.int .i64 (n:Int)):=(ia h.hx 3).trans rfl
theorem oW {w wr:World} {PB:Nat→Prop} {vX vY:Value} {X Y:List (List Bool)} {Wa Jb:Option Addr} {n0 c0 n n4 c4:Nat} {a1 a2:Int} (h:Ur w (sy Wa n0 c0 a1 a2 n Jb n4 c4) PB vX vY X Y wr):wr.cell? ⟨w.heap.size,4,none⟩=some (.slice Jb n4 c4):=(ia h.hx 4).trans rfl
theorem I2 {bs:List He} (hE:uB bs) {b j:Nat} (hb:b < bs.length) (hj:j < (Rt bs b).length) {A:Option Addr} {W:World} (hC:Kd.C (Kd.int .i64) W A (Rt bs b).length (Rt bs b)) :
  ∃ (ad:Addr) (t:Nat),A=some ad∧(Rt bs b)[j]=(t:Int)∧t < bs.length∧W.cell? (ad.add j)=some (.int .i64 (t:Int)):=by
 obtain ⟨t0,t1⟩:=hE.2.2 b hb _ (List.getElem_mem hj);obtain ⟨ad,e1,hx⟩:=Kd.Rf hC (j:Int) (by omega) (by omega);rw [Int.toNat_natCast,Oo hj] at hx;exact ⟨ad,((Rt bs b)[j]).toNat,e1,(Int.toNat_of_nonneg t0).symm,by omega,by rw [Int.toNat_of_nonneg t0];exact hx⟩
theorem Ez {xs:List Bool} {A:Option Addr} {W:World} {s:Nat} (hC:Kd.C Kd.bool W A xs.length xs) (hs:s < xs.length):∃ ad:Addr,A=some ad∧W.cell? (ad.add s)=some (.bool (seen xs s)):=by
 obtain ⟨ad,e1,hx⟩:=Kd.Mg hC (s:Int) (by omega) (by omega);rw [Int.toNat_natCast] at hx;exact ⟨ad,e1,hx⟩
def nu (code:List Le) (q:Nat) (s:List Bool):List Bool:=(code.drop q).foldr (fun x s=>vo s x) s
theorem Tx (code:List Le) (q:Nat) (s:List Bool):(nu code q s).length=s.length:=vC _ _
theorem Gv (code:List Le) (s:List Bool):nu code code.length s=s:=by unfold nu;rw [List.drop_length];rfl
theorem Mr {code:List Le} {q:Nat} (h:q < code.length) (s:List Bool):nu code q s=vo (nu code (q + 1) s) (Ea code (q:Int)):=by
 unfold nu;rw [List.drop_eq_getElem_cons h,List.foldr_cons,Rk h]
theorem DF (b:He) (s:List Bool):nu b.f0 0 (Ei b s)=QC b s:=rfl
theorem Ot {bs:List He} {n i:Nat} (hO:Lm bs n) (hi:i < bs.length):lu n (za bs (i:Int)):=by
 rw [mh hi];exact hO.2.2 _ (List.getElem_mem hi)
theorem jw {n q:Nat} {b:He} (h:lu n b) (hq:q < b.f0.length):Wt n (Ea b.f0 (q:Int)):=by
 rw [Rk hq];exact h.2.2 _ (List.getElem_mem hq)
theorem uY {W:World} {base n c u:Nat} {ok:Nat→Prop} {A:Option Addr} {xs:List Bool} (h:Kd.R Kd.bool 4 W base ok (.slice A n c) xs) (hu:u < xs.length) :
  ∃ g,A=some ⟨g,0,none⟩∧base ≤ g∧W.cell? ⟨g,u,none⟩=some (.bool (seen xs u))∧W.frozen? ⟨g,u,none⟩=false∧∀ b,Kd.R Kd.bool 4 (W.setCell ⟨g,u,none⟩ (.bool b)) base ok (.slice A n c) (xs.set u b)∧W.grownBy (W.setCell ⟨g,u,none⟩ (.bool b)) (some g):=by
 obtain ⟨g,cap,e,hb,-⟩:=Kd.Ul h (by omega);injection e with e1 e2 e3
 subst e1;obtain ⟨r1,r2⟩:=Kd.Cj false h (u:Int) (by omega) (by omega);rw [Int.toNat_natCast] at r1 r2;refine ⟨g,rfl,hb,r1,r2,fun b=>?_⟩;have:=Kd.yo h (u:Int) b
 rwa [Int.toNat_natCast] at this
end Go.Proofs.Ytkigbdceceeenaa.P
end
section
namespace Go.Proofs.Ytkigbdceceeenaa.P
open Go.RowKit Go.Proofs.Ma.Wb Go.Proofs.Ma.Jd Go.Proofs.Ma.Fe
set_option linter.unusedVariables false
set_option linter.unusedSimpArgs false
theorem Pk {i:Nat} (h:i ≤ 1048576):wrap64 ((i:Int) - 1)=(i:Int) - 1:=by unfold wrap64;omega
theorem succ_pred (i:Nat):((i + 1:Nat):Int) - 1=(i:Int):=by omega
theorem wu (X:List (List Bool)) (i:Nat):Rc X (i:Int)=Be X i:=by unfold Rc Be;rw [Int.toNat_natCast]
def jn (s:List Bool) (m:Nat):List Int:=((List.range m).filter (fun i=>seen s i)).map (fun (i:Nat)=>(i:Int))
theorem vU {s:List Bool} {m:Nat} (h:seen s m=true):jn s (m + 1)=jn s m ++ [(m:Int)]:=by
 unfold jn;rw [List.range_succ,List.filter_append,List.map_append];simp [h]
theorem wU {s:List Bool} {m:Nat} (h:¬ seen s m=true):jn s (m + 1)=jn s m:=by
 unfold jn;rw [List.range_succ,List.filter_append,List.map_append];simp [h]
theorem MG (s:List Bool) (m:Nat):(jn s m).length ≤ m:=by
 unfold jn;rw [List.length_map];exact Nat.le_trans (List.length_filter_le _ _) (Nat.le_of_eq List.length_range)
theorem sG (s:List Bool) (hm:s.length ≤ 1048576):∀ (d i:Nat),i + d=s.length→Ev (fun k=>Ce.l0 k (jn s i) s (s.length:Int) (i:Int)) (jn s s.length):=by
 intro d
 induction d with
 | zero =>
  intro i hi;obtain rfl:i=s.length:=by omega
  refine Ev.step (fun k=>by rw [Ce.l0]) ?_;exact Ev.neg (by omega) (Ev.now _)
 | succ d ih =>
  intro i hi;have hl:=MG s i;have h:=ih (i + 1) (by omega);refine Ev.step (fun k=>by rw [Ce.l0]) ?_;refine Ev.pos (by omega) (Ev.pos (by omega) (Ev.pos (by omega) ?_));rw [Oj,Rd (show i < s.length by omega) (by omega)]
  by_cases hs:seen s i=true
  ·rw [vU hs] at h;exact Ev.pos hs (Ev.pos (by omega) h)
  ·rw [wU hs] at h;exact Ev.neg hs h
theorem lO (s:List Bool) (hm:s.length ≤ 1048576):Ev (fun k=>Ce.f k s) (jn s s.length):=sG s hm s.length 0 (by omega)
theorem rM (b:He) (s:List Bool) (hb:lu s.length b) (x:List Bool) (hx:x.length=s.length):∀ (q:Nat),q ≤ b.f0.length→Ev (fun k=>Zf.l0 k (nu b.f0 q x) ((q:Int) - 1) b.f0 b.f1 b.f2 b.f3 b.f4) (nu b.f0 0 x):=by
 intro q
 induction q with
 | zero =>
  intro _;refine Ev.step (fun k=>by rw [Zf.l0]) ?_;exact Ev.neg (by omega) (Ev.now _)
 | succ q ih =>
  intro hq;have h1:=hb.1;have he:=CM (nu b.f0 (q + 1) x) (Ea b.f0 (q:Int)) (by rw [Tx,hx];exact jw hb (by omega));rw [← Mr (by omega)] at he;refine Ev.step (fun k=>by rw [Zf.l0]) ?_;rw [succ_pred];refine Ev.pos (by omega) (Ev.pos (by omega) (Ev.pos (by omega) (Ev.bind he ?_)));rw [Pk (by omega)];exact ih (by omega)
theorem NX (b:He) (s:List Bool) (hb:lu s.length b) (hs:s.length ≤ 1048576):Ev (fun k=>Zf.f k b.f0 b.f1 b.f2 b.f3 b.f4 s) (QC b s):=by
 have hl:=rM b s hb (Ei b s) (xm b s) b.f0.length (Nat.le_refl _);rw [Gv,DF] at hl;have h1:=hb.1
 have he:Qg.f b.f0 b.f1 b.f2 b.f3 b.f4 s=some (Ei b s):=by
  unfold Qg.f Ei;rw [Option.bind_some,if_pos (by simp;omega),Option.bind_some,List.nil_append]
  by_cases hf:b.f1=0
  ·rw [if_pos hf,if_pos hf]
  ·have:=hb.2.1 hf;rw [if_neg hf,if_neg hf,if_pos (by omega),if_pos (by omega)]
 unfold Zf.f;refine Ev.bind (Ev.here he) ?_;rw [Pk h1];exact hl
theorem eK (b:He) (s:List Bool) (hb:lu s.length b) (x:List Bool) (hx:x.length=s.length):∀ (q:Nat),q ≤ b.f0.length→Ev (fun k=>Df.l0 k (nu b.f0 q x) b.f0 ((q:Int) - 1)) (nu b.f0 0 x):=by
 intro q
 induction q with
 | zero =>
  intro _;refine Ev.step (fun k=>by rw [Df.l0]) ?_;exact Ev.neg (by omega) (Ev.now _)
 | succ q ih =>
  intro hq;have h1:=hb.1;have he:=fK (nu b.f0 (q + 1) x) (Ea b.f0 (q:Int)) (by rw [Tx,hx];exact jw hb (by omega));rw [← Mr (by omega)] at he;refine Ev.step (fun k=>by rw [Df.l0]) ?_;rw [succ_pred];refine Ev.pos (by omega) (Ev.pos (by omega) (Ev.pos (by omega) (Ev.bind he ?_)));rw [Pk (by omega)];exact ih (by omega)
theorem XE {bs:List He} {n i:Nat} (hO:Lm bs n) (hi:i < bs.length) (X:List (List Bool)) (hX:X.length=bs.length) (hr:(Be X i).length=n) (l0:List Int) (p v s:Int):rj.f l0 p v s bs X (i:Int)=some (Ei (za bs (i:Int)) (Be X i)):=by
 have hb:=Ot hO hi;have hn:=hO.2.1;unfold rj.f Ei;rw [wu,Option.bind_some,if_pos (by omega),if_pos (by omega),if_pos (by simp;omega),Option.bind_some,List.nil_append,if_pos (by omega)]
 by_cases hf:(za bs (i:Int)).f1=0
 ·rw [if_pos hf,if_pos hf]
 ·have:=hb.2.1 hf;rw [if_neg hf,if_neg hf,if_pos (by omega),if_pos (by omega)]
theorem YU {bs:List He} {n i:Nat} (hO:Lm bs n) (hi:i < bs.length) (X:List (List Bool)) (hX:X.length=bs.length) (hr:(Be X i).length=n) (l0:List Int) (p v s:Int):Ev (fun k=>Df.f k l0 p v s bs X (i:Int)) (QC (za bs (i:Int)) (Be X i)):=by
 have hb:=Ot hO hi;have hl:=eK (za bs (i:Int)) (Be X i) (by rw [hr];exact hb) (Ei (za bs (i:Int)) (Be X i)) (xm _ _) _ (Nat.le_refl _);rw [Gv,DF] at hl;unfold Df.f;refine Ev.bind (Ev.here (XE hO hi X hX hr l0 p v s)) ?_;refine Ev.pos (by omega) (Ev.pos (by omega) ?_);rw [Pk hb.1];exact hl
structure mY (bs:List He) (n:Nat) (X:List (List Bool)):Prop where
 len:X.length=bs.length
 row:∀ i,i < bs.length→(Be X i).length=n
 so:∀ i u,i < bs.length→seen (Be X i) u=true→LB bs u i
def StS (bs:List He) (X:List (List Bool)) (i:Nat):Prop:=∀ t ∈ Rt bs i,∀ u,seen (QC (za bs t) (Be X t.toNat)) u=true→seen (Be X i) u=true
structure F7 (bs:List He) (n:Nat) (X0 X:List (List Bool)) (a:Bool):Prop where
 inv:mY bs n X
 le:Gr X0 ≤ Gr X
 lt:a=true→Gr X0 < Gr X
 eq:a=false→X=X0
section
variable {bs:List He} {n:Nat} {X0 X:List (List Bool)} {a:Bool}
theorem mY.Sae (h:mY bs n X) (hO:Lm bs n) {i:Nat} {t:Int} (hi:i < bs.length) (ht:t ∈ Rt bs i) {u:Nat} (hu:seen (QC (za bs t) (Be X t.toNat)) u=true):LB bs u i:=by
 obtain ⟨t0,t1⟩:=hO.1.2.2 i hi t ht;have htn:t.toNat < bs.length:=by omega
 have hb:=Ot hO htn;rw [Int.toNat_of_nonneg t0] at hb;rw [mw (by rw [h.row _ htn];exact hb)] at hu;cases hc:seen (Be X t.toNat) u with
 | false=>rw [hc] at hu;exact LB.gen ht hu
 | true=>rw [hc] at hu;exact LB.step ht hu (h.so _ u htn hc)
theorem F7.put (h:F7 bs n X0 X a) {i s:Nat} (hi:i < bs.length) (hs:s < n) (hb:LB bs s i) (hns:¬ seen (Be X i) s=true):F7 bs n X0 (X.set i ((Be X i).set s true)) true:=by
 have hil:i < X.length:=by rw [h.inv.len];exact hi
 have NW:s < (Be X i).length:=by rw [h.inv.row i hi];exact hs
 have h1:=uF X i ((Be X i).set s true) hil
 have h2:=(KO (Be X i) ((Be X i).set s true) (by rw [List.length_set]) (fun u hu=>by
  rw [Nj NW]
  by_cases e:s=u
  ·rw [if_pos e]
  ·rw [if_neg e];exact hu)).2 (fun e=>hns (by rw [e,Nj NW,if_pos rfl]))
 have h3:=h.le;refine ⟨⟨by rw [List.length_set];exact h.inv.len,fun k hk=>?_,fun k u hk hu=>?_⟩,by omega,fun _=>by omega,fun e=>by cases e⟩
 ·rw [Vp hil]
  by_cases e:i=k
  ·rw [if_pos e,List.length_set];exact h.inv.row i hi
  ·rw [if_neg e];exact h.inv.row k hk
 ·rw [Vp hil] at hu
  by_cases e:i=k
  ·subst e;rw [if_pos rfl,Nj NW] at hu
   by_cases e2:s=u
   ·subst e2;exact hb
   ·rw [if_neg e2] at hu;exact h.inv.so i u hk hu
  ·rw [if_neg e] at hu;exact h.inv.so k u hk hu
theorem mY.done (h:mY bs n X) (hO:Lm bs n) (hst:∀ i,i < bs.length→StS bs X i):X=bf bs n:=by
 have hE:=hO.1
 have key:∀ u i,LB bs u i→i < bs.length→seen (Be X i) u=true:=by
  intro u i hl
  have turn:∀ (i:Nat) (t:Int),i < bs.length→t ∈ Rt bs i→m0 u (za bs t) (seen (Be X t.toNat) u)=true→seen (Be X i) u=true:=by
   intro i t hi ht h1;obtain ⟨t0,t1⟩:=hE.2.2 i hi t ht;have htn:t.toNat < bs.length:=by omega
   have hb:=Ot hO htn;rw [Int.toNat_of_nonneg t0] at hb;refine hst i hi t ht u ?_;rw [mw (by rw [h.row _ htn];exact hb)];exact h1
  induction hl with
  | @gen i t ht h1 =>
   intro hi;exact turn i t hi ht (nw (fun hf=>by cases hf) h1)
  | @step i t ht h1 _ ih =>
   intro hi;obtain ⟨t0,t1⟩:=hE.2.2 i hi t ht;exact turn i t hi ht (nw (fun _=>ih (by omega)) h1)
 apply List.ext_getElem
 ·rw [h.len,Rj]
 ·intro i h1 h2;have hi:i < bs.length:=by rw [← h.len];exact h1
  have e1:X[i]=Be X i:=by simp [Be,List.getD_eq_getElem?_getD,h1]
  have e2:(bf bs n)[i]=pn bs n i:=by simp [bf]
  rw [e1,e2];refine Bz (by rw [h.row i hi,Yj]) (fun u=>?_)
  constructor
  ·intro hu;have hun:u < n:=by have:=Em hu;rw [h.row i hi] at this;exact this
   exact (fq hun).2 (h.so i u hi hu)
  ·intro hu;have hun:u < n:=by have:=Em hu;rw [Yj] at this;exact this
   exact key u i ((fq hun).1 hu) hi
theorem mY.start (bs:List He) (n:Nat):mY bs n (List.replicate bs.length (List.replicate n false)) :=
 ⟨(jG.start bs n).xl,(jG.start bs n).xr,(jG.start bs n).xs⟩
theorem mY.cnt (h:mY bs n X):Gr X ≤ n * bs.length:=by
 have:=oK (m:=n) X (fun i hi=>by rw [h.row i (by rw [← h.len];exact hi)];exact Nat.le_refl _)
 rwa [h.len] at this
end
section
variable {bs:List He} {n:Nat} (l0:List Int) (p v:Int) {R:List (List Bool)} {X0:List (List Bool)}
theorem tO {Q:Prop} {i j:Nat} {ts:List Int} {t:List Bool} (hO:Lm bs n) (hi:i < bs.length) (htl:t.length=n) (hso:∀ u,seen t u=true→LB bs u i)
  (hK:∀ X a,F7 bs n X0 X a→(a=false→Q)→(a=false→∀ u,u < n→seen t u=true→seen (Be X0 i) u=true)→Ev (fun k=>xb.l3 k X a (i:Int) ts (wrap64 ((j:Int) + 1)) l0 p v (n:Int) bs) R) :
  ∀ (d s:Nat) (X:List (List Bool)) (a:Bool),s + d=n→F7 bs n X0 X a→(a=false→Q)→(a=false→∀ u,u < s→seen t u=true→seen (Be X0 i) u=true)→Ev (fun k=>xb.l4 k X a (i:Int) ts (j:Int) t (s:Int) l0 p v (n:Int) bs) R:=by
 intro d
 induction d with
 | zero =>
  intro s X a hs hP hQ hD;obtain rfl:s=n:=by omega
  refine Ev.step (fun k=>by rw [xb.l4]) ?_;exact Ev.neg (by omega) (hK X a hP hQ hD)
 | succ d ih =>
  intro s X a hs hP hQ hD;have hsn:s < n:=by omega
  have hn:=hO.2.1;have hxl:=hP.inv.len;have hxr:=hP.inv.row i hi;refine Ev.step (fun k=>by rw [xb.l4]) ?_;refine Ev.pos (by omega) (Ev.pos (by omega) (Ev.pos (by omega) ?_));rw [Oj,Rd hsn (by omega),wu,Oj,Int.toNat_natCast,Int.toNat_natCast]
  by_cases hts:seen t s=true
  ·refine Ev.pos hts (Ev.pos (by omega) (Ev.pos (by omega) (Ev.pos (by omega) ?_)))
   by_cases hx:seen (Be X i) s=true
   ·refine Ev.pos hx (ih (s + 1) X a (by omega) hP hQ (fun ha u hu hu2=>?_))
    by_cases e:u=s
    ·subst e;rw [← hP.eq ha];exact hx
    ·exact hD ha u (by omega) hu2
   ·exact Ev.neg hx (ih (s + 1) _ true (by omega) (hP.put hi hsn (hso s hts) hx) (fun ha=>by cases ha) (fun ha=>by cases ha))
  ·refine Ev.neg hts (ih (s + 1) X a (by omega) hP hQ (fun ha u hu hu2=>?_))
   by_cases e:u=s
   ·subst e;exact absurd hu2 hts
   ·exact hD ha u (by omega) hu2
theorem uO {Q:Prop} {i:Nat} (hO:Lm bs n) (hi:i < bs.length)
  (hK:∀ X a,F7 bs n X0 X a→(a=false→Q)→(a=false→StS bs X0 i)→Ev (fun k=>xb.l2 k X a (wrap64 ((i:Int) - 1)) l0 p v (n:Int) bs) R) :
  ∀ (d j:Nat) (X:List (List Bool)) (a:Bool),j + d=(Rt bs i).length→F7 bs n X0 X a→(a=false→Q)→(a=false→∀ t ∈ (Rt bs i).take j,∀ u,seen (QC (za bs t) (Be X0 t.toNat)) u=true→seen (Be X0 i) u=true)→Ev (fun k=>xb.l3 k X a (i:Int) (Rt bs i) (j:Int) l0 p v (n:Int) bs) R:=by
 have h2:(Rt bs i).length ≤ 2:=eM _;intro d
 induction d with
 | zero =>
  intro j X a hj hP hQ hD;obtain rfl:j=(Rt bs i).length:=by omega
  refine Ev.step (fun k=>by rw [xb.l3]) ?_;refine Ev.neg (by omega) (hK X a hP hQ (fun ha t ht=>hD ha t (by rw [List.take_length];exact ht)))
 | succ d ih =>
  intro j X a hj hP hQ hD;have hjl:j < (Rt bs i).length:=by omega
  have hn:=hO.2.1;have htm:=List.getElem_mem hjl;obtain ⟨t0,t1⟩:=hO.1.2.2 i hi _ htm;have hxl:=hP.inv.len;obtain ⟨tn,htn⟩:∃ tn:Nat,(Rt bs i)[j]=(tn:Int):=⟨_,(Int.toNat_of_nonneg t0).symm⟩;have htb:tn < bs.length:=by omega
  have hb:=Ot hO htb;have hr:=hP.inv.row tn htb;refine Ev.step (fun k=>by rw [xb.l3]) ?_;rw [Oo hjl,htn,wu];refine Ev.pos (by omega) (Ev.pos (by omega) (Ev.pos (by omega) (Ev.pos (by omega) (Ev.pos (by omega) (Ev.bind (NX _ (Be X tn) (by rw [hr];exact hb) (by omega)) ?_)))));refine tO l0 p v (X0:=X0) (Q:=a=false) hO hi (by rw [Es];exact hr) (fun u hu=>hP.inv.Sae hO hi htm (by rw [htn,Int.toNat_natCast];exact hu)) (fun X' a' V6 hQ' hD'=>?_) n 0 X a (by omega) hP id (fun ha u hu=>by omega);rw [Rd hjl (by omega)];refine ih (j + 1) X' a' (by omega) V6 (fun ha=>hQ (hQ' ha)) (fun ha t ht u hu=>?_);have hX:=hP.eq (hQ' ha);rw [List.take_succ_eq_append_getElem hjl,List.mem_append,List.mem_singleton] at ht
  rcases ht with ht|ht
  ·exact hD (hQ' ha) t ht u hu
  ·rw [ht,htn,Int.toNat_natCast,← hX] at hu;have hun:u < n:=by have:=Em hu;rw [Es,hr] at this;exact this
   exact hD' ha u hun hu
theorem vO (hO:Lm bs n)
  (hK:∀ X a,F7 bs n X0 X a→(a=false→∀ i,i < bs.length→StS bs X0 i)→Ev (fun k=>xb.l1 k X a l0 p v (n:Int) bs) R) :
  ∀ (q:Nat) (X:List (List Bool)) (a:Bool),q ≤ bs.length→F7 bs n X0 X a→(a=false→∀ i,q ≤ i→i < bs.length→StS bs X0 i)→Ev (fun k=>xb.l2 k X a ((q:Int) - 1) l0 p v (n:Int) bs) R:=by
 intro q
 induction q with
 | zero =>
  intro X a hq hP hD;refine Ev.step (fun k=>by rw [xb.l2]) ?_;exact Ev.neg (by omega) (hK X a hP (fun ha i hi=>hD ha i (Nat.zero_le _) hi))
 | succ q ih =>
  intro X a hq hP hD;have hb:=hO.1.2.1;refine Ev.step (fun k=>by rw [xb.l2]) ?_;rw [succ_pred];refine Ev.pos (by omega) (Ev.pos (by omega) (Ev.pos (by omega) (Ev.bind (Ev.here (xU (za bs (q:Int)))) ?_)));refine uO l0 p v (X0:=X0) (Q:=a=false) hO (show q < bs.length by omega) (fun X' a' V6 hQ' hD'=>?_) _ 0 X a (Nat.zero_add _) hP id (fun _ t ht=>by simp at ht);rw [Pk (by omega)];refine ih X' a' (by omega) V6 (fun ha i hi1 hi2=>?_)
  by_cases e:i=q
  ·subst e;exact hD' ha
  ·exact hD (hQ' ha) i (by omega) hi2
theorem wO (hO:Lm bs n):∀ (m:Nat) (X:List (List Bool)) (a:Bool),n * bs.length - Gr X + (if a=true then 1 else 0) ≤ m→mY bs n X→(a=false→∀ i,i < bs.length→StS bs X i)→Ev (fun k=>xb.l1 k X a l0 p v (n:Int) bs) (bf bs n):=by
 intro m
 induction m with
 | zero =>
  intro X a hm hI hD;cases a with
  | true=>rw [if_pos rfl] at hm;omega
  | false =>
   rw [← hI.done hO (hD rfl)];refine Ev.step (fun k=>by rw [xb.l1]) ?_;exact Ev.neg (by simp) (Ev.now _)
 | succ m ih =>
  intro X a hm hI hD;cases a with
  | false =>
   rw [← hI.done hO (hD rfl)];refine Ev.step (fun k=>by rw [xb.l1]) ?_;exact Ev.neg (by simp) (Ev.now _)
  | true =>
   rw [if_pos rfl] at hm;refine Ev.step (fun k=>by rw [xb.l1]) ?_;refine Ev.pos rfl ?_;rw [Pk hO.1.2.1];refine vO l0 p v (X0:=X) hO (fun X' a' V6 hD'=>?_) _ X false (Nat.le_refl _) ⟨hI,Nat.le_refl _,(fun e=>by cases e),(fun _=>rfl)⟩ (fun _ i h1 h2=>by omega);have hc:=V6.inv.cnt;refine ih X' a' ?_ V6.inv (fun ha=>?_)
   ·cases a' with
    | true=>have:=V6.lt rfl;rw [if_pos rfl];omega
    | false=>have:=V6.le;rw [if_neg (by simp)];omega
   ·rw [V6.eq ha];exact hD' ha
theorem xO (hO:Lm bs n):∀ (d j:Nat),j + d=bs.length→Ev (fun k=>xb.l0 k (List.replicate j (List.replicate n false)) (j:Int) l0 p v (n:Int) bs) (bf bs n):=by
 have hb:=hO.1.2.1;have hn:=hO.2.1;intro d
 induction d with
 | zero =>
  intro j hj;obtain rfl:j=bs.length:=by omega
  refine Ev.step (fun k=>by rw [xb.l0]) ?_;exact Ev.neg (by omega) (wO l0 p v hO _ _ true (Nat.le_refl _) (mY.start bs n) (fun e=>by cases e))
 | succ d ih =>
  intro j hj;have h:=ih (j + 1) (by omega);rw [List.replicate_succ'] at h;refine Ev.step (fun k=>by rw [xb.l0]) ?_;rw [Int.toNat_natCast,Rd (show j < bs.length by omega) (by omega)];exact Ev.pos (by omega) (Ev.pos (by omega) (Ev.pos (by omega) (Ev.pos (by rw [List.length_replicate];omega) h)))
theorem nO (hO:Lm bs n):Ev (fun k=>xb.f k l0 p v (n:Int) bs) (bf bs n):=xO l0 p v hO bs.length 0 (by omega)
end
end Go.Proofs.Ytkigbdceceeenaa.P
end
section
namespace Go.Proofs.Ytkigbdceceeenaa.P
open Go.RowKit Go.Proofs.Ma.Wb Go.Proofs.Ma.Jd Go.Proofs.Ma.Fe
set_option linter.unusedVariables false
set_option linter.unusedSimpArgs false
attribute [local go_sem] Gi Xi Jj ak Sh Rh Yi Wi
def Yb.l0:Nat→List Bool→List Bool→Int→Int→Option (Bool)
 | 0,_,_,_,_=>none
 | k + 1,x0,x1,x12,x13=>if x13 < x12 then (if 0 ≤ x13 then (if x13 < (x0.length:Int) then (if x13 < (x1.length:Int) then (if ((sg false x0 x13) != (sg false x1 x13))=true then (some false) else (Yb.l0 k x0 x1 x12 (wrap64 (x13 + 1)))) else (none)) else (none)) else (none)) else (some true)
def Yb.f (k:Nat) (l0:List Bool) (l1:List Bool):Option (Bool):=if (l0.length:Int)=(l1.length:Int) then (Yb.l0 k l0 l1 (l0.length:Int) 0) else (some false)
theorem Yb.UE:∀ k,(∀ y0 y1 y2 y3,zo (Yb.l0 k y0 y1 y2 y3) (Yb.l0 (k + 1) y0 y1 y2 y3))
 | 0=>fun _ _ _ _ r h=>by simp [Yb.l0] at h
 | k + 1=>by
  have xW:=Yb.UE k
  ·intro y0 y1 y2 y3;unfold Yb.l0
   repeat' first
   | (with_reducible exact xW _ _ _ _)
   | (with_reducible exact zo.refl _)
   | (with_reducible exact zo.none _)
   | (with_reducible refine zo.ite ?_ ?_)
   | (with_reducible refine zo.bind ?_ (fun _=>?_))
   | exact xW _ _ _ _
   | exact zo.none _
   | refine zo.ite ?_ ?_
   | refine zo.bind ?_ (fun _=>?_)
theorem Yb.mono:∀ a0 a1 k,zo (Yb.f k a0 a1) (Yb.f (k + 1) a0 a1):=by
 intro a0 a1 k;have xW:=Yb.UE k;unfold Yb.f
 repeat' first
   | (with_reducible exact xW _ _ _ _)
   | (with_reducible exact zo.refl _)
   | (with_reducible exact zo.none _)
   | (with_reducible refine zo.ite ?_ ?_)
   | (with_reducible refine zo.bind ?_ (fun _=>?_))
   | exact xW _ _ _ _
   | exact zo.none _
   | refine zo.ite ?_ ?_
   | refine zo.bind ?_ (fun _=>?_)
theorem Yb.calls (k:Nat) (A0:Option Addr) (c0:Nat) (l0:List Bool) (A1:Option Addr) (c1:Nat) (l1:List Bool) (r:Bool) (w:World) (Om:Kd.C Kd.bool w A0 l0.length l0) (hc0:l0.length ≤ c0) (Kp:Kd.C Kd.bool w A1 l1.length l1) (Xk:l1.length ≤ c1) (h:Yb.f k l0 l1=some r) :
  Calls Try.prog 80 #[.slice A0 l0.length c0,.slice A1 l1.length c1] w fun e w'=>e = .returned (.bool r)∧Xc w w':=by
 have Io:=ga.mk Om;have dN:=ga.mk hc0;clear Om hc0;have Uo:=ga.mk Kp;have FG:=ga.mk Xk;clear Kp Xk;have H:(if (l0.length:Int)=(l1.length:Int) then (Yb.l0 k l0 l1 (l0.length:Int) 0) else (some false))=some r:=h;clear h
 by_cases c3:(l0.length:Int)=(l1.length:Int)
 ·rw [if_pos c3] at H;have Qi:((l0.length:Int) == (l1.length:Int))=true:=beq_iff_eq.mpr c3;have Hr:((l0.length:Int) != (l1.length:Int))=false:=bne_eq_false_iff_eq.mpr c3;have wF:(l0.length == l1.length)=true:=by first|simpa using c3|(simp at c3 ⊢;omega)
  clear c3;have H':=ga.mk H;clear H;go_enter Try.func80,Try.ntmps80;go_wp2
  repeat (go_quiet (fail);try go_wp2)
  go_loopg [13] k (fun kq v13 w'=>∃ (Yg:Int),v13 = .int .i64 Yg∧ga (Yb.l0 kq l0 l1 (l0.length:Int) Yg=some r)∧ga (kq ≤ k)∧Xc w w')
  case atStart=>exact ⟨(0),IaH,H',⟨Nat.le_refl _⟩,OaH⟩
  case round =>
   clear H'
   try clear c1
   try clear p2
   try clear c3
   try clear Qi
   try clear Hr
   try clear wF
   (try clear HA);(try clear pg);obtain ⟨Yg,rfl,HA,pg,⟨m1,rfl⟩⟩:=hrel;cases gk with
   | zero=>exact absurd HA.out (by simp [Yb.l0])
   | succ k1 =>
    have H:=HA.out;clear HA;simp only [Yb.l0] at H
    by_cases c4:Yg < (l0.length:Int)
    ·rw [if_pos c4] at H;have Tl:decide (Yg < (l0.length:Int))=true:=decide_eq_true c4;clear c4
     by_cases c5:0 ≤ Yg
     ·rw [if_pos c5] at H;have Nk:decide (0 ≤ Yg)=true:=decide_eq_true c5;clear c5
      by_cases c6:Yg < (l0.length:Int)
      ·rw [if_pos c6] at H;have Mp:decide (Yg < (l0.length:Int))=true:=decide_eq_true c6;clear c6
       by_cases c7:Yg < (l1.length:Int)
       ·rw [if_pos c7] at H;have qm:decide (Yg < (l1.length:Int))=true:=decide_eq_true c7;clear c7
        by_cases c8:((sg false l0 Yg) != (sg false l1 Yg))=true
        ·rw [if_pos c8] at H;have Qt:((sg false l0 Yg) != (sg false l1 Yg))=true:=c8;(try (have EM:decide ((sg false l0 Yg)=(sg false l1 Yg))=false:=by simpa using c8));(try (have Caj:((sg false l0 Yg) == (sg false l1 Yg))=false:=by simpa using c8));(try (have raF:¬ ((sg false l0 Yg)=(sg false l1 Yg)):=by simpa using c8));clear c8;obtain rfl:=Option.some.inj H;have wg:0 ≤ (Yg:Int):=Ua;have ug:Yg < (l0.length:Int):=Ua;obtain ⟨Ze,Sl,Ge⟩:=Kd.Mg Io.out Yg wg ug;cases Sl;replace wg:=eq_true wg;replace ug:=eq_true ug;have Qj:0 ≤ (Yg:Int):=Ua;have Pj:Yg < (l1.length:Int):=Ua;obtain ⟨Gf,Dv,Kf⟩:=Kd.Mg Uo.out Yg Qj Pj;cases Dv;replace Qj:=eq_true Qj;replace Pj:=eq_true Pj;go_wp2
         repeat (go_quiet (fail);try go_wp2)
         go_ret;exact ⟨by first|rfl|(simp;done)|(simp [*];done),OaH⟩
        ·rw [if_neg c8] at H;have Qt:((sg false l0 Yg) != (sg false l1 Yg))=false:=by simpa using c8
         (try (have EM:decide ((sg false l0 Yg)=(sg false l1 Yg))=true:=by simpa using c8));(try (have Caj:((sg false l0 Yg) == (sg false l1 Yg))=true:=by simpa using c8));clear c8;have H':=ga.mk H;clear H;have wg:0 ≤ (Yg:Int):=Ua;have ug:Yg < (l0.length:Int):=Ua;obtain ⟨Ze,Sl,Ge⟩:=Kd.Mg Io.out Yg wg ug;cases Sl;replace wg:=eq_true wg;replace ug:=eq_true ug;have Qj:0 ≤ (Yg:Int):=Ua;have Pj:Yg < (l1.length:Int):=Ua;obtain ⟨Gf,Dv,Kf⟩:=Kd.Mg Uo.out Yg Qj Pj;cases Dv;replace Qj:=eq_true Qj;replace Pj:=eq_true Pj;go_wp2
         repeat (go_quiet (fail);try go_wp2)
         go_roundg k1
         case measure=>have:=pg.out;omega
         case rel=>exact ⟨(wrap64 (Yg + 1)),IaH,H',⟨by have:=pg.out;omega⟩,OaH⟩
       ·rw [if_neg c7] at H;exact absurd H (by simp)
      ·rw [if_neg c6] at H;exact absurd H (by simp)
     ·rw [if_neg c5] at H;exact absurd H (by simp)
    ·rw [if_neg c4] at H;have Tl:decide (Yg < (l0.length:Int))=false:=decide_eq_false c4;clear c4;obtain rfl:=Option.some.inj H;go_wp2
     repeat (go_quiet (fail);try go_wp2)
     go_ret;exact ⟨by first|rfl|(simp;done)|(simp [*];done),OaH⟩
 ·rw [if_neg c3] at H;have Qi:((l0.length:Int) == (l1.length:Int))=false:=beq_eq_false_iff_ne.mpr c3;have Hr:((l0.length:Int) != (l1.length:Int))=true:=bne_iff_ne.mpr c3;have wF:(l0.length == l1.length)=false:=by first|simpa using c3|(simp at c3 ⊢;omega)
  obtain rfl:=Option.some.inj H;go_enter Try.func80,Try.ntmps80;go_wp2
  repeat (go_quiet (fail);try go_wp2)
  go_ret;exact ⟨by first|rfl|(simp;done)|(simp [*];done),OaH⟩
theorem ZU (a b:List Bool) (hl:a.length=b.length) (hm:a.length ≤ 1048576):∀ (d i:Nat),i + d=a.length→Ev (fun k=>Yb.l0 k a b (a.length:Int) (i:Int)) (decide (a.drop i=b.drop i)):=by
 intro d
 induction d with
 | zero =>
  intro i hd;rw [List.drop_eq_nil_of_le (by omega),List.drop_eq_nil_of_le (by omega)];refine Ev.step (fun k=>by rw [Yb.l0]) ?_;exact Ev.neg (by omega) (Ev.now _)
 | succ d ih =>
  intro i hd;have h1:i < a.length:=by omega
  have h2:i < b.length:=by omega
  have ea:sg false a (i:Int)=a[i]:=by simp [sg,h1]
  have eb:sg false b (i:Int)=b[i]:=by simp [sg,h2]
  refine Ev.step (fun k=>by rw [Yb.l0]) ?_;refine Ev.pos (by omega) (Ev.pos (by omega) (Ev.pos (by omega) (Ev.pos (by omega) ?_)));rw [ea,eb,Rd h1 (by omega)]
  by_cases he:a[i]=b[i]
  ·refine Ev.neg (by rw [he];simp) ?_
   have e:decide (a.drop i=b.drop i)=decide (a.drop (i + 1)=b.drop (i + 1)):=by
    rw [List.drop_eq_getElem_cons h1,List.drop_eq_getElem_cons h2,he];exact decide_eq_decide.2 ⟨fun h=>(List.cons.inj h).2,fun h=>by rw [h]⟩
   rw [e];exact ih (i + 1) (by omega)
  ·refine Ev.pos (by simpa using he) ?_
   have e:decide (a.drop i=b.drop i)=false:=decide_eq_false (fun h=>by
    rw [List.drop_eq_getElem_cons h1,List.drop_eq_getElem_cons h2] at h
    exact he (List.cons.inj h).1)
   rw [e];exact Ev.now _
theorem Uab (a b:List Bool) (hm:a.length ≤ 1048576):Ev (fun k=>Yb.f k a b) (decide (a=b)):=by
 unfold Yb.f
 by_cases hl:a.length=b.length
 ·exact Ev.pos (by omega) (ZU a b hl hm a.length 0 (by omega))
 ·rw [decide_eq_false (fun e=>hl (by rw [e]))];exact Ev.neg (by omega) (Ev.now _)
noncomputable def Nm.f (Qa:List Int) (Ja:Int) (Ga:Int) (Ia:Int) (Aa:List (He)):Option (List (List Bool)):=open Classical in if 0 ≤ Ia∧Lm Aa Ia.toNat then some (bf Aa Ia.toNat) else none
theorem Nm.calls (Wa:Option Addr) (Xa:Nat) (Qa:List Int) (Ja:Int) (Ga:Int) (Ia:Int) (Jb:Option Addr) (yb:Nat) (Aa:List (He)) (r:List (List Bool)) (w:World) (Od:Kd.C (Kd.int .i64) w Wa Qa.length Qa) (Md:Qa.length ≤ Xa) (Re:Kd.C iq w Jb Aa.length Aa) (Qe:Aa.length ≤ yb) (h:Nm.f Qa Ja Ga Ia Aa=some r) :
  Calls Try.prog 47 #[.agg #[.slice Wa Qa.length Xa,.int .i64 Ja,.int .i64 Ga,.int .i64 Ia,.slice Jb Aa.length yb]] w fun e w'=>∃ wm:Value,e = .returned (wm)∧Kd.S (Kd.slice 4 Kd.bool) 60 w' w.heap.size (fun _=>True) wm r∧Below w.heap.size w w':=by
 unfold Nm.f at h
 by_cases hf:0 ≤ Ia∧Lm Aa Ia.toNat
 case neg=>rw [if_neg hf] at h;cases h
 rw [if_pos hf] at h;obtain rfl:=Option.some.inj h;obtain ⟨hn0,hO⟩:=hf;obtain ⟨n,rfl⟩:∃ n:Nat,Ia=(n:Int):=⟨Ia.toNat,(Int.toNat_of_nonneg hn0).symm⟩;have HaF:=ga.mk (show bf Aa ((n:Int)).toNat=bf Aa n from by rw [Int.toNat_natCast]);rw [Int.toNat_natCast] at hO;clear h hn0;have HO:=ga.mk hO;have hn:n ≤ 1048576:=hO.2.1;have hm0:0 < Aa.length:=hO.1.1;have hm1:Aa.length ≤ 1048576:=hO.1.2.1;clear hO;obtain ⟨W1,zg⟩:∃ W1,W1=((w.alloc (.cells #[.slice Wa Qa.length Xa,.int .i64 Ja,.int .i64 Ga,.int .i64 (n:Int),.slice Jb Aa.length yb] 30 (0,0))).alloc (.cells #[] 60 (0,0))).alloc (.cells #[] 60 (0,0)):=⟨_,rfl⟩;have HW:=ga.mk zg
 have HA:=ga.mk (show Ur w (sy Wa Qa.length Xa Ja Ga n Jb Aa.length yb) (fun k=>k=w.heap.size + 1) (.slice (some ⟨w.heap.size + 1,0,none⟩) 0 0) (.slice (some ⟨w.heap.size + 2,0,none⟩) 0 0) [] [] W1 from by
  have z1:(w.alloc (.cells #[.slice Wa Qa.length Xa,.int .i64 Ja,.int .i64 Ga,.int .i64 (n:Int),.slice Jb Aa.length yb] 30 (0,0))).heap.size=w.heap.size + 1:=by simp
  have b1:=Mj w (.cells #[.slice Wa Qa.length Xa,.int .i64 Ja,.int .i64 Ga,.int .i64 (n:Int),.slice Jb Aa.length yb] 30 (0,0));have e1:=qa (Below.refl w.heap.size w) (.cells #[.slice Wa Qa.length Xa,.int .i64 Ja,.int .i64 Ga,.int .i64 (n:Int),.slice Jb Aa.length yb] 30 (0,0));rw [zg];generalize w.alloc (.cells #[.slice Wa Qa.length Xa,.int .i64 Ja,.int .i64 Ga,.int .i64 (n:Int),.slice Jb Aa.length yb] 30 (0,0))=u1 at z1 b1 e1 ⊢;have z2:(u1.alloc (.cells #[] 60 (0,0))).heap.size=w.heap.size + 2:=by simp [z1]
  have s1:=iB (Kd.slice 4 Kd.bool) 60 u1 w.heap.size (by omega);have e2:=qa (Below.refl u1.heap.size u1) (.cells #[] 60 (0,0));rw [z1] at s1;generalize u1.alloc (.cells #[] 60 (0,0))=u2 at z2 s1 e2 ⊢;have s2:=iB (Kd.slice 4 Kd.bool) 60 u2 w.heap.size (by omega);have e3:=qa (Below.refl u2.heap.size u2) (.cells #[] 60 (0,0));have z3:(u2.alloc (.cells #[] 60 (0,0))).heap.size=w.heap.size + 3:=by simp [z2]
  rw [z2] at s2
  exact ⟨Na (Na e1 e2) e3,Va (Va b1 e2) e3,Kd.lg s1 e3,Kd.Gj s2 (fun k hk=>⟨by omega,by omega⟩),fun k hk=>⟨by omega,by omega⟩⟩)
 have gH:=ga.mk Re;have wN:=ga.mk Qe;clear zg Od Re Md Qe;go_enter Try.func47,Try.ntmps47
 go_upto_region 2 with (fail)
 rw [← HW.out];clear HW;have Tr:=oW HA.out;go_wp2;clear Tr
 go_loopg [3,4,19] Aa.length (fun gg v3 v4 v19 wr=>∃ (j:Nat) (PB:Nat→Prop),j ≤ Aa.length∧Aa.length - j ≤ gg∧v19 = .int .i64 j∧ga (Ur w (sy Wa Qa.length Xa Ja Ga n Jb Aa.length yb) PB v3 v4 (List.replicate j (List.replicate n false)) (List.replicate j (List.replicate n false)) wr))
 case atStart=>exact ⟨0,_,Nat.zero_le _,by omega,rfl,HA⟩
 case round =>
  clear HA;(try clear PB);(try clear HA);obtain ⟨j,PB,hj,xV,rfl,HA⟩:=hrel
  by_cases hlt:j < Aa.length
  ·have Pt:decide ((j:Int) < (Aa.length:Int))=true:=decide_eq_true (by omega);have br:=PC HA.out;have R9:(0:Int) ≤ (n:Int):=by omega
   have R_:=ga.mk (show ((n:Int)).toNat * 1 ≤ 281474976710656 from by omega);have HLL:=ga.mk (show ((List.replicate j (List.replicate n false)).length + 1) * 24 ≤ 140737488355328 from by rw [List.length_replicate];omega)
   go_upto_region 5 with (first|((with_reducible refine qb (N:=24) rfl ?_);refine Kd.Kv Kd.bool (w0:=wr) wr.heap.size 4 rfl (N:=24) rfl 60 _ _ rfl (n:Int) rfl rfl Try.underlying60 (.bool false) 1 Qv rfl (by decide) (by omega) false (ok:=fun k=>wr.heap.size ≤ k) (Di:=fun k=>wr.heap.size ≤ k) rfl (fun _ hk=>hk) (Nat.le_refl _) R9 R_.out (Below.refl _ _) (Nat.le_refl _) ?_;intro v24 pU ho hb hg hat;rw [Int.toNat_natCast] at ho;obtain ⟨A24,zF,rfl⟩:=Kd.Bd ho;have nal:=ga.mk (YP ho HA.out.bl.size);simp only [List.length_replicate] at nal;have qV:=ga.mk hb;have Zak:=ga.mk (Na HA.out.bl hb);clear ho hb hg hat br)|((with_reducible refine qb (N:=26) rfl ?_);refine Kd.jB (Kd.slice 4 Kd.bool) (w0:=w) w.heap.size rfl (.tmp 21) (.tmp 25) 55 60 (.slice none 0 0) 24 rfl Try.underlying55 cF rfl (by decide) (by omega) _ (List.replicate j (List.replicate n false)) (List.replicate n false) _ (fun k=>PB k ∨ wr.heap.size ≤ k) (fun k=>wr.heap.size ≤ k) rfl rfl nal.out HA.out.neX (HA.out.frX qV.out) (HA.out.okX qV.out) Zak.out Zak.out.size HLL.out ?_;intro v26 Qp hs hb hg hat;have I8:=ga.mk (HA.out.Hac qV.out hs hb hg);clear hs hb hg hat))
   have br:=PC I8.out
   go_upto_region 6 with (first|((with_reducible refine qb (N:=30) rfl ?_);refine Kd.Kv Kd.bool (w0:=Qp) Qp.heap.size 4 rfl (N:=30) rfl 60 _ _ rfl (n:Int) rfl rfl Try.underlying60 (.bool false) 1 Qv rfl (by decide) (by omega) false (ok:=fun k=>Qp.heap.size ≤ k) (Di:=fun k=>Qp.heap.size ≤ k) rfl (fun _ hk=>hk) (Nat.le_refl _) R9 R_.out (Below.refl _ _) (Nat.le_refl _) ?_;intro v30 xB ho hb hg hat;rw [Int.toNat_natCast] at ho;obtain ⟨Zv,dz,rfl⟩:=Kd.Bd ho;have mal:=ga.mk (YP ho I8.out.bl.size);simp only [List.length_replicate] at mal;have Pad:=ga.mk hb;have Yak:=ga.mk (Na I8.out.bl hb);clear ho hb hg hat br)|((with_reducible refine qb (N:=32) rfl ?_);refine Kd.jB (Kd.slice 4 Kd.bool) (w0:=w) w.heap.size rfl (.tmp 27) (.tmp 31) 55 60 (.slice none 0 0) 24 rfl Try.underlying55 cF rfl (by decide) (by omega) _ (List.replicate j (List.replicate n false)) (List.replicate n false) _ _ (fun k=>Qp.heap.size ≤ k) rfl rfl mal.out I8.out.neY (I8.out.frY Pad.out) (I8.out.okY Pad.out) Yak.out Yak.out.size HLL.out ?_;intro v32 oN hs hb hg hat;have HA2:=ga.mk (I8.out.zax Pad.out hs hb hg);clear hs hb hg hat))
   go_wp2
   go_roundg (Aa.length - (j + 1))
   case measure=>omega
   case rel =>
    have h2:=HA2.out;rw [← List.replicate_succ'] at h2;exact ⟨j + 1,_,by omega,by omega,by go_num,⟨h2⟩⟩
  ·have Pt:decide ((j:Int) < (Aa.length:Int))=false:=decide_eq_false (by omega);have hje:j=Aa.length:=by omega
   have ha:=HA.out;rw [hje] at ha;obtain ⟨gX,cX,gY,cY,rfl,rfl⟩:=ha.forms hm0;clear HA;have HA:=ga.mk ha;clear ha hje xV hj;have HV:=ga.mk (jG.start Aa n);generalize List.replicate Aa.length (List.replicate n false)=X0 at HA HV;have HM0:=ga.mk HV.out.cnt;go_wp2;clear hlt Pt
   go_loopg [5] (n * Aa.length + 1) (fun gg v5 wr=>∃ (X Y:List (List Bool)) (a:Bool),v5 = .bool a∧n * Aa.length - Gr Y + (if a=true then 1 else 0) ≤ gg∧ga (jG Aa n X Y)∧ga (a=false→∀ i,i < Aa.length→StE Aa X Y i)∧ga (Ur w (sy Wa Qa.length Xa Ja Ga n Jb Aa.length yb) PB (.slice (some ⟨gX,0,none⟩) Aa.length cX) (.slice (some ⟨gY,0,none⟩) Aa.length cY) X Y wr))
   case atStart=>exact ⟨X0,X0,true,rfl,by rw [if_pos rfl];omega,HV,⟨fun e=>by cases e⟩,HA⟩
   case round =>
    clear HV HA HM0;(try clear X);(try clear Y);(try clear HV);(try clear V7);(try clear HA);obtain ⟨X,Y,a,rfl,xV,HV,V7,HA⟩:=hrel;cases a with
    | false =>
     have HDN:=ga.mk (HV.out.done HO.out (V7.out rfl));go_wp2;go_ret;exact ⟨_,rfl,by rw [← HDN.out];exact Kd.Gj HA.out.x (fun _ _=>trivial),HA.out.bl⟩
    | true =>
     have Naf:=xV;rw [if_pos rfl] at Naf;have HS:=ga.mk (show LvS Aa X Y (Gr Y) false Aa.length from ⟨Nat.le_refl _,(fun e=>by cases e),(fun _ k h1 h2=>by omega)⟩);clear V7 xV;generalize Gr Y=C at HS Naf;have Tr:=oW HA.out;have LW:wrap64 ((Aa.length:Int) - 1)=(Aa.length:Int) - 1:=by unfold wrap64;omega
     have HWR:=ga.mk LW;clear LW;go_wp2;clear Tr
     go_loopg [5,6] Aa.length (fun g3 v5 v6 wr=>∃ (z:Int) (q:Nat) (X Y:List (List Bool)) (a:Bool),v5 = .bool a∧v6 = .int .i64 z∧z + 1=(q:Int)∧q ≤ Aa.length∧q ≤ g3∧ga (jG Aa n X Y)∧ga (LvS Aa X Y C a q)∧ga (Ur w (sy Wa Qa.length Xa Ja Ga n Jb Aa.length yb) PB (.slice (some ⟨gX,0,none⟩) Aa.length cX) (.slice (some ⟨gY,0,none⟩) Aa.length cY) X Y wr))
     case atStart=>exact ⟨(Aa.length:Int) - 1,Aa.length,X,Y,false,rfl,by first|rfl|(go_simp;done)|exact congrArg _ HWR.out|go_num,by omega,Nat.le_refl _,Nat.le_refl _,HV,HS,HA⟩
     case round =>
      clear HV HS HA;(try clear X);(try clear Y);(try clear HV);(try clear HS);(try clear HA);obtain ⟨z,q,X,Y,a,rfl,rfl,hz,hq,rN,HV,HS,HA⟩:=hrel
      by_cases hz0:0 ≤ z
      ·obtain ⟨i,rfl⟩:∃ i:Nat,z=(i:Int):=⟨z.toNat,(Int.toNat_of_nonneg hz0).symm⟩;obtain rfl:q=i + 1:=by omega
       have hi:i < Aa.length:=by omega
       have zW:decide ((i:Int) ≥ 0)=true:=decide_eq_true (by omega);obtain ⟨ag,Ac,cc,e1,hc0,Xk,fy,oC,aK,Xv,AX⟩:=Fj gH.out (i:Int) (by omega) (by omega);subst e1;have Tr:=oW HA.out;simp only [Int.toNat_natCast] at hc0 Xk fy oC aK;have LZ:=ga.mk AX;have HCL:=ga.mk Xv;replace hc0:=dc hc0 (Kept.mc HA.out.bl (fun _=>False)) id;replace Xk:=dc Xk (Kept.mc HA.out.bl (fun _=>False)) id;replace fy:=dc fy (Kept.mc HA.out.bl (fun _=>False)) id;replace oC:=dc oC (Kept.mc HA.out.bl (fun _=>False)) id;replace aK:=dc aK (Kept.mc HA.out.bl (fun _=>False)) id;have q1:0 ≤ (i:Int):=by omega
       have q2:(i:Int) < (Aa.length:Int):=by omega
       have hal:=ga.mk (show Mm.f (za Aa (i:Int)).f0 (za Aa (i:Int)).f1 (za Aa (i:Int)).f2 (za Aa (i:Int)).f3 (za Aa (i:Int)).f4=some (Rt Aa i) from yU _);clear AX Xv
       go_upto_region 14 with (fail)
       have uw:=qa (Below.refl wr.heap.size wr) (.cells #[.slice Ac (za Aa (i:Int)).f0.length cc,.int .i64 (za Aa (i:Int)).f1,.int .i64 (za Aa (i:Int)).f2,.int .i64 (za Aa (i:Int)).f3,.int .i64 (za Aa (i:Int)).f4] 59 (0,0));have Sy:=Mj wr (.cells #[.slice Ac (za Aa (i:Int)).f0.length cc,.int .i64 (za Aa (i:Int)).f1,.int .i64 (za Aa (i:Int)).f2,.int .i64 (za Aa (i:Int)).f3,.int .i64 (za Aa (i:Int)).f4] 59 (0,0));generalize wr.alloc (.cells #[.slice Ac (za Aa (i:Int)).f0.length cc,.int .i64 (za Aa (i:Int)).f1,.int .i64 (za Aa (i:Int)).f2,.int .i64 (za Aa (i:Int)).f3,.int .i64 (za Aa (i:Int)).f4] 59 (0,0))=Wr at uw Sy ⊢;have Dw:=ga.mk (HA.out.below uw);have Bm:=ga.mk Sy;have HPQ:=ga.mk (show ¬ PB wr.heap.size from fun e=>by have:=(HA.out.pb _ e).2;omega);have HCD:=ga.mk (Kd.Ab LZ.out Dw.out.bl);clear uw Sy HA Tr hc0 Xk fy oC aK q1 q2 zW hz0;generalize wr.heap.size=q7 at Bm HPQ ⊢;have Sx:=(ia Bm.out 0).trans rfl;have Q9:=(ia Bm.out 1).trans rfl;have h72:=(ia Bm.out 2).trans rfl;have h73:=(ia Bm.out 3).trans rfl;have h74:=(ia Bm.out 4).trans rfl;have htl:(Rt Aa i).length ≤ 2:=eM _;go_wp2_with (first|(go_at_call 78;(with_reducible refine (Mm.calls Ac cc (za Aa (i:Int)).f0 (za Aa (i:Int)).f1 (za Aa (i:Int)).f2 (za Aa (i:Int)).f3 (za Aa (i:Int)).f4 (Rt Aa i) Wr HCD.out HCL.out hal.out).mono ?_);rintro e um ⟨v15,rfl,ho,hb⟩;obtain ⟨An,cn,rfl⟩:=Kd.Bd ho;have dal:=ga.mk ho;have Pp:=ga.mk hb;clear ho hb Sx Q9 h72 h73 h74));have Wal:=ga.mk (Dw.out.below Pp.out);have qB:=ga.mk (Va Bm.out Pp.out);have HNC:=ga.mk (Kd.dG (S:=PB) (Kd.Xd (Kd.Bg dal.out) (fun k hk=>hk.2.1)) (fun k hk e=>by have:=(Dw.out.pb k e).2;omega));have HR:=ga.mk (show LvR Aa n X Y i X from ⟨HV.out,fun _ _=>rfl⟩);have HT:=ga.mk (show M0 (Rt Aa i) 0 Y X i from fun t ht=>by simp at ht);clear Dw dal Pp HCD Bm hal
       go_loopg [51] (Rt Aa i).length (fun g4 v51 wr=>∃ (j:Nat) (X':List (List Bool)),v51 = .int .i64 j∧j ≤ (Rt Aa i).length∧(Rt Aa i).length - j ≤ g4∧ga (LvR Aa n X Y i X')∧ga (M0 (Rt Aa i) j Y X' i)∧ga (Ur w (sy Wa Qa.length Xa Ja Ga n (some ag) Aa.length yb) PB (.slice (some ⟨gX,0,none⟩) Aa.length cX) (.slice (some ⟨gY,0,none⟩) Aa.length cY) X' Y wr)∧ga (Kept um wr PB))
       case atStart=>exact ⟨0,X,rfl,Nat.zero_le _,by omega,HR,HT,Wal,⟨Kept.refl _ _⟩⟩
       case round =>
        clear HR HT Wal;(try clear X);(try clear HR);(try clear HT);(try clear HA);(try clear HK);obtain ⟨j,X',rfl,hj,mL,HR,HT,HA,HK⟩:=hrel
        by_cases hjt:j < (Rt Aa i).length
        ·have mab:decide ((j:Int) < ((Rt Aa i).length:Int))=true:=decide_eq_true (by omega);have r1:0 ≤ (j:Int):=by omega
         have r2:(j:Int) < ((Rt Aa i).length:Int):=by omega
         obtain ⟨an,tn,e1,ht,htn,hx⟩:=I2 HO.out.1 hi hjt (HNC.out wr HK.out);subst e1;have HTN:=ga.mk ht;have HTM:=ga.mk (List.getElem_mem hjt);obtain ⟨Ay,cy,hcy,hfy,hly,hCy,hKy⟩:=HA.out.P1 htn;have k8:=ga.mk hKy;have HYN:=ga.mk (HV.out.yr tn htn);have hyn:(Be Y tn).length ≤ 1048576:=by have:=HYN.out;omega
         have t1:0 ≤ (tn:Int):=by omega
         have t2:(tn:Int) < (Aa.length:Int):=by omega
         have HTS:=ga.mk (show TkS tn 0 Y X' i from fun u hu=>by omega);clear ht hCy hKy hfy;go_wp2;clear hcy hx t1 t2 r1 r2 mab
         go_loopg [60] (Be Y tn).length (fun g5 v60 wr=>∃ (s:Nat) (BV:List (List Bool)),v60 = .int .i64 s∧s ≤ (Be Y tn).length∧(Be Y tn).length - s ≤ g5∧ga (LvR Aa n X Y i BV)∧ga (M0 (Rt Aa i) j Y BV i)∧ga (TkS tn s Y BV i)∧ga (Ur w (sy Wa Qa.length Xa Ja Ga n (some ag) Aa.length yb) PB (.slice (some ⟨gX,0,none⟩) Aa.length cX) (.slice (some ⟨gY,0,none⟩) Aa.length cY) BV Y wr)∧ga (Kept um wr PB)∧ga (∀ W,Kept wr W PB→Kd.C Kd.bool W Ay (Be Y tn).length (Be Y tn)))
         case atStart=>exact ⟨0,X',rfl,Nat.zero_le _,by omega,HR,HT,HTS,HA,HK,k8⟩
         case round =>
          clear HR HT HTS HA HK k8;(try clear X);(try clear HR);(try clear HT);(try clear HTS);(try clear HA);(try clear HK);(try clear k8);obtain ⟨s,BV,rfl,hs,hg5,HR,HT,HTS,HA,HK,k8⟩:=hrel
          by_cases hst:s < (Be Y tn).length
          ·have eav:decide ((s:Int) < ((Be Y tn).length:Int))=true:=decide_eq_true (by omega);have s1:0 ≤ (s:Int):=by omega
           have s2:(s:Int) < ((Be Y tn).length:Int):=by omega
           have hxl:(Be BV i).length=(Be Y tn).length:=by rw [HYN.out,HR.out.inv.xr i hi]
           have s3:(s:Int) < ((Be BV i).length:Int):=by omega
           have HXL:=ga.mk hxl;have i1:0 ≤ (i:Int):=by omega
           have i2:(i:Int) < (Aa.length:Int):=by omega
           obtain ⟨ay,e2,hy⟩:=Ez (k8.out wr (Kept.refl _ _)) hst;subst e2;obtain ⟨gi,ci,hcx,hce,hfz,hpg,hput⟩:=(HA.out.below (Po (Below.refl wr.heap.size wr))).Eau hi (show s < (Be BV i).length by omega);have Q6:wr.cell? ⟨gX,i,none⟩=some (.slice (some ⟨gi,0,none⟩) (Be BV i).length ci):=hcx;have R6:wr.cell? ⟨gi,s,none⟩=some (.bool (seen (Be BV i) s)):=hce;obtain ⟨Kp,hr2,hr3⟩:=HR.out.step HO.out.1 hi HTM.out HTN.out (by have:=HYN.out;omega) HT.out HTS.out;have HPG:=ga.mk hpg;clear hxl hpg;cases hold:seen (Be BV i) s with
           | true =>
            rw [hold,Bool.true_or] at Kp hr2 hr3;rw [hold] at R6 hce;have HP:=ga.mk (hput true);have HRS:=ga.mk (And.intro Kp (And.intro hr2 hr3));have CV:=ga.mk (And.intro hce hfz);clear Kp hr2 hr3 hput hcx hce hfz hold
            go_upto_region 20 with (fail)
            go_still_tail 16,(by kernel_rfl)
            have pg:=ga.mk ((HK.out.drew).setCell (p:=⟨gi,s,none⟩) (Or.inl HPG.out) (.bool true));have EZ:=ga.mk (Kd.aD k8.out (((Kept.refl wr PB).drew).setCell (p:=⟨gi,s,none⟩) (Or.inl HPG.out) (.bool true)));obtain ⟨hce,hfz⟩:=CV.out;have CV:=ga.mk hce;clear Q6 R6 hy HA HK k8
            change wpList _ _ _ _ _ wr.drew
            generalize wr.drew=wd at HP pg EZ hce hfz ⊢;go_wp2
            go_roundg ((Be Y tn).length - (s + 1))
            case measure=>omega
            case rel=>exact ⟨s + 1,_,by go_num,by omega,by omega,⟨HRS.out.1⟩,⟨HRS.out.2.1⟩,⟨HRS.out.2.2⟩,HP,pg,EZ⟩
           | false =>
            rw [hold,Bool.false_or] at Kp hr2 hr3;rw [hold] at R6 hce;have HP:=ga.mk (hput (seen (Be Y tn) s));have HRS:=ga.mk (And.intro Kp (And.intro hr2 hr3));have CV:=ga.mk (And.intro hce hfz);clear Kp hr2 hr3 hput hcx hce hfz hold
            go_upto_region 20 with (fail)
            go_still_tail 16,(by kernel_rfl)
            have pg:=ga.mk ((HK.out.drew).setCell (p:=⟨gi,s,none⟩) (Or.inl HPG.out) (.bool (seen (Be Y tn) s)));have EZ:=ga.mk (Kd.aD k8.out (((Kept.refl wr PB).drew).setCell (p:=⟨gi,s,none⟩) (Or.inl HPG.out) (.bool (seen (Be Y tn) s))));obtain ⟨hce,hfz⟩:=CV.out;have CV:=ga.mk hce;clear Q6 R6 hy HA HK k8
            change wpList _ _ _ _ _ wr.drew
            generalize wr.drew=wd at HP pg EZ hce hfz ⊢;go_wp2
            go_roundg ((Be Y tn).length - (s + 1))
            case measure=>omega
            case rel=>exact ⟨s + 1,_,by go_num,by omega,by omega,⟨HRS.out.1⟩,⟨HRS.out.2.1⟩,⟨HRS.out.2.2⟩,HP,pg,EZ⟩
          ·have eav:decide ((s:Int) < ((Be Y tn).length:Int))=false:=decide_eq_false (by omega);have HTJ:=ga.mk (HT.out.next hjt HTN.out (by have h2:=HTS.out;rwa [show s=(Be Y tn).length by omega] at h2));go_wp2
           go_roundg ((Rt Aa i).length - (j + 1))
           case measure=>omega
           case rel=>exact ⟨j + 1,BV,by go_num,by omega,by omega,HR,HTJ,HA,HK⟩
        ·have mab:decide ((j:Int) < ((Rt Aa i).length:Int))=false:=decide_eq_false (by omega);have HTJ:=ga.mk (show M0 (Rt Aa i) (Rt Aa i).length Y X' i by have h2:=HT.out;rwa [show j=(Rt Aa i).length by omega] at h2);obtain ⟨wk,rfl⟩:∃ wk,wk=wr:=⟨_,rfl⟩;have HQK:=ga.mk (Ve qB.out HK.out HPQ.out);have pP:=ga.mk (Pc HQK.out);have HLR:=ga.mk (HR.out.inv.xr i hi);obtain ⟨Ax,cx,hcx,hCx,hlx⟩:=HA.out.wau hi;have E8:=ga.mk (qa (Below.refl wk.heap.size wk) (.cells #[] 4 (0,0)));have HCX:=ga.mk (Kd.Ab hCx E8.out);have HEM:=ga.mk (zT Kd.bool 4 wk wk.heap.size (Nat.le_refl _));have HLN:=ga.mk (show (([]:List Bool).length + (Be X' i).length) * 1 ≤ 140737488355328 from by have:=HLR.out;simp;omega);have Q6:=dc hcx (Kept.mc E8.out (fun _=>False)) id;have i1:0 ≤ (i:Int):=by omega
         have i2:(i:Int) < (Aa.length:Int):=by omega
         clear hCx HK HNC HT qB
         go_upto_region 24 with (first|((with_reducible refine qb (N:=88) rfl ?_);refine Kd.Tk Kd.bool (w0:=wk) wk.heap.size rfl (.tmp 83) (.tmp 87) 60 4 (.bool false) 1 rfl Try.underlying60 Qv rfl (by decide) (by omega) (.slice (some ⟨wk.heap.size,0,none⟩) 0 0) [] (Be X' i) Ax (Be X' i).length cx (fun _=>True) (fun _=>False) rfl rfl HEM.out HCX.out (fun _ _ h=>h) (fun _ hk=>hk.elim) (fun _ _=>trivial) E8.out E8.out.size HLN.out ?_;intro v12 Xr ho qC rG hat;rw [List.nil_append] at ho;obtain ⟨As,cs,rfl⟩:=Kd.Bd ho;have W7:=ga.mk ho;have XK:=ga.mk qC;clear ho qC rG hat hcx Q6))
         clear E8 HCX HEM HLN hlx hjt mab hj mL i1 i2;have wP:=ga.mk (Ot HO.out hi);have nV:=ga.mk (Va HQK.out XK.out);have Q9:Xr.cell? ⟨q7,1,none⟩=some (.int .i64 (za Aa (i:Int)).f1):=(ia nV.out 1).trans rfl
         by_cases dJ:(za Aa (i:Int)).f1=0
         case' pos =>
          have hfa:((za Aa (i:Int)).f1 == 0)=true:=beq_iff_eq.2 dJ;have hfb:((za Aa (i:Int)).f1 != 0)=false:=by rw [dJ];rfl
          have lV:=ga.mk (show Kd.R Kd.bool 4 Xr wk.heap.size (fun _=>True) (.slice As (Be X' i).length cs) (Ei (za Aa (i:Int)) (Be X' i)) from by rw [show Ei (za Aa (i:Int)) (Be X' i)=Be X' i from if_pos dJ];exact W7.out);have MZ:=XK;have WY:=nV
          go_upto_region 26 with (fail)
          clear Q9 hfa hfb W7 XK nV dJ;generalize Xr=Qp at lV MZ WY ⊢
         case' neg =>
          have hfa:((za Aa (i:Int)).f1 == 0)=false:=beq_eq_false_iff_ne.2 dJ;have hfb:((za Aa (i:Int)).f1 != 0)=true:=bne_iff_ne.2 dJ;obtain ⟨f20,f21⟩:=wP.out.2.1 dJ;obtain ⟨u,hu⟩:∃ u:Nat,(za Aa (i:Int)).f2=(u:Int):=⟨(za Aa (i:Int)).f2.toNat,(Int.toNat_of_nonneg f20).symm⟩;have C0:u < (Be X' i).length:=by have:=HLR.out;omega
          have aav:(u:Int) < ((Be X' i).length:Int):=by omega
          have hu0:0 ≤ (u:Int):=by omega
          have h72:Xr.cell? ⟨q7,2,none⟩=some (.int .i64 (u:Int)):=by rw [← hu];exact (ia nV.out 2).trans rfl
          obtain ⟨gs,e3,hgs,hcs,hfs,hput⟩:=uY W7.out C0;obtain ⟨hr,hg⟩:=hput true;have lV:=ga.mk (show Kd.R Kd.bool 4 (Xr.setCell ⟨gs,u,none⟩ (.bool true)) wk.heap.size (fun _=>True) (.slice As (Be X' i).length cs) (Ei (za Aa (i:Int)) (Be X' i)) from by rw [show Ei (za Aa (i:Int)) (Be X' i)=(Be X' i).set u true from by unfold Ei;rw [if_neg dJ,hu,Int.toNat_natCast]];exact hr);have MZ:=ga.mk (XK.out.grown hg XK.out.size (fun k e=>by injection e with e;omega));have WY:=ga.mk (xd nV.out hg (fun e=>by injection e with e;have:=pP.out;omega));subst e3;clear hr hg hput f20 f21 hu C0
          go_upto_region 26 with (fail)
          clear Q9 h72 hfa hfb W7 XK nV dJ hcs hfs hgs aav hu0;generalize Xr.setCell ⟨gs,u,none⟩ (.bool true)=Qp at lV MZ WY ⊢;generalize (some ⟨gs,0,none⟩:Option Addr)=As at lV ⊢
         all_goals
          have Sx:Qp.cell? ⟨q7,0,none⟩=some (.slice Ac (za Aa (i:Int)).f0.length cc):=(ia WY.out 0).trans rfl;have Xv:(za Aa (i:Int)).f0.length ≤ 1048576:=wP.out.1;have LW:wrap64 (((za Aa (i:Int)).f0.length:Int) - 1)=((za Aa (i:Int)).f0.length:Int) - 1:=by unfold wrap64;omega
          have HWR:=ga.mk LW;clear LW;go_wp2;clear Sx
          go_loopg [13] (za Aa (i:Int)).f0.length (fun g6 v13 wr=>∃ (z:Int) (q:Nat),v13 = .int .i64 z∧z + 1=(q:Int)∧q ≤ (za Aa (i:Int)).f0.length∧q ≤ g6∧ga (Kd.R Kd.bool 4 wr wk.heap.size (fun _=>True) (.slice As (Be X' i).length cs) (nu (za Aa (i:Int)).f0 q (Ei (za Aa (i:Int)) (Be X' i))))∧ga (Below wk.heap.size wk wr))
          case atStart=>exact ⟨((za Aa (i:Int)).f0.length:Int) - 1,(za Aa (i:Int)).f0.length,by first|rfl|(go_simp;done)|exact congrArg _ HWR.out|go_num,by omega,Nat.le_refl _,Nat.le_refl _,⟨by rw [Gv];exact lV.out⟩,MZ⟩
          case round =>
           clear lV MZ WY;(try clear oP);(try clear pL);obtain ⟨z,q,rfl,hz6,hq6,hg6,oP,pL⟩:=hrel
           by_cases hz0:0 ≤ z
           ·obtain ⟨p,rfl⟩:∃ p:Nat,z=(p:Int):=⟨z.toNat,(Int.toNat_of_nonneg hz0).symm⟩;obtain rfl:q=p + 1:=by omega
            have hp:p < (za Aa (i:Int)).f0.length:=by omega
            have zW:decide ((p:Int) ≥ 0)=true:=decide_eq_true (by omega);have p1:0 ≤ (p:Int):=by omega
            have p2:(p:Int) < ((za Aa (i:Int)).f0.length:Int):=by omega
            have Sx:wr.cell? ⟨q7,0,none⟩=some (.slice Ac (za Aa (i:Int)).f0.length cc):=(ia (Va HQK.out pL.out) 0).trans rfl;obtain ⟨aI,e5,k0,k1,k2,k3,k4,k5,k6⟩:=Jm (Kd.Ab LZ.out (Na HA.out.bl pL.out)) (p:Int) (by omega) (by omega);subst e5;simp only [Int.toNat_natCast] at k0 k1 k2 k3 k4 k5 k6;obtain ⟨kb,CQ⟩:=Ev.rounds (fK (nu (za Aa (i:Int)).f0 (p + 1) (Ei (za Aa (i:Int)) (Be X' i))) (Ea (za Aa (i:Int)).f0 (p:Int)) (by rw [Tx,xm,HLR.out];exact jw wP.out hp));have HKB:=ga.mk CQ;have hwp:wrap64 ((p:Int) - 1)=(p:Int) - 1:=by unfold wrap64;omega
            have HWP:=ga.mk hwp;clear CQ hwp hz0;go_wp2_with (first|(go_at_call 79;(with_reducible refine (ue.calls kb (fun _=>True) (.slice As (Be X' i).length cs) (nu (za Aa (i:Int)).f0 (p + 1) (Ei (za Aa (i:Int)) (Be X' i))) (Ea (za Aa (i:Int)).f0 (p:Int)).f0 (Ea (za Aa (i:Int)).f0 (p:Int)).f1 (Ea (za Aa (i:Int)).f0 (p:Int)).f2 (Ea (za Aa (i:Int)).f0 (p:Int)).f3 (Ea (za Aa (i:Int)).f0 (p:Int)).f4 (Ea (za Aa (i:Int)).f0 (p:Int)).f5 (Ea (za Aa (i:Int)).f0 (p:Int)).f6 _ wk wr pL.out oP.out HKB.out).mono ?_);rintro e MP ⟨rfl,ho,hb,-⟩;have HS7:=ga.mk ho;have kU:=ga.mk hb;clear ho hb Sx k0 k1 k2 k3 k4 k5 k6))
            go_roundg p
            case measure=>omega
            case rel=>exact ⟨(p:Int) - 1,p,by first|rfl|(go_simp;done)|exact congrArg _ HWP.out|go_num,by omega,by omega,Nat.le_refl _,⟨by rw [Mr hp];exact Kd.Xd HS7.out (fun _ _=>trivial)⟩,kU⟩
           ·have zW:decide (z ≥ 0)=false:=decide_eq_false (by omega);obtain rfl:q=0:=by omega
            have HSI:=ga.mk (show Kd.R Kd.bool 4 wr wk.heap.size (fun _=>True) (.slice As (Be X' i).length cs) (QC (za Aa (i:Int)) (Be X' i)) from oP.out);obtain ⟨Ay,cy,hcy,hfy,hly,hCy,-⟩:=(HA.out.below pL.out).P1 hi;obtain ⟨HN1,HN2⟩:=HS.out.next HO.out hi HR.out HTJ.out;have HN1:=ga.mk HN1;have HN2:=ga.mk HN2;obtain ⟨ke,hke⟩:=Ev.rounds (Uab (QC (za Aa (i:Int)) (Be X' i)) (Be Y i) (by rw [Es,HLR.out];omega));have hEQ:=Yb.calls ke As cs (QC (za Aa (i:Int)) (Be X' i)) Ay cy (Be Y i) _ wr (Kd.Vb HSI.out).2.2 (by have:=(Kd.Vb HSI.out).2.1;rw [Es];exact this) hCy hly hke;rw [Es] at hEQ;have iU:=ga.mk hEQ;have i1:0 ≤ (i:Int):=by omega
            have i2:(i:Int) < (Aa.length:Int):=by omega
            clear hEQ hke hCy hfy hly;cases a with
            | true =>
             go_upto_region 31 with (fail)
             clear hcy;have kU:=pL;have HP:=ga.mk (HA.out.Oae kU.out hi HSI.out);obtain ⟨Az,cz,hcz,hfz,-⟩:=(HA.out.below kU.out).P1 hi;have hwi:wrap64 ((i:Int) - 1)=(i:Int) - 1:=by unfold wrap64;omega
             have HWI:=ga.mk hwi;have i1:0 ≤ (i:Int):=by omega
             have i2:(i:Int) < (Aa.length:Int):=by omega
             clear hwi;go_wp2
             go_roundg i
             case measure=>omega
             case rel=>exact ⟨(i:Int) - 1,i,X',_,_,by first|rfl|(rw [Bool.true_or]),by first|rfl|(go_simp;done)|exact congrArg _ HWI.out|go_num,by omega,by omega,Nat.le_refl _,HN1,HN2,HP⟩
            | false =>
             go_upto_region 31 with (first|(go_at_call 80;(with_reducible refine iU.out.mono ?_);rintro e qH ⟨rfl,hd⟩;have Pal:=ga.mk hd.below;clear hd hcy))
             have kU:=ga.mk (Na pL.out Pal.out);have HP:=ga.mk (HA.out.Oae kU.out hi (Kd.oc HSI.out Pal.out));obtain ⟨Az,cz,hcz,hfz,-⟩:=(HA.out.below kU.out).P1 hi;have hwi:wrap64 ((i:Int) - 1)=(i:Int) - 1:=by unfold wrap64;omega
             have HWI:=ga.mk hwi;have i1:0 ≤ (i:Int):=by omega
             have i2:(i:Int) < (Aa.length:Int):=by omega
             clear hwi;go_wp2
             go_roundg i
             case measure=>omega
             case rel=>exact ⟨(i:Int) - 1,i,X',_,_,by first|rfl|(rw [Bool.false_or]),by first|rfl|(go_simp;done)|exact congrArg _ HWI.out|go_num,by omega,by omega,Nat.le_refl _,HN1,HN2,HP⟩
      ·have zW:decide (z ≥ 0)=false:=decide_eq_false (by omega);obtain rfl:q=0:=by omega
       have h1:=HS.out.le;have h2:=HS.out.lt;have h3:=HV.out.cnt
       have HM:=ga.mk (show n * Aa.length - Gr Y + (if a=true then 1 else 0) < n * Aa.length - C + 1 from by
        cases a with
        | false=>rw [if_neg (by simp)];omega
        | true=>have:=h2 rfl;rw [if_pos rfl];omega)
       clear h1 h2 h3;go_wp2
       go_roundg (n * Aa.length - Gr Y + (if a=true then 1 else 0))
       case measure=>have:=HM.out;omega
       case rel=>exact ⟨X,Y,a,rfl,Nat.le_refl _,HV,⟨fun e i hi=>HS.out.so e i (Nat.zero_le _) hi⟩,HA⟩
section
variable {l0:List Int} {p v s:Int} {l4:List He}
theorem zv (h:Fm l0 p v s l4=true):aC l0 p v s l4.length=true∧(∀ b ∈ l4,Lr l0 s l4 b=true)∧Ae l4 ≤ 1000:=by
 unfold Fm at h;simp only [Bool.and_eq_true,Bool.not_eq_true',List.any_eq_false,decide_eq_true_eq] at h;exact ⟨h.1,fun b hb=>by have:=h.2.1 b hb;simpa using this,h.2.2⟩
theorem oT (l:List He) (b:He) (hb:b ∈ l):b.f0.length ≤ Ae l:=by
 unfold Ae;exact YE (List.mem_map.mpr ⟨b,hb,rfl⟩)
end
end Go.Proofs.Ytkigbdceceeenaa.P
end
section
namespace Go.Proofs.Ytkigbdceceeenaa.P
open Go.RowKit Go.Proofs.Ma.Wb Go.Proofs.Ma.Jd Go.Proofs.Ma.Fe
set_option linter.unusedVariables false
set_option linter.unusedSimpArgs false
theorem Taa {n0 n:Nat} {x:Le} (h:Yo n0 (n:Int) x=true):Wt n x:=by
 unfold Yo vn at h;unfold Wt
 by_cases o0:x.f0=0
 ·rw [rz (by omega) (by omega) (by omega)];simp [o0,dm] at h ⊢;omega
 by_cases o1:x.f0=1
 ·rw [Rq (Or.inl o1)];simp [o1,dm] at h ⊢;omega
 by_cases o2:x.f0=2
 ·rw [zB o2];simp [o2,dm] at h ⊢;omega
 by_cases o3:x.f0=3
 ·by_cases ha:0 ≤ x.f2
  ·rw [FE ha (Or.inl o3) (by omega)];simp [o3,dm] at h ⊢;omega
  ·rw [DE ha (Or.inl o3) (by omega)];simp [o3,dm] at h ⊢;omega
 by_cases o4:x.f0=4
 ·by_cases ha:0 ≤ x.f2
  ·rw [IE ha o4];simp [o4,dm] at h ⊢;omega
  ·rw [EE ha o4];simp [o4,dm] at h ⊢;omega
 by_cases o5:x.f0=5
 ·rw [rz (by omega) (by omega) (by omega)];simp [o5,dm] at h ⊢;omega
 by_cases o6:x.f0=6
 ·rw [Rq (Or.inr o6)];simp [o6,dm] at h ⊢;omega
 simp [o0,o1,o2,o3,o4,o5,o6] at h
theorem fY {n0 n n4:Nat} {b:He} (h:Hl n0 (n:Int) n4 b.f0 b.f1 b.f2 b.f3 b.f4=true) (hl:b.f0.length ≤ 1048576):lu n b:=by
 unfold Hl at h;simp only [Bool.and_eq_true,Bool.not_eq_true',List.any_eq_false] at h;obtain ⟨⟨h1,_⟩,h2⟩:=h;refine ⟨hl,fun hf=>?_,fun x hx=>Taa (n0:=n0) (by have:=h1 x hx;simpa using this)⟩;rw [if_neg hf] at h2
 by_cases h3:b.f1=1
 ·rw [if_pos h3] at h2;simp [dm] at h2;omega
 ·rw [if_neg h3] at h2
  by_cases h4:b.f1=2
  ·rw [if_pos h4] at h2;simp [dm] at h2;omega
  ·rw [if_neg h4] at h2;cases h2
theorem bQ {l0:List Int} {p v:Int} {n:Nat} {bs:List He} (h:Fm l0 p v (n:Int) bs=true) (ht:Ae bs ≤ 1048576):Lm bs n:=by
 obtain ⟨h1,h2,_⟩:=zv h;have hh:=ux h1;exact ⟨CO h,by omega,fun b hb=>fY (h2 b hb) (Nat.le_trans (oT bs b hb) ht)⟩
theorem Ag {S:Nat→Prop} {w0 w W:World} {a:Addr} {v:Value} (hc:w0.cell? a=some v) (hb0:Below w0.heap.size w0 w) (hS0:∀ k,S k→w0.heap.size ≤ k) (hk:Kept w W (L8 S w)):W.cell? a=some v :=
 dc (dc hc (Kept.mc hb0 (fun _=>False)) id) hk (fun e=>e.elim (fun h=>by have:=hS0 _ h;have:=World.block_lt_of_cell? w0 a hc;omega) (fun h=>by have:=World.block_lt_of_cell? w0 a hc;have:=hb0.size;omega))
theorem mT {S:Nat→Prop} {w0 w:World} (hb0:Below w0.heap.size w0 w) (hS0:∀ k,S k→w0.heap.size ≤ k):∀ k,L8 S w k→w0.heap.size ≤ k:=fun k h=>h.elim (hS0 k) (fun h=>Nat.le_trans hb0.size h)
theorem iK {St:Type} (f:St→Le→List Bool→St) (Inv:St→World→Prop) (S:Nat→Prop) (g:Nat) (lb:Array Value) (eg:∀ args w,(callFunc g args).run Try.prog w = .ok (.enter g args) w)
  (Wa:Option Addr) (Xa:Nat) (Qa:List Int) (Ja:Int) (Ga:Int) (n:Nat) (Jb:Option Addr) (yb:Nat) (Aa:List (He)) (A1:Option Addr) (c1:Nat) (X:List (List Bool)) (st0:St) (w0 w:World)
  (hb0:Below w0.heap.size w0 w) (hS0:∀ k,S k→w0.heap.size ≤ k) (hS:∀ k,S k→k < w.heap.size) (Od:Kd.C (Kd.int .i64) w0 Wa Qa.length Qa) (Md:Qa.length ≤ Xa) (Re:Kd.C iq w0 Jb Aa.length Aa) (Qe:Aa.length ≤ yb)
  (Kp:∀ W,Kept w W (L8 S w)→Kd.C (Kd.slice 4 Kd.bool) W A1 X.length X) (Xk:X.length ≤ c1) (hO:Lm Aa n) (hX:X.length=Aa.length) (hr:∀ i,i < Aa.length→(Be X i).length=n)
  (hI0:Inv st0 w) (hI:∀ st W W',Inv st W→W.heap.size ≤ W'.heap.size→(∀ k,k < w.heap.size→W'.heap[k]? = W.heap[k]?)→Inv st W')
  (hp:∀ (W:World) (st:St) (x:Le) (A:Option Addr) (c:Nat) (s:List Bool),Kept w W (L8 S w)→Inv st W→Wt n x→s.length=n→(∀ W',Kept W W' S→Kd.C Kd.bool W' A s.length s)→s.length ≤ c →
   Calls Try.prog g (#[.agg #[.int .i64 x.f0,.int .i64 x.f1,.int .i64 x.f2,.int .i64 x.f3,.int .i64 x.f4,.int .i64 x.f5,.string x.f6],.slice A s.length c] ++ lb) W fun e w'=>e = .returned (.tuple #[])∧Inv (f st x s) w'∧Kept W w' S∧Below 0 W w') :
  Calls Try.prog 50 #[.agg #[.slice Wa Qa.length Xa,.int .i64 Ja,.int .i64 Ga,.int .i64 (n:Int),.slice Jb Aa.length yb],.slice A1 X.length c1,.func (.func g) #[] lb] w fun e w'=>e = .returned (.tuple #[])∧Inv (Fh f Aa X 0 st0) w'∧Kept w w' (L8 S w)∧Below 0 w w':=by
 have JC:=ga.mk hb0;have DG:=ga.mk hS0;have HSS:=ga.mk hS;have Io:=ga.mk Od;have gH:=ga.mk Re;have gU:=ga.mk Md;have wN:=ga.mk Qe;have Uo:=ga.mk Kp;have HL1:=ga.mk Xk;have HO:=ga.mk hO;have HX:=ga.mk hX;have N0:=ga.mk hr;have HI:=ga.mk hI;have HP:=ga.mk hp;have hn:n ≤ 1048576:=hO.2.1;have hm1:Aa.length ≤ 1048576:=hO.1.2.1;have HI1:=ga.mk (hI st0 w (w.alloc (.cells #[.slice Wa Qa.length Xa,.int .i64 Ja,.int .i64 Ga,.int .i64 (n:Int),.slice Jb Aa.length yb] 30 (0,0))) hI0 (qa (Below.refl w.heap.size w) _).size (fun k hk=>(qa (Below.refl w.heap.size w) _).block k hk));have HA:=ga.mk (show DV S w (sy Wa Qa.length Xa Ja Ga n Jb Aa.length yb) (w.alloc (.cells #[.slice Wa Qa.length Xa,.int .i64 Ja,.int .i64 Ga,.int .i64 (n:Int),.slice Jb Aa.length yb] 30 (0,0))) from ⟨(Kept.refl _ _).alloc _,Nr (qa (Below.refl w.heap.size w) _),Mj _ _⟩);clear hb0 hS0 hS Od Re Md Qe Kp Xk hO hX hr hI0 hI hp;go_enter Try.func50,Try.ntmps50
 go_upto_region 1 with (fail)
 generalize (w.alloc (.cells #[.slice Wa Qa.length Xa,.int .i64 Ja,.int .i64 Ga,.int .i64 (n:Int),.slice Jb Aa.length yb] 30 (0,0)))=w1 at HI1 HA ⊢;have Tr:w1.cell? ⟨w.heap.size,4,none⟩=some (.slice Jb Aa.length yb):=(ia HA.out.hx 4).trans rfl;go_wp2;clear Tr
 go_loopg [13] Aa.length (fun gg v13 wr=>∃ (i:Nat) (st:St),v13 = .int .i64 i∧i ≤ Aa.length∧Aa.length - i ≤ gg∧ga (Fh f Aa X i st=Fh f Aa X 0 st0)∧ga (Inv st wr)∧ga (DV S w (sy Wa Qa.length Xa Ja Ga n Jb Aa.length yb) wr))
 case atStart=>exact ⟨0,st0,rfl,Nat.zero_le _,by omega,⟨rfl⟩,HI1,HA⟩
 case round =>
  clear HI1 HA;(try clear iU);(try clear uP);(try clear HA);obtain ⟨i,st,rfl,hi,xV,iU,uP,HA⟩:=hrel
  by_cases hlt:i < Aa.length
  ·have Pt:decide ((i:Int) < (Aa.length:Int))=true:=decide_eq_true (by omega);have i1:0 ≤ (i:Int):=by omega
   have i2:(i:Int) < (Aa.length:Int):=by omega
   obtain ⟨ag,Ac,cc,e1,hc0,Xk,fy,oC,aK,Xv,AX⟩:=Fj gH.out (i:Int) (by omega) (by omega);subst e1;simp only [Int.toNat_natCast] at hc0 Xk fy oC aK;have LZ:=ga.mk AX;have HCL:=ga.mk Xv;have CV:=ga.mk HA.out.k;replace hc0:=Ag hc0 JC.out DG.out CV.out;replace Xk:=Ag Xk JC.out DG.out CV.out;replace fy:=Ag fy JC.out DG.out CV.out;replace oC:=Ag oC JC.out DG.out CV.out;replace aK:=Ag aK JC.out DG.out CV.out;clear AX Xv
   go_upto_region 4 with (fail)
   have uw:=qa (Below.refl wr.heap.size wr) (.cells #[.slice Ac (za Aa (i:Int)).f0.length cc,.int .i64 (za Aa (i:Int)).f1,.int .i64 (za Aa (i:Int)).f2,.int .i64 (za Aa (i:Int)).f3,.int .i64 (za Aa (i:Int)).f4] 59 (0,0));have Sy:=Mj wr (.cells #[.slice Ac (za Aa (i:Int)).f0.length cc,.int .i64 (za Aa (i:Int)).f1,.int .i64 (za Aa (i:Int)).f2,.int .i64 (za Aa (i:Int)).f3,.int .i64 (za Aa (i:Int)).f4] 59 (0,0));generalize wr.alloc (.cells #[.slice Ac (za Aa (i:Int)).f0.length cc,.int .i64 (za Aa (i:Int)).f1,.int .i64 (za Aa (i:Int)).f2,.int .i64 (za Aa (i:Int)).f3,.int .i64 (za Aa (i:Int)).f4] 59 (0,0))=Wr at uw Sy ⊢;have Dw:=ga.mk (HA.out.below uw);have IC:=ga.mk (HI.out st wr Wr uP.out uw.size (fun k hk=>uw.block k (Nat.lt_trans hk HA.out.le)));have Bm:=ga.mk Sy;have pP:=ga.mk HA.out.le;have wP:=ga.mk (Ot HO.out hlt);have HE:=ga.mk (XE HO.out hlt X HX.out (N0.out i hlt) Qa Ja Ga (n:Int));have n8:=ga.mk (And.intro (Kd.bD (Kd.Rl .i64) Io.out JC.out (mT JC.out DG.out) Wr Dw.out.k) (And.intro (Kd.bD vW gH.out JC.out (mT JC.out DG.out) Wr Dw.out.k) (Uo.out Wr Dw.out.k)));clear uw Sy HA uP CV hc0 Xk fy oC aK i1 i2 Pt;generalize wr.heap.size=q7 at Bm pP ⊢;have hx0:Wr.cell? ⟨w.heap.size,0,none⟩=some (.slice Wa Qa.length Xa):=(ia Dw.out.hx 0).trans rfl;have hx1:Wr.cell? ⟨w.heap.size,1,none⟩=some (.int .i64 Ja):=(ia Dw.out.hx 1).trans rfl;have Lw:Wr.cell? ⟨w.heap.size,2,none⟩=some (.int .i64 Ga):=(ia Dw.out.hx 2).trans rfl;have br:Wr.cell? ⟨w.heap.size,3,none⟩=some (.int .i64 (n:Int)):=(ia Dw.out.hx 3).trans rfl;have Tr:Wr.cell? ⟨w.heap.size,4,none⟩=some (.slice (some ag) Aa.length yb):=(ia Dw.out.hx 4).trans rfl
   go_upto_region 5 with (first|(go_at_call 81;(with_reducible refine (rj.calls Wa Xa Qa Ja Ga (n:Int) (some ag) yb Aa A1 c1 X (i:Int) _ Wr n8.out.1 gU.out n8.out.2.1 wN.out n8.out.2.2 HL1.out HE.out).mono ?_);rintro e w5 ⟨v5,rfl,ho,hb⟩;obtain ⟨As,cs,rfl⟩:=Kd.Bd ho;have vu:=ga.mk ho;have qL:=ga.mk hb;clear ho hb hx0 hx1 Lw br Tr))
   have hjl:(Ei (za Aa (i:Int)) (Be X i)).length=n:=by rw [xm];exact N0.out i hlt
   rw [hjl] at vu ⊢;clear hjl;have lU:=ga.mk (Dw.out.below qL.out);have P0:=ga.mk (HI.out st Wr w5 IC.out qL.out.size (fun k hk=>qL.out.block k (Nat.lt_trans hk Dw.out.le)));have HQ5:=ga.mk (Va Bm.out qL.out);have YM:=ga.mk (And.intro (Pc Bm.out) (And.intro Dw.out.le qL.out.size));have hU:=ga.mk (show Br f ((za Aa (i:Int)).f0.take (za Aa (i:Int)).f0.length).reverse (nu (za Aa (i:Int)).f0 (za Aa (i:Int)).f0.length (Ei (za Aa (i:Int)) (Be X i))) st=zy f Aa X st i by rw [List.take_length,Gv];rfl);clear Dw IC Bm n8 qL;generalize Wr.heap.size=N5 at vu YM;have Sx:w5.cell? ⟨q7,0,none⟩=some (.slice Ac (za Aa (i:Int)).f0.length cc):=(ia HQ5.out 0).trans rfl;have Xv:(za Aa (i:Int)).f0.length ≤ 1048576:=wP.out.1;have LW:wrap64 (((za Aa (i:Int)).f0.length:Int) - 1)=((za Aa (i:Int)).f0.length:Int) - 1:=Pk Xv;have HWR:=ga.mk LW;clear LW;go_wp2;clear Sx
   go_loopg [9] (za Aa (i:Int)).f0.length (fun g6 v9 wr=>∃ (z:Int) (q:Nat) (st':St),v9 = .int .i64 z∧z + 1=(q:Int)∧q ≤ (za Aa (i:Int)).f0.length∧q ≤ g6∧ga (Br f ((za Aa (i:Int)).f0.take q).reverse (nu (za Aa (i:Int)).f0 q (Ei (za Aa (i:Int)) (Be X i))) st' = zy f Aa X st i)∧ga (Inv st' wr)∧ga (DV S w (sy Wa Qa.length Xa Ja Ga n (some ag) Aa.length yb) wr)∧ga (Kd.R Kd.bool 4 wr N5 (fun _=>True) (.slice As n cs) (nu (za Aa (i:Int)).f0 q (Ei (za Aa (i:Int)) (Be X i))))∧ga (N5 ≤ wr.heap.size)∧ga (wr.heap[q7]? = some (.cells #[.slice Ac (za Aa (i:Int)).f0.length cc,.int .i64 (za Aa (i:Int)).f1,.int .i64 (za Aa (i:Int)).f2,.int .i64 (za Aa (i:Int)).f3,.int .i64 (za Aa (i:Int)).f4] 59 (0,0))))
   case atStart=>exact ⟨((za Aa (i:Int)).f0.length:Int) - 1,(za Aa (i:Int)).f0.length,st,by first|rfl|(go_simp;done)|exact congrArg _ HWR.out|go_num,by omega,Nat.le_refl _,Nat.le_refl _,hU,P0,lU,⟨by rw [Gv];exact vu.out⟩,⟨YM.out.2.2⟩,HQ5⟩
   case round =>
    clear hU P0 lU vu HQ5;(try clear hU);(try clear P0);(try clear lU);(try clear vu);(try clear ial);(try clear HQ5);obtain ⟨z,q,st',rfl,hz,hq,hg6,hU,P0,lU,vu,ial,HQ5⟩:=hrel
    by_cases hz0:0 ≤ z
    ·obtain ⟨p,rfl⟩:∃ p:Nat,z=(p:Int):=⟨z.toNat,(Int.toNat_of_nonneg hz0).symm⟩;obtain rfl:q=p + 1:=by omega
     have P2:p < (za Aa (i:Int)).f0.length:=by omega
     have zW:decide ((p:Int) ≥ 0)=true:=decide_eq_true (by omega);have p1:0 ≤ (p:Int):=by omega
     have p2:(p:Int) < ((za Aa (i:Int)).f0.length:Int):=by omega
     have Sx:wr.cell? ⟨q7,0,none⟩=some (.slice Ac (za Aa (i:Int)).f0.length cc):=(ia HQ5.out 0).trans rfl;obtain ⟨aI,e5,k0,k1,k2,k3,k4,k5,k6⟩:=Jm LZ.out (p:Int) (by omega) (by omega);subst e5;simp only [Int.toNat_natCast] at k0 k1 k2 k3 k4 k5 k6;have FZ:=ga.mk (And.intro k0 (And.intro k1 (And.intro k2 (And.intro k3 (And.intro k4 (And.intro k5 k6))))));replace k0:=Ag k0 JC.out DG.out lU.out.k;replace k1:=Ag k1 JC.out DG.out lU.out.k;replace k2:=Ag k2 JC.out DG.out lU.out.k;replace k3:=Ag k3 JC.out DG.out lU.out.k;replace k4:=Ag k4 JC.out DG.out lU.out.k;replace k5:=Ag k5 JC.out DG.out lU.out.k;replace k6:=Ag k6 JC.out DG.out lU.out.k;have XT:=ga.mk (show (nu (za Aa (i:Int)).f0 (p + 1) (Ei (za Aa (i:Int)) (Be X i))).length=n by rw [Tx,xm];exact N0.out i hlt);have TK:=ga.mk (jw wP.out P2);have Yt:=HP.out wr st' (Ea (za Aa (i:Int)).f0 (p:Int)) As cs (nu (za Aa (i:Int)).f0 (p + 1) (Ei (za Aa (i:Int)) (Be X i))) lU.out.k P0.out TK.out XT.out (fun W' hk=>(Kd.Vb (Kd.Km (Kd.Xd (Kd.Bg vu.out) (fun k hk=>hk.2.1)) hk (fun k hk e=>by have:=HSS.out k e;have:=YM.out;omega))).2.2) (by have:=(Kd.Vb vu.out).2.1;rw [XT.out];exact this);rw [XT.out] at Yt;have m8:=ga.mk Yt;have eg2:=eg;clear Yt hz0
     go_upto_region 9 with (go_at_fn g;refine m8.out.mono ?_;rintro e w6 ⟨rfl,hi6,hk6,hb6⟩;have O0:=ga.mk hi6;have HK6:=ga.mk hk6;have pL:=ga.mk hb6;clear hi6 hk6 hb6 Sx k0 k1 k2 k3 k4 k5 k6)
     have S0:=ga.mk (lU.out.kept HSS.out HK6.out pL.out);have oP:=ga.mk (Kd.Km (Kd.Xd (Kd.Bg vu.out) (fun k hk=>hk.2.1)) HK6.out (fun k hk e=>by have:=HSS.out k e;have:=YM.out;omega));have HQ6:=ga.mk (Ve HQ5.out HK6.out (fun e=>by have:=HSS.out _ e;have:=pP.out;omega));have YC:=ga.mk (show N5 ≤ w6.heap.size by have h1:=HK6.out.1;have:=ial.out;omega);obtain ⟨kb,CQ⟩:=Ev.rounds (fK (nu (za Aa (i:Int)).f0 (p + 1) (Ei (za Aa (i:Int)) (Be X i))) (Ea (za Aa (i:Int)).f0 (p:Int)) (by rw [XT.out];exact TK.out));have HKB:=ga.mk CQ;have HCB:=ga.mk (Zy YC.out);have HSB:=ga.mk (show Kd.R Kd.bool 4 w6 (xG w6 N5).heap.size (fun k=>N5 ≤ k) (.slice As n cs) (nu (za Aa (i:Int)).f0 (p + 1) (Ei (za Aa (i:Int)) (Be X i))) by rw [gm YC.out];exact oP.out);obtain ⟨k0,k1,k2,k3,k4,k5,k6⟩:=FZ.out;replace k0:=Ag k0 JC.out DG.out S0.out.k;replace k1:=Ag k1 JC.out DG.out S0.out.k;replace k2:=Ag k2 JC.out DG.out S0.out.k;replace k3:=Ag k3 JC.out DG.out S0.out.k;replace k4:=Ag k4 JC.out DG.out S0.out.k;replace k5:=Ag k5 JC.out DG.out S0.out.k;replace k6:=Ag k6 JC.out DG.out S0.out.k;have Sx:w6.cell? ⟨q7,0,none⟩=some (.slice (some aI) (za Aa (i:Int)).f0.length cc):=(ia HQ6.out 0).trans rfl;have hwp:wrap64 ((p:Int) - 1)=(p:Int) - 1:=Pk (by omega);have HWP:=ga.mk hwp;clear CQ hwp;go_wp2_with (first|(go_at_call 79;(with_reducible refine (ue.calls kb (fun k=>N5 ≤ k) (.slice As n cs) (nu (za Aa (i:Int)).f0 (p + 1) (Ei (za Aa (i:Int)) (Be X i))) (Ea (za Aa (i:Int)).f0 (p:Int)).f0 (Ea (za Aa (i:Int)).f0 (p:Int)).f1 (Ea (za Aa (i:Int)).f0 (p:Int)).f2 (Ea (za Aa (i:Int)).f0 (p:Int)).f3 (Ea (za Aa (i:Int)).f0 (p:Int)).f4 (Ea (za Aa (i:Int)).f0 (p:Int)).f5 (Ea (za Aa (i:Int)).f0 (p:Int)).f6 _ (xG w6 N5) w6 HCB.out HSB.out HKB.out).mono ?_);rintro e w7 ⟨rfl,ho,hb,hk⟩;have HS7:=ga.mk ho;have kU:=ga.mk hb;have HK7:=ga.mk hk;clear ho hb hk Sx k0 k1 k2 k3 k4 k5 k6))
     have Q2:Below w.heap.size w6 w7:=by
      have hb:=kU.out;have hs:=gm YC.out;have h2:=YM.out.2.1;refine ⟨hb.os,hb.tape,hb.output,HK7.out.1,fun k hk=>HK7.out.2 k (by have:=YC.out;omega) (by omega)⟩
     have HA7:=ga.mk (show DV S w _ w7 from ⟨S0.out.k.Fp HK7.out (fun k hk=>Or.inr (by have:=YM.out.2.1;omega)),S0.out.b.trans (Nr Q2),Ve S0.out.hx HK7.out (by have:=YM.out.2.1;omega)⟩);have HI7:=ga.mk (HI.out _ w6 w7 O0.out Q2.size Q2.block);have HQ7:=ga.mk (Ve HQ6.out HK7.out (by have:=YM.out.1;omega));have hs7:=HS7.out;rw [gm YC.out,← Mr P2] at hs7;have HS8:=ga.mk (Kd.Xd hs7 (fun _ _=>trivial:∀ k,_→(fun _:Nat=>True) k));have fX:=hU.out;rw [sF f P2,← Mr P2] at fX;have HF7:=ga.mk fX;clear hs7 fX Q2
     go_roundg p
     case measure=>omega
     case rel=>exact ⟨(p:Int) - 1,p,_,by first|rfl|(go_simp;done)|exact congrArg _ HWP.out|go_num,by omega,by omega,Nat.le_refl _,HF7,HI7,HA7,HS8,⟨Nat.le_trans YC.out HK7.out.1⟩,HQ7⟩
    ·have zW:decide (z ≥ 0)=false:=decide_eq_false (by omega);obtain rfl:q=0:=by omega
     have fX:=hU.out;rw [List.take_zero,List.reverse_nil,show Br f [] (nu (za Aa (i:Int)).f0 0 (Ei (za Aa (i:Int)) (Be X i))) st' = st' from rfl] at fX;have HEN:=ga.mk (show Fh f Aa X (i + 1) st' = Fh f Aa X 0 st0 by rw [fX,← Ap f hlt];exact iU.out);clear fX;go_wp2
     go_roundg (Aa.length - (i + 1))
     case measure=>omega
     case rel=>exact ⟨i + 1,st',by go_num,by omega,by omega,HEN,P0,lU⟩
  ·have Pt:decide ((i:Int) < (Aa.length:Int))=false:=decide_eq_false (by omega);obtain rfl:i=Aa.length:=by omega
   have heq:=iU.out;rw [Oq] at heq;have HEE:=ga.mk heq;clear heq;go_wp2;refine bodyPost_end (v:=.tuple #[]) ?_ rfl ?_
   ·exact results_none rfl _ _ _
   exact ⟨rfl,by rw [← HEE.out];exact uP.out,HA.out.k,HA.out.b⟩
attribute [local go_sem] Gi Jj
theorem Cz {bs:List (He)} {n i:Nat} (hi:i < bs.length):Be (bf bs n) i=pn bs n i:=by
 unfold Be bf;rw [List.getD_eq_getElem?_getD];simp [hi]
section
variable {bs:List He} {n:Nat} (l0:List Int) (p v:Int)
end
theorem gV {b:He} {s:List Bool} (hb:lu s.length b) (hs:s.length ≤ 1048576):Qg.f b.f0 b.f1 b.f2 b.f3 b.f4 s=some (Ei b s):=by
 unfold Qg.f Ei;rw [Option.bind_some,if_pos (by simp;omega),Option.bind_some,List.nil_append]
 by_cases hf:b.f1=0
 ·rw [if_pos hf,if_pos hf]
 ·have:=hb.2.1 hf;rw [if_neg hf,if_neg hf,if_pos (by omega),if_pos (by omega)]
section
variable {bs:List He} {n:Nat} (l0:List Int) (p v:Int)
end
end Go.Proofs.Ytkigbdceceeenaa.P
end
section
namespace Go.Proofs.Ytkigbdceceeenaa.P
open Go.RowKit Go.Proofs.Ma.Wb Go.Proofs.Ma.Jd Go.Proofs.Ma.Fe
set_option linter.unusedVariables false
set_option linter.unusedSimpArgs false
def Sq (n:Nat) (T:List (List Bool)):Prop:=T.length=n∧∀ i,i < n→(Be T i).length=n
def BL (T:List (List Bool)) (a b:Nat):List (List Bool):=T.set a ((Be T a).set b true)
def OC (T:List (List Bool)) (a b:Nat):List (List Bool):=if a=b then T else BL (BL T a b) b a
structure NM (n:Nat) (T:List (List Bool)) (P:Nat→Nat→Prop):Prop where
 sq:Sq n T
 so:∀ i j,i < n→j < n→(seen (Be T i) j=true ↔ i ≠ j∧(P i j ∨ P j i))
section
variable {n a b:Nat} {T U:List (List Bool)} {P Q:Nat→Nat→Prop}
theorem Sq.put (h:Sq n T) (ha:a < n) (b:Nat):Sq n (BL T a b):=by
 refine ⟨by unfold BL;rw [List.length_set];exact h.1,fun i hi=>?_⟩;unfold BL;rw [Vp (by rw [h.1];exact ha)]
 by_cases e:a=i
 ·rw [if_pos e,List.length_set];exact h.2 a ha
 ·rw [if_neg e];exact h.2 i hi
theorem KG (h:Sq n T) (ha:a < n) (hb:b < n) (i j:Nat):seen (Be (BL T a b) i) j=true ↔ seen (Be T i) j=true ∨ (a=i∧b=j):=by
 unfold BL;rw [Vp (by rw [h.1];exact ha)]
 by_cases e:a=i
 ·subst e;rw [if_pos rfl,Nj (by rw [h.2 a ha];exact hb)]
  by_cases e2:b=j
  ·rw [if_pos e2];exact ⟨fun _=>Or.inr ⟨rfl,e2⟩,fun _=>rfl⟩
  ·rw [if_neg e2];exact ⟨Or.inl,fun h=>h.resolve_right (fun h=>e2 h.2)⟩
 ·rw [if_neg e];exact ⟨Or.inl,fun h=>h.resolve_right (fun h=>e h.1)⟩
theorem Sq.meet (h:Sq n T) (ha:a < n) (hb:b < n):Sq n (OC T a b):=by
 unfold OC
 by_cases e:a=b
 ·rw [if_pos e];exact h
 ·rw [if_neg e];exact (h.put ha b).put hb a
theorem NM.Dr (h:NM n T P) (hp:∀ i j,P i j ↔ Q i j):NM n T Q:=⟨h.sq,fun i j hi hj=>by rw [h.so i j hi hj,hp,hp]⟩
theorem NM.meet (h:NM n T P) (ha:a < n) (hb:b < n):NM n (OC T a b) (fun i j=>P i j ∨ (i=a∧j=b)):=by
 refine ⟨h.sq.meet ha hb,fun i j hi hj=>?_⟩;unfold OC
 by_cases e:a=b
 ·rw [if_pos e,h.so i j hi hj]
  constructor
  ·rintro ⟨h1,h2⟩;exact ⟨h1,h2.imp Or.inl Or.inl⟩
  ·rintro ⟨h1,h2⟩;refine ⟨h1,?_⟩
   rcases h2 with (h2|⟨h3,h4⟩)|(h2|⟨h3,h4⟩)
   ·exact Or.inl h2
   ·exact absurd (h3.trans (e.trans h4.symm)) h1
   ·exact Or.inr h2
   ·exact absurd (h4.trans (e.symm.trans h3.symm)) h1
 ·rw [if_neg e,KG (h.sq.put ha b) hb ha,KG h.sq ha hb,h.so i j hi hj]
  constructor
  ·rintro ((⟨h1,h2⟩|⟨rfl,rfl⟩)|⟨rfl,rfl⟩)
   ·exact ⟨h1,h2.imp Or.inl Or.inl⟩
   ·exact ⟨e,Or.inl (Or.inr ⟨rfl,rfl⟩)⟩
   ·exact ⟨fun h=>e h.symm,Or.inr (Or.inr ⟨rfl,rfl⟩)⟩
  ·rintro ⟨h1,(h2|⟨rfl,rfl⟩)|(h2|⟨rfl,rfl⟩)⟩
   ·exact Or.inl (Or.inl ⟨h1,Or.inl h2⟩)
   ·exact Or.inl (Or.inr ⟨rfl,rfl⟩)
   ·exact Or.inl (Or.inl ⟨h1,Or.inr h2⟩)
   ·exact Or.inr ⟨rfl,rfl⟩
theorem NM.ext (h:NM n T P) (h2:NM n U Q) (hp:∀ i j,i ≠ j→((P i j ∨ P j i) ↔ (Q i j ∨ Q j i))):T=U:=by
 apply List.ext_getElem
 ·rw [h.sq.1,h2.sq.1]
 ·intro i h1 h3;have e1:T[i]=Be T i:=by simp [Be,List.getD_eq_getElem?_getD,h1]
  have e2:U[i]=Be U i:=by simp [Be,List.getD_eq_getElem?_getD,h3]
  rw [e1,e2];have hi:i < n:=by rw [← h.sq.1];exact h1
  have l1:=h.sq.2 i hi;have l2:=h2.sq.2 i hi;refine Bz (by rw [l1,l2]) (fun j=>?_)
  constructor
  ·intro hs;have hj:j < n:=by have:=Em hs;omega
   have ⟨x,y⟩:=(h.so i j hi hj).1 hs;exact (h2.so i j hi hj).2 ⟨x,(hp i j x).1 y⟩
  ·intro hs;have hj:j < n:=by have:=Em hs;omega
   have ⟨x,y⟩:=(h2.so i j hi hj).1 hs;exact (h.so i j hi hj).2 ⟨x,(hp i j x).2 y⟩
theorem VV {n m i:Nat} (hi:i < m):Be (List.replicate m (List.replicate n false)) i=List.replicate n false:=by
 unfold Be;rw [List.getD_eq_getElem?_getD,List.getElem?_replicate,if_pos hi];rfl
theorem NM.start (n:Nat):NM n (List.replicate n (List.replicate n false)) (fun _ _=>False) :=
 ⟨⟨by simp,fun i hi=>by rw [VV hi];simp⟩,fun i j hi _=>by
  rw [VV hi,CB]
  exact ⟨fun h=>(by cases h),fun h=>h.2.elim False.elim False.elim⟩⟩
end
def bh (P:Nat→Nat→Prop) (x:Le) (s:List Bool):Nat→Nat→Prop:=fun i j=>P i j ∨ (Xm x ≥ 0∧i=(Xm x).toNat∧seen s j=true)
def aQ:Nat→Nat→Prop:=fun _ _=>False
theorem ZG (l:List Le):∀ (s:List Bool) (P:Nat→Nat→Prop) (a b:Nat),Br bh l s P a b ↔ P a b ∨ Br bh l s aQ a b:=by
 induction l with
 | nil=>intro s P a b;exact ⟨Or.inl,fun h=>h.elim id False.elim⟩
 | cons x r ih =>
  intro s P a b
  show Br bh r (vo s x) (bh P x s) a b ↔ P a b ∨ Br bh r (vo s x) (bh aQ x s) a b
  rw [ih _ (bh P x s),ih _ (bh aQ x s)];unfold bh aQ
  constructor
  ·rintro ((h|h)|h)
   ·exact Or.inl h
   ·exact Or.inr (Or.inl (Or.inr h))
   ·exact Or.inr (Or.inr h)
  ·rintro (h|(h|h)|h)
   ·exact Or.inl (Or.inl h)
   ·exact h.elim
   ·exact Or.inl (Or.inr h)
   ·exact Or.inr h
theorem jK (bs:List He) (X:List (List Bool)):∀ (d i:Nat) (P E:Nat→Nat→Prop) (a b:Nat),i + d=bs.length→(Fh bh bs X i (fun i j=>P i j ∨ E i j) a b ↔ Fh bh bs X i P a b ∨ E a b):=by
 intro d
 induction d with
 | zero =>
  intro i P E a b hi;obtain rfl:i=bs.length:=by omega
  rw [Oq,Oq]
 | succ d ih =>
  intro i P E a b hi;have hib:i < bs.length:=by omega
  rw [Ap bh hib,Ap bh hib]
  have he:zy bh bs X (fun i j=>P i j ∨ E i j) i=fun a b=>zy bh bs X P i a b ∨ E a b:=by
   funext a b
   unfold zy;rw [ZG _ _ (fun i j=>P i j ∨ E i j),ZG _ _ P];exact propext ⟨fun h=>h.elim (fun h=>h.elim (fun h=>Or.inl (Or.inl h)) Or.inr) (fun h=>Or.inl (Or.inr h)),fun h=>h.elim (fun h=>h.elim (fun h=>Or.inl (Or.inl h)) Or.inr) (fun h=>Or.inl (Or.inr h))⟩
  rw [he];exact ih (i + 1) _ E a b (by omega)
noncomputable def eF (bs:List He) (n:Nat):List Bool:=QC (za bs ((0:Nat):Int)) (pn bs n 0)
noncomputable def WE (bs:List He) (n:Nat):Nat→Nat→Prop:=fun a b=>Fh bh bs (bf bs n) 0 aQ a b ∨ (seen (eF bs n) a=true∧seen (eF bs n) b=true)
noncomputable def kn (bs:List He) (n:Nat):List (List Bool):=open Classical in (List.range n).map fun i=>(List.range n).map fun j=>decide (i ≠ j∧(WE bs n i j ∨ WE bs n j i))
theorem QG (bs:List He) (n:Nat):(kn bs n).length=n:=by simp [kn]
theorem Uq (bs:List He) (n:Nat):NM n (kn bs n) (WE bs n):=by
 have hr:∀ i,i < n→Be (kn bs n) i=(open Classical in (List.range n).map fun j=>decide (i ≠ j∧(WE bs n i j ∨ WE bs n j i))):=fun i hi=>by
  unfold Be kn;rw [List.getD_eq_getElem?_getD];simp [hi]
 refine ⟨⟨QG bs n,fun i hi=>by rw [hr i hi];simp⟩,fun i j hi hj=>?_⟩;rw [hr i hi];simp [seen,List.getD_eq_getElem?_getD,hj]
theorem CU {bs:List He} {n i:Nat} (hi:i < n):(Be (kn bs n) i).length=n:=(Uq bs n).sq.2 i hi
theorem BU {bs:List He} {n i j:Nat} (hi:i < n) (hj:j < n):seen (Be (kn bs n) i) j=seen (Be (kn bs n) j) i:=by
 rw [Bool.eq_iff_iff,(Uq bs n).so i j hi hj,(Uq bs n).so j i hj hi];exact ⟨fun h=>⟨fun e=>h.1 e.symm,h.2.symm⟩,fun h=>⟨fun e=>h.1 e.symm,h.2.symm⟩⟩
theorem DU {bs:List He} {n i:Nat} (hi:i < n):seen (Be (kn bs n) i) i=false:=by
 cases h:seen (Be (kn bs n) i) i with
 | false=>rfl
 | true=>exact absurd rfl (((Uq bs n).so i i hi hi).1 h).1
end Go.Proofs.Ytkigbdceceeenaa.P
end
section
namespace Go.Proofs.Ytkigbdceceeenaa.P
open Go.RowKit Go.Proofs.Ma.Wb Go.Proofs.Ma.Jd Go.Proofs.Ma.Fe
set_option linter.unusedVariables false
set_option linter.unusedSimpArgs false
theorem uH {W:World} {base g c n a b:Nat} {PB:Nat→Prop} {T:List (List Bool)} (h:Kd.S (Kd.slice 4 Kd.bool) 60 W base PB (.slice (some ⟨g,0,none⟩) n c) T) (hq:Sq n T) (ha:a < n) (hb:b < n) :
  ∃ (gi c2:Nat) (v:Bool),W.cell? ⟨g,a,none⟩=some (.slice (some ⟨gi,0,none⟩) n c2)∧W.cell? ⟨gi,b,none⟩=some (.bool v)∧W.frozen? ⟨gi,b,none⟩=false ∧
   Kd.S (Kd.slice 4 Kd.bool) 60 (W.setCell ⟨gi,b,none⟩ (.bool true)) base PB (.slice (some ⟨g,0,none⟩) n c) (BL T a b)∧Kept W (W.setCell ⟨gi,b,none⟩ (.bool true)) PB∧Below 0 W (W.setCell ⟨gi,b,none⟩ (.bool true)):=by
 have hl:=hq.2 a ha;obtain ⟨gi,c2,h1,h2,h3,h4,h5⟩:=qY false h ha (show b < (T.getD a []).length from by rw [show T.getD a []=Be T a from rfl,hl];exact hb);rw [show (T.getD a []).length=n from hl] at h1;exact ⟨gi,c2,_,h1,h3,h4,(h5 true).1,(Kept.refl W PB).setCell (p:=⟨gi,b,none⟩) (Or.inl h2) (.bool true),(Below.refl 0 W).setCell (Nat.zero_le _) _⟩
theorem wH (base n a b:Nat) (PB:Nat→Prop) (v:Value) (T:List (List Bool)) (w:World) (h:Kd.S (Kd.slice 4 Kd.bool) 60 w base PB v T) (hq:Sq n T) (ha:a < n) (hb:b < n) (hn:n ≤ 1048576) :
  Calls Try.prog 84 #[v,.int .i64 (a:Int),.int .i64 (b:Int)] w fun e w'=>e = .returned (.tuple #[])∧Kd.S (Kd.slice 4 Kd.bool) 60 w' base PB v (OC T a b)∧Kept w w' PB∧Below 0 w w':=by
 obtain ⟨g,c,rfl,-⟩:=Kd.yC h (by rw [hq.1];omega);rw [hq.1] at h ⊢;have HH:=ga.mk h;unfold OC
 by_cases e:a=b
 ·subst e;rw [if_pos rfl];clear h;go_enter Try.func84,Try.ntmps84;go_wp2;refine bodyPost_end (v:=.tuple #[]) ?_ rfl ?_
  ·exact results_none rfl _ _ _
  exact ⟨rfl,HH.out,Kept.refl _ _,Below.refl _ _⟩
 ·rw [if_neg e];have HQ:=ga.mk hq;have hne:¬ ((a:Int)=(b:Int)):=by omega
  have a1:0 ≤ (a:Int):=by omega
  have a2:(a:Int) < (n:Int):=by omega
  have b1:0 ≤ (b:Int):=by omega
  have b2:(b:Int) < (n:Int):=by omega
  obtain ⟨gi,c2,z,p1,p2,hfz,p4,p5,p6⟩:=uH h hq ha hb;have H4:=ga.mk p4;have H5:=ga.mk p5;have H6:=ga.mk p6;clear h hq p4 p5 p6;go_enter Try.func84,Try.ntmps84
  go_upto_region 2 with (fail)
  clear p1 p2 hfz;generalize w.setCell ⟨gi,b,none⟩ (.bool true)=w1 at H4 H5 H6 ⊢;obtain ⟨gj,c3,z2,p1,p2,hfz,p4,p5,p6⟩:=uH H4.out (HQ.out.put ha b) hb ha;have H7:=ga.mk p4;have H8:=ga.mk (H5.out.Fp p5 (fun _ h=>Or.inl h));have H9:=ga.mk (H6.out.trans p6);clear p4 p5 p6 H4 H5 H6;go_wp2;refine bodyPost_end (v:=.tuple #[]) ?_ rfl ?_
  ·exact results_none rfl _ _ _
  exact ⟨rfl,H7.out,H8.out,H9.out⟩
theorem KH (base n a b q:Nat) (PB:Nat→Prop) (v:Value) (T:List (List Bool)) (w:World) (hx:w.heap[q]? = some (.cells #[v] 55 (0,0))) (hpq:¬ PB q) (h:Kd.S (Kd.slice 4 Kd.bool) 60 w base PB v T) (hq:Sq n T) (ha:a < n) (hb:b < n) (hn:n ≤ 1048576) :
  Calls Try.prog 85 #[.int .i64 (a:Int),.int .i64 (b:Int),.pointer (some ⟨q,0,none⟩)] w fun e w'=>e = .returned (.tuple #[])∧Kd.S (Kd.slice 4 Kd.bool) 60 w' base PB v (OC T a b)∧Kept w w' PB∧Below 0 w w':=by
 obtain ⟨g,c,rfl,-⟩:=Kd.yC h (by rw [hq.1];omega);rw [hq.1] at h hx ⊢;have HH:=ga.mk h;unfold OC
 by_cases e:a=b
 ·subst e;rw [if_pos rfl];clear h;go_enter Try.func85,Try.ntmps85;go_wp2;refine bodyPost_end (v:=.tuple #[]) ?_ rfl ?_
  ·exact results_none rfl _ _ _
  exact ⟨rfl,HH.out,Kept.refl _ _,Below.refl _ _⟩
 ·rw [if_neg e];have HQ:=ga.mk hq;have hne:¬ ((a:Int)=(b:Int)):=by omega
  have a1:0 ≤ (a:Int):=by omega
  have a2:(a:Int) < (n:Int):=by omega
  have b1:0 ≤ (b:Int):=by omega
  have b2:(b:Int) < (n:Int):=by omega
  obtain ⟨gi,c2,z,p1,p2,hfz,p4,p5,p6⟩:=uH h hq ha hb;have hx0:w.cell? ⟨q,0,none⟩=some (.slice (some ⟨g,0,none⟩) n c):=(ia hx 0).trans rfl;have HX:=ga.mk (Ve hx p5 hpq);have H4:=ga.mk p4;have H5:=ga.mk p5;have H6:=ga.mk p6;clear h hq p4 p5 p6 hx;go_enter Try.func85,Try.ntmps85
  go_upto_region 2 with (fail)
  clear p1 p2 hfz hx0;generalize w.setCell ⟨gi,b,none⟩ (.bool true)=w1 at H4 H5 H6 HX ⊢;obtain ⟨gj,c3,z2,p1,p2,hfz,p4,p5,p6⟩:=uH H4.out (HQ.out.put ha b) hb ha;have hx0:w1.cell? ⟨q,0,none⟩=some (.slice (some ⟨g,0,none⟩) n c):=(ia HX.out 0).trans rfl;have H7:=ga.mk p4;have H8:=ga.mk (H5.out.Fp p5 (fun _ h=>Or.inl h));have H9:=ga.mk (H6.out.trans p6);clear p4 p5 p6 H4 H5 H6;go_wp2;refine bodyPost_end (v:=.tuple #[]) ?_ rfl ?_
  ·exact results_none rfl _ _ _
  exact ⟨rfl,H7.out,H8.out,H9.out⟩
structure tN (base n q qf:Nat) (PB:Nat→Prop) (v:Value) (P:Nat→Nat→Prop) (W:World):Prop where
 hf:W.heap[qf]? = some (.cells #[.func (.func 85) #[] #[.pointer (some ⟨q,0,none⟩)]] 101 (0,0))
 hx:W.heap[q]? = some (.cells #[v] 55 (0,0))
 pf:¬ PB qf
 pq:¬ PB q
 t:∃ T,Kd.S (Kd.slice 4 Kd.bool) 60 W base PB v T∧NM n T P
def Ds (P:Nat→Nat→Prop) (x:Le) (s:List Bool) (u:Nat):Nat→Nat→Prop:=fun i j=>P i j ∨ (Xm x ≥ 0∧i=(Xm x).toNat∧j < u∧seen s j=true)
theorem OG {n:Nat} {x:Le} (hx:Wt n x) (h:Xm x ≥ 0):(Xm x).toNat < n:=by
 have h2:=hx.2;unfold Xm at h ⊢
 by_cases h4:x.f0=4
 ·rw [if_pos h4] at h;omega
 ·rw [if_neg h4] at h ⊢
  by_cases h6:x.f0=6
  ·rw [if_pos h6] at h;omega
  ·rw [if_neg h6];have:=h2 h4 h6;omega
theorem CL (x:Le):Th.f x.f0 x.f1 x.f2 x.f3 x.f4 x.f5 x.f6=some (Xm x):=by
 unfold Th.f Xm
 by_cases h4:x.f0=4
 ·rw [if_pos h4,if_pos h4]
 ·rw [if_neg h4,if_neg h4]
  by_cases h6:x.f0=6
  ·rw [if_pos h6,if_pos h6]
  ·rw [if_neg h6,if_neg h6]
theorem tN.below {base n q qf:Nat} {PB:Nat→Prop} {v:Value} {P:Nat→Nat→Prop} {W W':World} (h:tN base n q qf PB v P W) (hb:Below W.heap.size W W'):tN base n q qf PB v P W':=by
 obtain ⟨T,h1,h2⟩:=h.t;exact ⟨Va h.hf hb,Va h.hx hb,h.pf,h.pq,T,Kd.lg h1 hb,h2⟩
theorem tN.Dr {base n q qf:Nat} {PB:Nat→Prop} {v:Value} {P Q:Nat→Nat→Prop} {W:World} (h:tN base n q qf PB v P W) (hp:∀ i j,P i j ↔ Q i j):tN base n q qf PB v Q W:=by
 obtain ⟨T,h1,h2⟩:=h.t;exact ⟨h.hf,h.hx,h.pf,h.pq,T,h1,h2.Dr hp⟩
theorem tN.call {base n q qf a b:Nat} {PB:Nat→Prop} {v:Value} {P:Nat→Nat→Prop} {W:World} (h:tN base n q qf PB v P W) (ha:a < n) (hb:b < n) (hn:n ≤ 1048576) :
  Calls Try.prog 85 #[.int .i64 (a:Int),.int .i64 (b:Int),.pointer (some ⟨q,0,none⟩)] W fun e w'=>e = .returned (.tuple #[])∧tN base n q qf PB v (fun i j=>P i j ∨ (i=a∧j=b)) w'∧Kept W w' PB∧Below 0 W w':=by
 obtain ⟨T,h1,h2⟩:=h.t;refine (KH base n a b q PB v T W h.hx h.pq h1 h2.sq ha hb hn).mono ?_;rintro e w' ⟨e1,e2,e3,e4⟩;exact ⟨e1,⟨Ve h.hf e3 h.pf,Ve h.hx e3 h.pq,h.pf,h.pq,_,e2,h2.meet ha hb⟩,e3,e4⟩
theorem DH (base n q qf:Nat) (PB:Nat→Prop) (v:Value) (P:Nat→Nat→Prop) (x:Le) (A:Option Addr) (c:Nat) (s:List Bool) (w:World)
  (hI:tN base n q qf PB v P w) (hpb:∀ k,PB k→k < w.heap.size) (hi:Wt n x) (hs:s.length=n) (hn:n ≤ 1048576) (hC:∀ W',Kept w W' PB→Kd.C Kd.bool W' A s.length s) (hc:s.length ≤ c) :
  Calls Try.prog 86 #[.agg #[.int .i64 x.f0,.int .i64 x.f1,.int .i64 x.f2,.int .i64 x.f3,.int .i64 x.f4,.int .i64 x.f5,.string x.f6],.slice A s.length c,.pointer (some ⟨qf,0,none⟩)] w fun e w'=>e = .returned (.tuple #[])∧tN base n q qf PB v (bh P x s) w'∧Kept w w' PB∧Below 0 w w':=by
 subst hs;have HC:=ga.mk hC;have LZ:=ga.mk hc;have TK:=ga.mk hi;have XY:=ga.mk hpb;have eN:=ga.mk (qa (Below.refl w.heap.size w) (.cells #[.int .i64 x.f0,.int .i64 x.f1,.int .i64 x.f2,.int .i64 x.f3,.int .i64 x.f4,.int .i64 x.f5,.string x.f6] 65 (0,0)));have HX1:=ga.mk (Mj w (.cells #[.int .i64 x.f0,.int .i64 x.f1,.int .i64 x.f2,.int .i64 x.f3,.int .i64 x.f4,.int .i64 x.f5,.string x.f6] 65 (0,0)));have HI1:=ga.mk ((hI.below eN.out).Dr (Q:=Ds P x s 0) (fun i j=>Iff.intro Or.inl (fun h=>h.elim id (fun h=>absurd h.2.2.1 (Nat.not_lt_zero _)))));have eg:∀ args w,(callFunc 85 args).run Try.prog w = .ok (.enter 85 args) w:=enters_of Try.func85 (by kernel_rfl) rfl;clear hC hc hi hpb hI;go_enter Try.func86,Try.ntmps86
 go_upto_region 1 with (fail)
 generalize w.alloc (.cells #[.int .i64 x.f0,.int .i64 x.f1,.int .i64 x.f2,.int .i64 x.f3,.int .i64 x.f4,.int .i64 x.f5,.string x.f6] 65 (0,0))=w1 at eN HX1 HI1 ⊢;have pg:=ga.mk (Kept.mc eN.out PB);have HZ1:=ga.mk (Nr eN.out);clear eN;go_wp2
 go_loopg [10] s.length (fun g v10 wr=>∃ (i:Nat),v10 = .int .i64 i∧i ≤ s.length∧s.length - i ≤ g∧ga (tN base s.length q qf PB v (Ds P x s i) wr)∧ga (Kept w wr PB)∧ga (Below 0 w wr)∧ga (wr.heap[w.heap.size]? = some (.cells #[.int .i64 x.f0,.int .i64 x.f1,.int .i64 x.f2,.int .i64 x.f3,.int .i64 x.f4,.int .i64 x.f5,.string x.f6] 65 (0,0))))
 case atStart=>exact ⟨0,rfl,Nat.zero_le _,by omega,HI1,pg,HZ1,HX1⟩
 case round =>
  clear HI1 pg HZ1 HX1;(try clear HI);(try clear HK);(try clear HZ);(try clear HX);obtain ⟨i,rfl,hi,hg,HI,HK,HZ,HX⟩:=hrel
  by_cases hlt:i < s.length
  ·have Pt:decide ((i:Int) < (s.length:Int))=true:=decide_eq_true (by omega);have i1:0 ≤ (i:Int):=by omega
   have i2:(i:Int) < (s.length:Int):=by omega
   obtain ⟨ad,e1,Xk⟩:=Ez (HC.out wr HK.out) hlt;subst e1;have hx0:wr.cell? ⟨w.heap.size,0,none⟩=some (.int .i64 x.f0):=(ia HX.out 0).trans rfl;have hx1:wr.cell? ⟨w.heap.size,1,none⟩=some (.int .i64 x.f1):=(ia HX.out 1).trans rfl;have Lw:wr.cell? ⟨w.heap.size,2,none⟩=some (.int .i64 x.f2):=(ia HX.out 2).trans rfl;have br:wr.cell? ⟨w.heap.size,3,none⟩=some (.int .i64 x.f3):=(ia HX.out 3).trans rfl;have Tr:wr.cell? ⟨w.heap.size,4,none⟩=some (.int .i64 x.f4):=(ia HX.out 4).trans rfl;have fQ:wr.cell? ⟨w.heap.size,5,none⟩=some (.int .i64 x.f5):=(ia HX.out 5).trans rfl;have jL:wr.cell? ⟨w.heap.size,6,none⟩=some (.string x.f6):=(ia HX.out 6).trans rfl;have HME:=ga.mk (CL x)
   go_upto_region 5 with (first|(go_at_call 87;(with_reducible refine (Th.calls x.f0 x.f1 x.f2 x.f3 x.f4 x.f5 x.f6 (Xm x) wr HME.out).mono ?_);rintro e w2 ⟨rfl,hb⟩;have uu:=ga.mk hb;clear hb hx0 hx1 Lw br Tr fQ jL Xk))
   have T_:=ga.mk (HI.out.below uu.out);have Cm:=ga.mk (HK.out.below uu.out);have HZ2:=ga.mk (HZ.out.trans (Nr uu.out));have HX2:=ga.mk (Va HX.out uu.out);clear HI HK HZ HX uu i1 i2 Pt
   by_cases kL:seen s i=true∧Xm x ≥ 0
   ·obtain ⟨wQ,hm⟩:=kL;obtain ⟨D,hD⟩:∃ D:Nat,Xm x=(D:Int):=⟨(Xm x).toNat,(Int.toNat_of_nonneg hm).symm⟩;have hDn:D < s.length:=by have:=OG TK.out hm;omega
    have HDD:=ga.mk hD;rw [hD];rw [wQ];have hd0:decide ((D:Int) ≥ 0)=true:=decide_eq_true (by omega);have hf0:w2.cell? ⟨qf,0,none⟩=some (.func (.func 85) #[] #[.pointer (some ⟨q,0,none⟩)]):=(ia T_.out.hf 0).trans rfl;have HCL:=ga.mk (T_.out.call hDn hlt hn);have HSE:=ga.mk wQ;clear hm hD wQ;go_wp2_with (go_at_fn 85;refine HCL.out.mono ?_;rintro e w3 ⟨rfl,h1,h2,h3⟩;have HI3:=ga.mk h1;have Rp:=ga.mk (Cm.out.Fp h2 (fun _ h=>Or.inl h));have HZ3:=ga.mk (HZ2.out.trans h3);have HX3:=ga.mk (Ve HX2.out h2 (fun e=>by have:=XY.out _ e;omega));clear h1 h2 h3 hf0)
    have uP:=ga.mk (HI3.out.Dr (Q:=Ds P x s (i + 1)) (fun a b=>by
     unfold Ds;have h1:=HDD.out
     constructor
     ·rintro ((h|⟨h2,h3,h4,h5⟩)|⟨rfl,rfl⟩)
      ·exact Or.inl h
      ·exact Or.inr ⟨h2,h3,by omega,h5⟩
      ·exact Or.inr ⟨by omega,by omega,by omega,HSE.out⟩
     ·rintro (h|⟨h2,h3,h4,h5⟩)
      ·exact Or.inl (Or.inl h)
      ·by_cases e:b=i
       ·exact Or.inr ⟨by omega,e⟩
       ·exact Or.inl (Or.inr ⟨h2,h3,by omega,h5⟩)))
    go_roundg (s.length - (i + 1))
    case measure=>omega
    case rel=>exact ⟨i + 1,by go_num,by omega,by omega,uP,Rp,HZ3,HX3⟩
   ·have uP:=ga.mk (T_.out.Dr (Q:=Ds P x s (i + 1)) (fun a b=>by
     unfold Ds
     constructor
     ·rintro (h|⟨h2,h3,h4,h5⟩)
      ·exact Or.inl h
      ·exact Or.inr ⟨h2,h3,by omega,h5⟩
     ·rintro (h|⟨h2,h3,h4,h5⟩)
      ·exact Or.inl h
      ·by_cases e:b=i
       ·subst e;exact absurd ⟨h5,h2⟩ kL
       ·exact Or.inr ⟨h2,h3,by omega,h5⟩))
    have HGO:=ga.mk kL;clear kL T_;cases wQ:seen s i with
    | false =>
     clear wQ;go_wp2
     go_roundg (s.length - (i + 1))
     case measure=>omega
     case rel=>exact ⟨i + 1,by go_num,by omega,by omega,uP,Cm,HZ2,HX2⟩
    | true =>
     have hd0:decide (Xm x ≥ 0)=false:=decide_eq_false (fun h=>HGO.out ⟨wQ,h⟩);clear wQ;go_wp2
     go_roundg (s.length - (i + 1))
     case measure=>omega
     case rel=>exact ⟨i + 1,by go_num,by omega,by omega,uP,Cm,HZ2,HX2⟩
  ·have Pt:decide ((i:Int) < (s.length:Int))=false:=decide_eq_false (by omega)
   have uP:=ga.mk (HI.out.Dr (Q:=bh P x s) (fun a b=>by
    unfold Ds bh
    constructor
    ·rintro (h|⟨h2,h3,h4,h5⟩)
     ·exact Or.inl h
     ·exact Or.inr ⟨h2,h3,h5⟩
    ·rintro (h|⟨h2,h3,h5⟩)
     ·exact Or.inl h
     ·exact Or.inr ⟨h2,h3,by have:=Em h5;omega,h5⟩))
   go_wp2;refine bodyPost_end (v:=.tuple #[]) ?_ rfl ?_
   ·exact results_none rfl _ _ _
   exact ⟨rfl,uP.out,HK.out,HZ.out⟩
end Go.Proofs.Ytkigbdceceeenaa.P
end
