import Derived.Test.YtkigbdceceeenaaQMeets1
import Derived.Test.YtkigbdceceeenaaQMeets8
import Derived.Shelf.Abstract
import Derived.Test.YtkigbdceceeenaaQMeets7
import Derived.Test.YtkigbdceceeenaaQMeets4
import Derived.Test.YtkigbdceceeenaaQMeets3
import Derived.Test.YtkigbdceceeenaaQMeets2
import Derived.Outline
import Derived.RegionTactic
import Derived.StillTailTactics
import Derived.Test.YtkigbdceceeenaaQMeets6
set_option maxHeartbeats 8000000
set_option maxRecDepth 100000
section
namespace Go.Proofs.Ytkigbdceceeenaa.P
open Go.RowKit Go.Proofs.Pa.Ub Go.Proofs.Pa.Sd Go.Proofs.Pa.Xe
set_option linter.unusedVariables false
set_option linter.unusedSimpArgs false
attribute [local go_sem] Jh Bi tj nk wh uh Ci Ai
def jf.l0:Nat→List Bool→List (Be)→Int→Option (List Bool)
 | 0,_,_,_=>none
 | k + 1,x7,x8,x9=>if x9 ≥ 0 then (if 0 ≤ x9 then (if x9 < (x8.length:Int) then ((Rd.f k x7 ((Da x8 x9).f0) ((Da x8 x9).f1) ((Da x8 x9).f2) ((Da x8 x9).f3) ((Da x8 x9).f4) ((Da x8 x9).f5) ((Da x8 x9).f6)).bind fun t107=>(jf.l0 k t107 x8 (wrap64 (x9 - 1)))) else (none)) else (none)) else (some x7)
def jf.f (k:Nat) (Ra:List Int) (La:Int) (Ja:Int) (Ma:Int) (Aa:List (Re)) (l1:List (List Bool)) (a2:Int):Option (List Bool):=(Mh.f Ra La Ja Ma Aa l1 a2).bind fun t102=>(if 0 ≤ a2 then (if a2 < (Aa.length:Int) then (jf.l0 k t102 ((Ea Aa a2).f0) (wrap64 ((((Ea Aa a2).f0).length:Int) - 1))) else (none)) else (none))
theorem jf.calls (k:Nat) (Xa:Option Addr) (Ya:Nat) (Ra:List Int) (La:Int) (Ja:Int) (Ma:Int) (Mb:Option Addr) (Fb:Nat) (Aa:List (Re)) (A1:Option Addr) (c1:Nat) (l1:List (List Bool)) (a2:Int) (r:List Bool) (w:World) (Xd:Kd.C (Kd.int .i64) w Xa Ra.length Ra) (Vd:Ra.length ≤ Ya) (Ff:Kd.C Kp w Mb Aa.length Aa) (uf:Aa.length ≤ Fb) (Zq:Kd.C (Kd.slice 4 Kd.bool) w A1 l1.length l1) (Vn:l1.length ≤ c1) (h:jf.f k Ra La Ja Ma Aa l1 a2=some r) :
  Calls Try.prog 49 #[.agg #[.slice Xa Ra.length Ya,.int .i64 La,.int .i64 Ja,.int .i64 Ma,.slice Mb Aa.length Fb],.slice A1 l1.length c1,.int .i64 a2] w fun e w'=>∃ Hl:Value,e = .returned (Hl)∧Kd.R Kd.bool 4 w' w.heap.size (fun _=>True) Hl r∧Below w.heap.size w w':=by
 have eE:=Try.underlying30;have aA:=Try.underlying65;have Ye:=ga.mk Xd;have gf:=ga.mk Vd;clear Xd Vd;have wg:=ga.mk Ff;have ei:=ga.mk uf;clear Ff uf;have gx:=ga.mk Zq;have ZP:=ga.mk Vn;clear Zq Vn;have HB:=ga.mk (Below.refl w.heap.size w);have H:((Mh.f Ra La Ja Ma Aa l1 a2).bind fun t102=>(if 0 ≤ a2 then (if a2 < (Aa.length:Int) then (jf.l0 k t102 ((Ea Aa a2).f0) (wrap64 ((((Ea Aa a2).f0).length:Int) - 1))) else (none)) else (none)))=some r:=h;clear h;replace H:=Option.bind_eq_some_iff.mp H;obtain ⟨t102,fQ,H⟩:=H;replace H:(if 0 ≤ a2 then (if a2 < (Aa.length:Int) then (jf.l0 k t102 ((Ea Aa a2).f0) (wrap64 ((((Ea Aa a2).f0).length:Int) - 1))) else (none)) else (none))=some r:=H;have A4:=ga.mk fQ;clear fQ
 by_cases c5:0 ≤ a2
 ·rw [if_pos c5] at H;have Ui:decide (0 ≤ a2)=true:=decide_eq_true c5;clear c5
  by_cases c6:a2 < (Aa.length:Int)
  ·rw [if_pos c6] at H;have zm:decide (a2 < (Aa.length:Int))=true:=decide_eq_true c6;clear c6;have H':=ga.mk H;clear H;go_enter Try.func49,Try.ntmps49;go_wp2_with (first|((with_reducible refine qb (N:=3) rfl ?_);refine Gb ?hg (N:=3) ?hd (cs:=#[.slice Xa Ra.length Ya,.int .i64 La,.int .i64 Ja,.int .i64 Ma,.slice Mb Aa.length Fb]) (t:=30) ?hr ?_;(case hd=>rfl);(case hg=>rfl);(case hr=>first|(go_simp;done)|(go_simp;rfl));intro ya hg w7 Ob hb;have yb:=ga.mk (Qa (by repeat (first|(with_reducible first|exact HB.out|apply qa|apply ja|apply ta)|exact HB.out)) hb);have Ib:=ga.mk (Ob);have Nb:=ga.mk ((by rw [hg];exact (Ia (by repeat (first|(with_reducible first|exact HB.out|apply qa|apply ja|apply ta)|exact HB.out))):w.heap.size ≤ ya));have Dc:=ga.mk ((by rw [hg];exact (Ia (by repeat (first|(with_reducible first|exact HB.out|apply qa|apply ja|apply ta)|exact HB.out))):w.heap.size ≤ ya));clear HB;have HB:=yb;have oa:=Ib;have Nd:=Nb;have Ta:=Dc;clear yb Ib Nb Dc hb Ob hg;have su:w7.cell? ⟨ya,0,none⟩=some (.slice Xa Ra.length Ya):=(ia oa.out 0).trans rfl;have ru:w7.cell? ⟨ya,1,none⟩=some (.int .i64 La):=(ia oa.out 1).trans rfl;have qu:w7.cell? ⟨ya,2,none⟩=some (.int .i64 Ja):=(ia oa.out 2).trans rfl;have ou:w7.cell? ⟨ya,3,none⟩=some (.int .i64 Ma):=(ia oa.out 3).trans rfl;have nu:w7.cell? ⟨ya,4,none⟩=some (.slice Mb Aa.length Fb):=(ia oa.out 4).trans rfl;have lu:=aa oa.out 0;have ku:=aa oa.out 1;have ju:=aa oa.out 2;have iu:=aa oa.out 3;have gu:=aa oa.out 4)|((with_reducible refine mb (f:=81) rfl ?_);refine Fc (some 13) rfl rfl Try.func81 (by kernel_rfl) rfl #[.agg #[.slice Xa Ra.length Ya,.int .i64 La,.int .i64 Ja,.int .i64 Ma,.slice Mb Aa.length Fb],.slice A1 l1.length c1,.int .i64 a2] rfl (by (try simp only [List.map_toArray,List.map_cons,List.map_nil]);first|done|rfl|(simp only [List.length_drop,List.length_take];rfl)) ?_;(with_reducible refine (Mh.calls _ _ Ra La Ja Ma _ _ Aa _ _ l1 a2 t102 _ ?yc ?uc ?Gd ?Ed ?Cx ?Bx A4.out).mono ?_);(case yc=>repeat (first|exact (Kd.Jb Ye.out HB.out)|(with_reducible refine Kd.Rb ?_ _)|(with_reducible refine Kd.Qb ?_ _)|(with_reducible refine Kd.Yb ?_)));(case uc=>exact gf.out);(case Gd=>repeat (first|exact (Kd.Jb wg.out HB.out)|(with_reducible refine Kd.Rb ?_ _)|(with_reducible refine Kd.Qb ?_ _)|(with_reducible refine Kd.Yb ?_)));(case Ed=>exact ei.out);(case Cx=>repeat (first|exact (Kd.Jb gx.out HB.out)|(with_reducible refine Kd.Rb ?_ _)|(with_reducible refine Kd.Qb ?_ _)|(with_reducible refine Kd.Yb ?_)));(case Bx=>exact ZP.out);rintro e w9 ⟨En,rfl,Vj,hb⟩;refine ⟨_,rfl,?_⟩;have yb:=ga.mk (Kd.we Vj (Ia (by repeat (first|(with_reducible first|exact HB.out|apply qa|apply ja|apply ta|refine ua ?_ Ta.out)|exact HB.out))));have Ib:=ga.mk (Va (g:=ya) (o:=.cells #[.slice Xa Ra.length Ya,.int .i64 La,.int .i64 Ja,.int .i64 Ma,.slice Mb Aa.length Fb] 30 (0,0)) (by (with_reducible repeat (first|refine Ba ?_ _|refine Fa ?_|refine Ca ?_ _));exact oa.out) hb);have Nb:=ga.mk (Qa (by repeat (first|(with_reducible first|exact HB.out|apply qa|apply ja|apply ta|refine ua ?_ Ta.out)|exact HB.out)) hb);clear oa HB;have mg:=yb;have oa:=Ib;have HB:=Nb;clear yb Ib Nb;(try clear hb);(try clear bk);(try clear hk);(try clear hi);(try clear Vj);have Yh:w9.cell? ⟨ya,0,none⟩=some (.slice Xa Ra.length Ya):=(ia oa.out 0).trans rfl;have Xh:w9.cell? ⟨ya,1,none⟩=some (.int .i64 La):=(ia oa.out 1).trans rfl;have Wh:w9.cell? ⟨ya,2,none⟩=some (.int .i64 Ja):=(ia oa.out 2).trans rfl;have Vh:w9.cell? ⟨ya,3,none⟩=some (.int .i64 Ma):=(ia oa.out 3).trans rfl;have Uh:w9.cell? ⟨ya,4,none⟩=some (.slice Mb Aa.length Fb):=(ia oa.out 4).trans rfl;have Th:=aa oa.out 0;have Sh:=aa oa.out 1;have Rh:=aa oa.out 2;have Qh:=aa oa.out 3;have Ph:=aa oa.out 4;have Ao:0 ≤ (a2:Int):=Ua;have yo:a2 < (Aa.length:Int):=Ua;obtain ⟨Jm,Mk,Gk,tD,Dh,Wk,Vk,Uk,Tk,Aj,Bj⟩:=Vi wg.out a2 Ao yo;cases tD;replace Dh:=Sa HB.out Dh;replace Wk:=Sa HB.out Wk;replace Vk:=Sa HB.out Vk;replace Uk:=Sa HB.out Uk;replace Tk:=Sa HB.out Tk;have Zo:=ga.mk Bj;have ow:=ga.mk Aj;clear Bj Aj;replace Ao:=eq_true Ao;replace yo:=eq_true yo))
   go_loopg [9] k (fun kq v9 w'=>∃ (TA:List Bool) (Cg:Int),v9 = .int .i64 Cg∧ga (jf.l0 kq TA ((Ea Aa a2).f0) Cg=some r)∧ga (kq ≤ k)∧ga (Kd.R Kd.bool 4 w' w.heap.size (fun _=>True) En TA)∧ga (w'.heap[ya]? = some (.cells #[(.slice Xa Ra.length Ya),.int .i64 La,.int .i64 Ja,.int .i64 Ma,(.slice (some Jm) Aa.length Fb)] 30 (0,0)))∧ga (Below w.heap.size w w'))
   case atStart=>exact ⟨(t102),(wrap64 ((((Ea Aa a2).f0).length:Int) - 1)),(by first|rfl|(simp;done)|(simp [*];done)),H',⟨Nat.le_refl _⟩,⟨by (with_reducible repeat (first|apply Kd.Ab|apply Kd.zb|apply Kd.Pb));exact mg.out⟩,⟨by (with_reducible repeat (first|refine Ba ?_ _|refine Fa ?_|refine Ca ?_ _));exact oa.out⟩,⟨by repeat (first|(with_reducible first|exact HB.out|apply qa|apply ja|apply ta|refine ua ?_ Ta.out)|exact HB.out)⟩⟩
   case round =>
    clear H'
    try clear c1
    try clear p1
    try clear q1
    try clear hx1
    try clear p2
    try clear c4
    try clear c5
    try clear Ui
    try clear c6
    try clear zm
    try clear p6
    try clear c8
    try clear Qt
    try clear yK
    try clear sK
    try clear caa
    try clear Yh
    try clear Xh
    try clear Wh
    try clear Vh
    try clear Uh
    try clear su
    try clear ru
    try clear qu
    try clear ou
    try clear nu
    try clear Th
    try clear Sh
    try clear Rh
    try clear Qh
    try clear Ph
    try clear lu
    try clear ku
    try clear ju
    try clear iu
    try clear gu
    try clear Dh
    try clear Wk
    try clear Vk
    try clear Uk
    try clear Tk
    try clear Ao
    try clear yo
    (try clear HA);(try clear Xf);(try clear Jk);(try clear oa);(try clear HB);obtain ⟨TA,Cg,rfl,HA,Xf,Jk,oa,HB⟩:=hrel;cases gk with
    | zero=>exact absurd HA.out (by simp [jf.l0])
    | succ k1 =>
     have H:=HA.out;clear HA;simp only [jf.l0] at H
     by_cases oP:Cg ≥ 0
     ·rw [if_pos oP] at H;have R1:decide (0 ≤ Cg)=true:=decide_eq_true oP;clear oP
      by_cases wu:0 ≤ Cg
      ·rw [if_pos wu] at H;have SE:decide (0 ≤ Cg)=true:=decide_eq_true wu;clear wu
       by_cases nC:Cg < (((Ea Aa a2).f0).length:Int)
       ·rw [if_pos nC] at H;have P1:decide (Cg < (((Ea Aa a2).f0).length:Int))=true:=decide_eq_true nC;clear nC;replace H:=Option.bind_eq_some_iff.mp H;obtain ⟨t107,UJ,H⟩:=H;replace H:(jf.l0 k1 t107 ((Ea Aa a2).f0) (wrap64 (Cg - 1)))=some r:=H;have A14:=ga.mk UJ;clear UJ;have H':=ga.mk H;clear H;have L4:0 ≤ (Cg:Int):=Ua;have J4:Cg < (((Ea Aa a2).f0).length:Int):=Ua;obtain ⟨bax,yar,lM,kM,jM,iM,gM,fM,eM⟩:=fo Zo.out Cg L4 J4;cases yar;replace lM:=Sa HB.out lM;replace kM:=Sa HB.out kM;replace jM:=Sa HB.out jM;replace iM:=Sa HB.out iM;replace gM:=Sa HB.out gM;replace fM:=Sa HB.out fM;replace eM:=Sa HB.out eM;replace L4:=eq_true L4;replace J4:=eq_true J4;obtain ⟨P9,b7,qar⟩:=Kd.Zd Jk.out;subst qar;go_wp2_with (first|((with_reducible refine mb (f:=79) rfl ?_);refine Fc (some 32) rfl rfl Try.func79 (by kernel_rfl) rfl #[.slice P9 TA.length b7,.agg #[.int .i64 ((Da ((Ea Aa a2).f0) Cg).f0),.int .i64 ((Da ((Ea Aa a2).f0) Cg).f1),.int .i64 ((Da ((Ea Aa a2).f0) Cg).f2),.int .i64 ((Da ((Ea Aa a2).f0) Cg).f3),.int .i64 ((Da ((Ea Aa a2).f0) Cg).f4),.int .i64 ((Da ((Ea Aa a2).f0) Cg).f5),.string ((Da ((Ea Aa a2).f0) Cg).f6)]] rfl (by (try simp only [List.map_toArray,List.map_cons,List.map_nil]);first|done|rfl|(simp only [List.length_drop,List.length_take];rfl)) ?_;(with_reducible refine (Rd.calls k1 (fun k_=>some k_=(.slice P9 TA.length b7:Value).ownBlock) (.slice P9 TA.length b7) TA ((Da ((Ea Aa a2).f0) Cg).f0) ((Da ((Ea Aa a2).f0) Cg).f1) ((Da ((Ea Aa a2).f0) Cg).f2) ((Da ((Ea Aa a2).f0) Cg).f3) ((Da ((Ea Aa a2).f0) Cg).f4) ((Da ((Ea Aa a2).f0) Cg).f5) ((Da ((Ea Aa a2).f0) Cg).f6) t107 w _ ?yc ?uc A14.out).mono ?_);(case yc=>repeat (first|(with_reducible first|exact HB.out|apply qa|apply ja|apply ta|refine ua ?_ Ta.out)|exact HB.out));(case uc=>exact Kd.Oq rfl Jk.out);rintro e sx ⟨rfl,hy0,hb,hkp⟩;refine ⟨_,rfl,?_⟩;have yb:=ga.mk (Kd.BU rfl hy0 (fun k_ e_=>Jk.out.1 k_ e_));have Ib:=ga.mk (Pf (by (with_reducible repeat (first|refine Ba ?_ _|refine Fa ?_|refine Ca ?_ _));exact oa.out) hkp (fun hs_=>(fun e_=>(Kd.Bl Jk.out oa.out (by decide)) e_) hs_));have Nb:=ga.mk (hb);clear Jk oa HB;have Jk:=yb;have oa:=Ib;have HB:=Nb;clear yb Ib Nb;(try clear hb);(try clear hkp);(try clear hy0)))
        go_roundg k1
        case measure=>have:=Xf.out;omega
        case rel=>exact ⟨(t107),(wrap64 (Cg - 1)),(by first|rfl|(simp;done)|(simp [*];done)),H',⟨by have:=Xf.out;omega⟩,⟨by (with_reducible repeat (first|apply Kd.Ab|apply Kd.zb|apply Kd.Pb));exact Jk.out⟩,⟨by (with_reducible repeat (first|refine Ba ?_ _|refine Fa ?_|refine Ca ?_ _));exact oa.out⟩,⟨by repeat (first|(with_reducible first|exact HB.out|apply qa|apply ja|apply ta|refine ua ?_ Ta.out)|exact HB.out)⟩⟩
       ·rw [if_neg nC] at H;exact absurd H (by simp)
      ·rw [if_neg wu] at H;exact absurd H (by simp)
     ·rw [if_neg oP] at H;have R1:decide (0 ≤ Cg)=false:=decide_eq_false oP;clear oP;obtain rfl:=Option.some.inj H;go_wp2;go_ret;exact ⟨_,by first|rfl|(simp [Oa,Na] <;> rfl)|(simp [*,Oa,Na] <;> rfl),by (with_reducible repeat (first|apply Kd.Ab|apply Kd.zb|apply Kd.Pb));exact Jk.out,by repeat (first|(with_reducible first|exact HB.out|apply qa|apply ja|apply ta|refine ua ?_ Ta.out)|exact HB.out)⟩
  ·rw [if_neg c6] at H;exact absurd H (by simp)
 ·rw [if_neg c5] at H;exact absurd H (by simp)
theorem xP {α:Type} (d:Kd α) (e:Nat) (w:World) (base:Nat) (h:base ≤ w.heap.size):d.R e (w.alloc (.cells #[] e (0,0))) base (fun _=>True) (.slice (some ⟨w.heap.size,0,none⟩) 0 0) []:=by
 refine ⟨fun _ _=>trivial,[],?_,⟨by simp,fun i p hp=>by simp at hp⟩⟩;have h2:=World.ownsRow_lit (base:=base) (e:=e) (size:=d.sz) w #[] 0 h (by simp [maxLen]) (by simp)
 simpa using h2
theorem q4 {α:Type} {d:Kd α} {e B:Nat} {ok:Nat→Prop} {W w':World} {v:Value} {xs:List α} (h:d.R e w' W.heap.size ok v xs) (hB:B ≤ W.heap.size):d.R e w' B (fun k=>W.heap.size ≤ k∧k < w'.heap.size) v xs :=
 Kd.we (Kd.Bd (Kd.xg h) (fun _ hk=>⟨hk.2.1,hk.2.2.1⟩)) hB
theorem gK {α:Type} {d:Kd α} {e B:Nat} {ok:Nat→Prop} {W w':World} {v:Value} {xs:List α} (h:Kd.S d e w' W.heap.size ok v xs) (hB:B ≤ W.heap.size):Kd.S d e w' B (fun k=>W.heap.size ≤ k∧k < w'.heap.size) v xs :=
 Kd.Yo (Kd.Mg (Kd.vt h) (fun _ hk=>⟨hk.2.1,hk.2.2.1⟩)) hB
theorem Y7 {α:Type} {d:Kd α} {et e base g n cap i:Nat} {W:World} {ok WJ:Nat→Prop} {D:List (List α)} {v:Value} {xs:List α} (h:Kd.S (Kd.slice et d) e W base (fun k=>ok k∧¬ WJ k) (.slice (some ⟨g,0,none⟩) n cap) D) (hg:∀ k,WJ k→ok k) (hi:i < n) (hx:Kd.R d et W base WJ v xs) :
  Kd.S (Kd.slice et d) e (W.setCell ⟨g,i,none⟩ v) base ok (.slice (some ⟨g,0,none⟩) n cap) (D.set i xs)∧W.grownBy (W.setCell ⟨g,i,none⟩ v) (some g):=by
 obtain ⟨Cl,c,uw,hM,dx,KY,tw,hH⟩:=Kd.Ww h ([]:List α) (i:Int) (by omega) (by omega);have hH2:=Kd.KU hH hg;have Jad:c.length=1:=uw
 obtain ⟨u,rfl⟩:∃ u,c=[u]:=by
  rcases c with _|⟨u,_|⟨u2,c⟩⟩
  ·simp at Jad
  ·exact ⟨u,rfl⟩
  ·simp at Jad
 have hs:=Kd.X7 (d:=Kd.slice et d) hH2 (by omega) (by omega) (seg:=[v]) (j:=0) (show 0 + 1 ≤ 1 from by decide) (x':=xs) (Tg:=WJ) (show (Kd.slice et d).M W base WJ xs [v] from ⟨v,rfl,hx⟩) (fun k hk=>Or.inr hk);rw [Int.toNat_natCast,show i * (Kd.slice et d).sz + 0=i from by show i * 1 + 0=i;omega] at hs;exact hs
theorem yU {α:Type} {enc:α→Value} {h1:∀ x,(enc x).oneCell' = true} {et e base g n cap i s:Nat} {W:World} {ok:Nat→Prop} {D:List (List α)} (z:α) (h:Kd.S (Kd.slice et (Kd.scalar enc h1)) e W base ok (.slice (some ⟨g,0,none⟩) n cap) D) (hi:i < n) (hs:s < (D.getD i []).length) :
  ∃ (gi c:Nat),W.cell? ⟨g,i,none⟩=some (.slice (some ⟨gi,0,none⟩) (D.getD i []).length c)∧ok gi∧W.cell? ⟨gi,s,none⟩=some (enc ((D.getD i []).getD s z))∧W.frozen? ⟨gi,s,none⟩=false ∧
   ∀ x,Kd.S (Kd.slice et (Kd.scalar enc h1)) e (W.setCell ⟨gi,s,none⟩ (enc x)) base ok (.slice (some ⟨g,0,none⟩) n cap) (D.set i ((D.getD i []).set s x))∧W.grownBy (W.setCell ⟨gi,s,none⟩ (enc x)) (some gi):=by
 obtain ⟨Cl,c,uw,hM,dx,KY,tw,hH⟩:=Kd.Ww h ([]:List α) (i:Int) (by omega) (by omega);rw [Int.toNat_natCast] at hM dx KY;obtain ⟨v,rfl,hR⟩:=hM;obtain ⟨gi,cc,rfl,-⟩:=Kd.Cm hR (by omega);have hb:=hR.1 gi rfl;have hc0:=dx 0 _ rfl;rw [show i * (Kd.slice et (Kd.scalar enc h1)).sz + 0=i from by show i * 1 + 0=i;omega] at hc0;obtain ⟨e1,e2⟩:=Kd.zk z hR (s:Int) (by omega) (by omega);rw [Int.toNat_natCast] at e1 e2;refine ⟨gi,cc,hc0,(tw gi hb).1,e1,e2,fun x=>?_⟩;obtain ⟨p1,p2⟩:=Kd.Hp hR (s:Int) x;rw [Int.toNat_natCast] at p1 p2;refine ⟨?_,p2⟩;have hH2:=Kd.GP hH p2 (fun k hk=>by injection hk with hk;rw [← hk];exact hb);have:=Kd.GD hH2 (x':=(D.getD i []).set s x) (show (Kd.slice et (Kd.scalar enc h1)).M _ base Cl ((D.getD i []).set s x) [.slice (some ⟨gi,0,none⟩) (D.getD i []).length cc] from ⟨_,rfl,p1⟩) (fun k hk=>hk)
 rwa [Int.toNat_natCast] at this
theorem Bz {α:Type} (d:Kd α) (e:Nat) (w:World) (base:Nat) (h:base ≤ w.heap.size):Kd.S d e (w.alloc (.cells #[] e (0,0))) base (fun k=>k=w.heap.size) (.slice (some ⟨w.heap.size,0,none⟩) 0 0) []:=by
 have h1:=xP (Kd.tag (fun _=>0) d) e w w.heap.size (Nat.le_refl _);refine ⟨fun _=>0,Kd.we (Kd.Bd (Kd.xg h1) (fun k hk=>?_)) h⟩;obtain ⟨_,h2,h3,_⟩:=hk;simp at h3;omega
theorem vU {α:Type} {d:Kd α} {et e base g n cap i:Nat} {W:World} {P:Nat→Prop} {D:List (List α)} (h:Kd.S (Kd.slice et d) e W base P (.slice (some ⟨g,0,none⟩) n cap) D) (hi:i < n) :
  ∃ (A:Option Addr) (c:Nat),W.cell? ⟨g,i,none⟩=some (.slice A (D.getD i []).length c)∧W.frozen? ⟨g,i,none⟩=false∧Kd.R d et W base (fun k=>P k∧k ≠ g∧base ≤ k∧k < W.heap.size) (.slice A (D.getD i []).length c) (D.getD i []):=by
 obtain ⟨Cl,c,uw,hM,dx,KY,tw,hH⟩:=Kd.Ww h ([]:List α) (i:Int) (by omega) (by omega);rw [Int.toNat_natCast] at hM dx KY;obtain ⟨v,hc,hR⟩:=hM;obtain ⟨A,cc,rfl⟩:=Kd.Zd hR;have h1:=dx 0 _ (by rw [hc];rfl);have h2:=KY 0;rw [show i * (Kd.slice et d).sz + 0=i from by show i * 1 + 0=i;omega] at h1 h2;exact ⟨A,cc,h1,h2,Kd.Bd (Kd.xg hR) (fun k hk=>⟨(tw k hk.1).1,(tw k hk.1).2,hk.2.1,hk.2.2.1⟩)⟩
structure Ip (w:World) (o:Obj) (PB:Nat→Prop) (vX vY:Value) (X Y:List (List Bool)) (wr:World):Prop where
 bl:Below w.heap.size w wr
 hx:wr.heap[w.heap.size]? = some o
 x:Kd.S (Kd.slice 4 Kd.bool) 60 wr w.heap.size PB vX X
 y:Kd.S (Kd.slice 4 Kd.bool) 60 wr w.heap.size (fun k=>¬ PB k∧w.heap.size < k) vY Y
 pb:∀ k,PB k→w.heap.size < k∧k < wr.heap.size
section
variable {w wr W w1:World} {o:Obj} {PB:Nat→Prop} {vX vY v1:Value} {X Y:List (List Bool)} {p:List Bool}
theorem Ip.below (h:Ip w o PB vX vY X Y wr) (hb:Below wr.heap.size wr W):Ip w o PB vX vY X Y W :=
 ⟨Qa h.bl hb,Va h.hx hb,Kd.Yd h.x hb,Kd.Yd h.y hb,fun k hk=>⟨(h.pb k hk).1,Nat.lt_of_lt_of_le (h.pb k hk).2 hb.size⟩⟩
theorem Ip.W7 (h:Ip w o PB vX vY X Y wr) (hb:Below wr.heap.size wr W) (hs:Kd.S (Kd.slice 4 Kd.bool) 60 w1 w.heap.size (fun k=>PB k ∨ wr.heap.size ≤ k) v1 (X ++ [p])) (hw:Below w.heap.size w w1) (hg:W.grownBy w1 vX.ownBlock) :
  Ip w o (fun k=>PB k ∨ (wr.heap.size ≤ k∧k < w1.heap.size)) v1 vY (X ++ [p]) Y w1:=by
 have h2:=h.below hb;have hsz:wr.heap.size ≤ w1.heap.size:=Nat.le_trans hb.size hg.size;have hown:∀ k,vX.ownBlock=some k→PB k:=(Kd.uI h.x).1;refine ⟨hw,?_,Kd.Mg (Kd.vt hs) (fun k hk=>hk.1.imp id (fun h3=>⟨h3,hk.2.2.1⟩)),?_,fun k hk=>?_⟩
 ·exact td h2.hx hg (fun e=>by have:=(h.pb _ (hown _ e.symm)).1;omega)
 ·refine Kd.Mg (Kd.oC (Kd.wU h.y hb) hg (fun k hk e=>hk.1.1 (hown k e.symm))) (fun k hk=>⟨fun h3=>h3.elim hk.1.1 (fun h4=>by have:=hk.2;omega),hk.1.2⟩)
 ·rcases hk with hk|hk
  ·have:=h.pb k hk;exact ⟨this.1,by omega⟩
  ·have:=Ec h.hx;exact ⟨by omega,hk.2⟩
theorem Ip.Iar (h:Ip w o PB vX vY X Y wr) (hb:Below wr.heap.size wr W) (hs:Kd.S (Kd.slice 4 Kd.bool) 60 w1 w.heap.size (fun k=>¬ PB k∧w.heap.size < k) v1 (Y ++ [p])) (hw:Below w.heap.size w w1) (hg:W.grownBy w1 vY.ownBlock) :
  Ip w o PB vX v1 X (Y ++ [p]) w1:=by
 have h2:=h.below hb;have hown:∀ k,vY.ownBlock=some k→¬ PB k∧w.heap.size < k:=(Kd.uI h.y).1;exact ⟨hw,td h2.hx hg (fun e=>by have:=(hown _ e.symm).2;omega),Kd.oC h2.x hg (fun k hk e=>(hown k e.symm).1 hk),hs,fun k hk=>⟨(h2.pb k hk).1,Nat.lt_of_lt_of_le (h2.pb k hk).2 hg.size⟩⟩
end
theorem Ip.okX {w wr W:World} {o:Obj} {PB:Nat→Prop} {vX vY:Value} {X Y:List (List Bool)} (h:Ip w o PB vX vY X Y wr) (hb:Below wr.heap.size wr W):Kd.S (Kd.slice 4 Kd.bool) 60 W w.heap.size (fun k=>(PB k ∨ wr.heap.size ≤ k)∧¬ wr.heap.size ≤ k) vX X :=
 Kd.Mg (Kd.wU h.x hb) (fun k hk=>⟨Or.inl hk.1,by have:=hk.2;omega⟩)
theorem Ip.neX {w wr:World} {o:Obj} {PB:Nat→Prop} {vX vY:Value} {X Y:List (List Bool)} (h:Ip w o PB vX vY X Y wr):∀ k,wr.heap.size ≤ k→(PB k ∨ wr.heap.size ≤ k)∧some k ≠ vX.ownBlock :=
 fun k hk=>⟨Or.inr hk,fun e=>by have:=(h.pb k ((Kd.uI h.x).1 k e.symm)).2;omega⟩
theorem Ip.frX {w wr W:World} {o:Obj} {PB:Nat→Prop} {vX vY:Value} {X Y:List (List Bool)} (_:Ip w o PB vX vY X Y wr) (hb:Below wr.heap.size wr W):∀ k,W.heap.size ≤ k→PB k ∨ wr.heap.size ≤ k:=fun _ hk=>Or.inr (Nat.le_trans hb.size hk)
theorem Ip.okY {w wr W:World} {o:Obj} {PB:Nat→Prop} {vX vY:Value} {X Y:List (List Bool)} (h:Ip w o PB vX vY X Y wr) (hb:Below wr.heap.size wr W):Kd.S (Kd.slice 4 Kd.bool) 60 W w.heap.size (fun k=>(¬ PB k∧w.heap.size < k)∧¬ wr.heap.size ≤ k) vY Y :=
 Kd.Mg (Kd.wU h.y hb) (fun k hk=>⟨hk.1,by have:=hk.2;omega⟩)
theorem Ip.neY {w wr:World} {o:Obj} {PB:Nat→Prop} {vX vY:Value} {X Y:List (List Bool)} (h:Ip w o PB vX vY X Y wr):∀ k,wr.heap.size ≤ k→(¬ PB k∧w.heap.size < k)∧some k ≠ vY.ownBlock :=
 fun k hk=>⟨⟨fun e=>by have:=(h.pb k e).2;omega,by have:=Ec h.hx;omega⟩,fun e=>by have:=Kd.Kar h.y k e.symm;omega⟩
theorem Ip.frY {w wr W:World} {o:Obj} {PB:Nat→Prop} {vX vY:Value} {X Y:List (List Bool)} (h:Ip w o PB vX vY X Y wr) (hb:Below wr.heap.size wr W):∀ k,W.heap.size ≤ k→¬ PB k∧w.heap.size < k:=fun k hk=>(h.neY k (Nat.le_trans hb.size hk)).1
theorem ZL {W:World} {base N:Nat} {ok:Nat→Prop} {v:Value} {xs:List Bool} (ho:Kd.R Kd.bool 4 W N ok v xs) (hl:base ≤ N):(Kd.slice 4 Kd.bool).M W base ok xs [v]:=⟨v,rfl,Kd.we ho hl⟩
theorem Ip.forms {w wr:World} {o:Obj} {PB:Nat→Prop} {vX vY:Value} {n m:Nat} (h:Ip w o PB vX vY (List.replicate m (List.replicate n false)) (List.replicate m (List.replicate n false)) wr) (hm:0 < m) :
  ∃ gX cX gY cY,vX = .slice (some ⟨gX,0,none⟩) m cX∧vY = .slice (some ⟨gY,0,none⟩) m cY:=by
 obtain ⟨gX,cX,e1,-⟩:=Kd.Vw h.x (by rw [List.length_replicate];exact hm);obtain ⟨gY,cY,e2,-⟩:=Kd.Vw h.y (by rw [List.length_replicate];exact hm);rw [List.length_replicate] at e1 e2;exact ⟨gX,cX,gY,cY,e1,e2⟩
theorem Ip.Uao {w wr:World} {o:Obj} {PB:Nat→Prop} {vY:Value} {X Y:List (List Bool)} {gX m cX i s:Nat} (h:Ip w o PB (.slice (some ⟨gX,0,none⟩) m cX) vY X Y wr) (hi:i < m) (hs:s < (ee X i).length) :
  ∃ (gi c:Nat),wr.cell? ⟨gX,i,none⟩=some (.slice (some ⟨gi,0,none⟩) (ee X i).length c)∧wr.cell? ⟨gi,s,none⟩=some (.bool (seen (ee X i) s))∧wr.frozen? ⟨gi,s,none⟩=false∧PB gi ∧
   ∀ b,Ip w o PB (.slice (some ⟨gX,0,none⟩) m cX) vY (X.set i ((ee X i).set s b)) Y (wr.setCell ⟨gi,s,none⟩ (.bool b)):=by
 obtain ⟨gi,c,h1,h2,h3,h4,h5⟩:=yU false h.x hi hs;refine ⟨gi,c,h1,h3,h4,h2,fun b=>?_⟩;obtain ⟨h6,hg⟩:=h5 b;have hb:=h.pb gi h2
 exact ⟨h.bl.grown hg (by omega) (fun k e=>by injection e with e;omega),td h.hx hg (fun e=>by injection e with e;omega),h6,
  Kd.oC h.y hg (fun k hk e=>by injection e with e;exact hk.1 (e ▸ h2)),fun k hk=>⟨(h.pb k hk).1,Nat.lt_of_lt_of_le (h.pb k hk).2 hg.size⟩⟩
theorem Ip.V_ {w wr W:World} {o:Obj} {PB:Nat→Prop} {vX v:Value} {X Y:List (List Bool)} {gY m cY i:Nat} {ok:Nat→Prop} {xs:List Bool} (h:Ip w o PB vX (.slice (some ⟨gY,0,none⟩) m cY) X Y wr) (hb:Below wr.heap.size wr W) (hi:i < m) (hR:Kd.R Kd.bool 4 W wr.heap.size ok v xs) :
  Ip w o PB vX (.slice (some ⟨gY,0,none⟩) m cY) X (Y.set i xs) (W.setCell ⟨gY,i,none⟩ v):=by
 have h2:=h.below hb;have hl:=Ec h.hx;obtain ⟨h6,hg⟩:=Y7 (WJ:=fun k=>wr.heap.size ≤ k) (h.okY hb) (fun k hk=>(h.neY k hk).1) hi (Kd.we (Kd.Bd (Kd.xg hR) (fun k hk=>hk.2.1)) (Nat.le_of_lt hl));have hy:=(Kd.uI h.y).1 gY rfl
 exact ⟨h2.bl.grown hg h2.bl.size (fun k e=>by injection e with e;omega),td h2.hx hg (fun e=>by injection e with e;omega),Kd.oC h2.x hg (fun k hk e=>by injection e with e;exact hy.1 (e ▸ hk)),h6,
  fun k hk=>⟨(h2.pb k hk).1,Nat.lt_of_lt_of_le (h2.pb k hk).2 hg.size⟩⟩
theorem Ip.Oao {w wr:World} {o:Obj} {PB:Nat→Prop} {vY:Value} {X Y:List (List Bool)} {gX m cX i:Nat} (h:Ip w o PB (.slice (some ⟨gX,0,none⟩) m cX) vY X Y wr) (hi:i < m) :
  ∃ (A:Option Addr) (c:Nat),wr.cell? ⟨gX,i,none⟩=some (.slice A (ee X i).length c)∧Kd.C Kd.bool wr A (ee X i).length (ee X i)∧(ee X i).length ≤ c:=by
 obtain ⟨A,c,h1,_,h2⟩:=vU h.x hi;exact ⟨A,c,h1,(Kd.Bc h2).2.2,(Kd.Bc h2).2.1⟩
theorem Ip.LV {w wr:World} {o:Obj} {PB:Nat→Prop} {vX:Value} {X Y:List (List Bool)} {gY m cY i:Nat} (h:Ip w o PB vX (.slice (some ⟨gY,0,none⟩) m cY) X Y wr) (hi:i < m) :
  ∃ (A:Option Addr) (c:Nat),wr.cell? ⟨gY,i,none⟩=some (.slice A (ee Y i).length c)∧wr.frozen? ⟨gY,i,none⟩=false∧(ee Y i).length ≤ c∧Kd.C Kd.bool wr A (ee Y i).length (ee Y i)∧∀ W,Kept wr W PB→Kd.C Kd.bool W A (ee Y i).length (ee Y i):=by
 obtain ⟨A,c,h1,hf,h2⟩:=vU h.y hi;exact ⟨A,c,h1,hf,(Kd.Bc h2).2.1,(Kd.Bc h2).2.2,Kd.PD (S:=PB) h2 (fun k hk=>hk.1.1)⟩
structure LvS (bs:List Re) (X Y:List (List Bool)) (C:Nat) (a:Bool) (q:Nat):Prop where
 le:C ≤ Cp Y
 lt:a=true→C < Cp Y
 so:a=false→∀ k,q ≤ k→k < bs.length→StE bs X Y k
structure r8 (bs:List Re) (n:Nat) (X0 Y:List (List Bool)) (i:Nat) (X:List (List Bool)):Prop where
 inv:VD bs n X Y
 oth:∀ k,k ≠ i→ee X k=ee X0 k
def qV (ts:List Int) (j:Nat) (Y X:List (List Bool)) (i:Nat):Prop:=∀ t ∈ ts.take j,∀ u,seen (ee Y t.toNat) u=true→seen (ee X i) u=true
def TkS (t s:Nat) (Y X:List (List Bool)) (i:Nat):Prop:=∀ u,u < s→seen (ee Y t) u=true→seen (ee X i) u=true
section
variable {bs:List Re} {n i s tn:Nat} {X0 X Y:List (List Bool)} {ts:List Int} {j:Nat}
theorem r8.step (h:r8 bs n X0 Y i X) (hE:Kz bs) (hi:i < bs.length) {t:Int} (ht:t ∈ Xq bs i) (htn:t=(tn:Int)) (hs:s < n) (hj:qV ts j Y X i) (hk:TkS tn s Y X i) :
  r8 bs n X0 Y i (X.set i ((ee X i).set s (seen (ee X i) s || seen (ee Y tn) s)))∧qV ts j Y (X.set i ((ee X i).set s (seen (ee X i) s || seen (ee Y tn) s))) i∧TkS tn (s + 1) Y (X.set i ((ee X i).set s (seen (ee X i) s || seen (ee Y tn) s))) i:=by
 have hil:i < X.length:=by rw [h.inv.xl];exact hi
 have JS:s < (ee X i).length:=by rw [h.inv.xr i hi];exact hs
 have h1:=h.inv.or hE hi ht hs;rw [htn,Int.toNat_natCast] at h1
 have hm:∀ u,seen (ee X i) u=true→seen (ee (X.set i ((ee X i).set s (seen (ee X i) s || seen (ee Y tn) s))) i) u=true:=fun u hu=>by
  rw [Yn hil,if_pos rfl,zi JS]
  by_cases e:s=u
  ·subst e;rw [if_pos rfl,hu];rfl
  ·rw [if_neg e];exact hu
 refine ⟨⟨h1,fun k hk=>?_⟩,fun t ht u hu=>hm u (hj t ht u hu),fun u hu hy=>?_⟩
 ·rw [Yn hil,if_neg (fun e=>hk e.symm)];exact h.oth k hk
 ·by_cases e:s=u
  ·subst e;rw [Yn hil,if_pos rfl,zi JS,if_pos rfl,hy,Bool.or_true]
  ·exact hm u (hk u (by omega) hy)
theorem qV.next (h:qV ts j Y X i) (hj:j < ts.length) (ht:ts[j]=(tn:Int)) (hk:TkS tn (ee Y tn).length Y X i):qV ts (j + 1) Y X i:=by
 intro t h1 u hu;rw [List.take_succ_eq_append_getElem hj,List.mem_append,List.mem_singleton] at h1
 rcases h1 with h1|h1
 ·exact h t h1 u hu
 ·rw [h1,ht,Int.toNat_natCast] at hu;exact hk u (Sk hu) hu
theorem LvS.next {C:Nat} {a:Bool} (h:LvS bs X0 Y C a (i + 1)) (hO:jo bs n) (hi:i < bs.length) (hr:r8 bs n X0 Y i X) (hj:qV (Xq bs i) (Xq bs i).length Y X i) :
  VD bs n X (Y.set i (KA (Ea bs (i:Int)) (ee X i)))∧LvS bs X (Y.set i (KA (Ea bs (i:Int)) (ee X i))) C (a || !decide (KA (Ea bs (i:Int)) (ee X i)=ee Y i)) i:=by
 have hil:i < Y.length:=by rw [hr.inv.yl];exact hi
 refine ⟨hr.inv.put hO hi,?_⟩
 by_cases he:KA (Ea bs (i:Int)) (ee X i)=ee Y i
 ·have hY:Y.set i (KA (Ea bs (i:Int)) (ee X i))=Y:=by
   rw [he];apply List.ext_getElem (by simp);intro k h1 h2;rw [List.getElem_set]
   by_cases e:i=k
   ·subst e;simp [ee,List.getD_eq_getElem?_getD,h2]
   ·rw [if_neg e]
  rw [hY,decide_eq_true he];refine ⟨h.le,fun ha=>h.lt (by simpa using ha),fun ha k hk1 hk2=>?_⟩
  by_cases e:k=i
  ·subst e;exact ⟨fun t ht u hu=>hj t (by rw [List.take_length];exact ht) u hu,he.symm⟩
  ·have:=h.so (by simpa using ha) k (by omega) hk2;unfold StE at this ⊢;rw [hr.oth k e];exact this
 ·have:=hr.inv.grow hO hi he;rw [decide_eq_false he];exact ⟨by have:=h.le;omega,fun _=>by have:=h.le;omega,fun ha=>by simp at ha⟩
end
theorem VD.cnt {bs:List Re} {n:Nat} {X Y:List (List Bool)} (h:VD bs n X Y):Cp Y ≤ n * bs.length:=by
 have:=QH (m:=n) Y (fun i hi=>by rw [h.yr i (by rw [← h.yl];exact hi)];exact Nat.le_refl _)
 rwa [h.yl] at this
abbrev RD (Xa:Option Addr) (n0 Ya:Nat) (La Ja:Int) (n:Nat) (Mb:Option Addr) (n4 Fb:Nat):Obj:=.cells #[.slice Xa n0 Ya,.int .i64 La,.int .i64 Ja,.int .i64 (n:Int),.slice Mb n4 Fb] 30 (0,0)
theorem JA {w wr:World} {PB:Nat→Prop} {vX vY:Value} {X Y:List (List Bool)} {Xa Mb:Option Addr} {n0 c0 n n4 c4:Nat} {a1 a2:Int} (h:Ip w (RD Xa n0 c0 a1 a2 n Mb n4 c4) PB vX vY X Y wr):wr.cell? ⟨w.heap.size,3,none⟩=some (.int .i64 (n:Int)):=(ia h.hx 3).trans rfl
theorem fS {w wr:World} {PB:Nat→Prop} {vX vY:Value} {X Y:List (List Bool)} {Xa Mb:Option Addr} {n0 c0 n n4 c4:Nat} {a1 a2:Int} (h:Ip w (RD Xa n0 c0 a1 a2 n Mb n4 c4) PB vX vY X Y wr):wr.cell? ⟨w.heap.size,4,none⟩=some (.slice Mb n4 c4):=(ia h.hx 4).trans rfl
theorem cW {bs:List Re} (hE:Kz bs) {b j:Nat} (hb:b < bs.length) (hj:j < (Xq bs b).length) {A:Option Addr} {W:World} (hC:Kd.C (Kd.int .i64) W A (Xq bs b).length (Xq bs b)) :
  ∃ (ad:Addr) (t:Nat),A=some ad∧(Xq bs b)[j]=(t:Int)∧t < bs.length∧W.cell? (ad.add j)=some (.int .i64 (t:Int)):=by
 obtain ⟨t0,t1⟩:=hE.2.2 b hb _ (List.getElem_mem hj);obtain ⟨ad,e1,hx⟩:=Kd.Ik hC (j:Int) (by omega) (by omega);rw [Int.toNat_natCast,qp hj] at hx;exact ⟨ad,((Xq bs b)[j]).toNat,e1,(Int.toNat_of_nonneg t0).symm,by omega,by rw [Int.toNat_of_nonneg t0];exact hx⟩
theorem Jx {xs:List Bool} {A:Option Addr} {W:World} {s:Nat} (hC:Kd.C Kd.bool W A xs.length xs) (hs:s < xs.length):∃ ad:Addr,A=some ad∧W.cell? (ad.add s)=some (.bool (seen xs s)):=by
 obtain ⟨ad,e1,hx⟩:=Kd.Rj hC (s:Int) (by omega) (by omega);rw [Int.toNat_natCast] at hx;exact ⟨ad,e1,hx⟩
def sr (code:List Be) (q:Nat) (s:List Bool):List Bool:=(code.drop q).foldr (fun x s=>Am s x) s
theorem cw (code:List Be) (q:Nat) (s:List Bool):(sr code q s).length=s.length:=vA _ _
theorem nt (code:List Be) (s:List Bool):sr code code.length s=s:=by unfold sr;rw [List.drop_length];rfl
theorem Fp {code:List Be} {q:Nat} (h:q < code.length) (s:List Bool):sr code q s=Am (sr code (q + 1) s) (Da code (q:Int)):=by
 unfold sr;rw [List.drop_eq_getElem_cons h,List.foldr_cons,Rq h]
theorem BD (b:Re) (s:List Bool):sr b.f0 0 (Sg b s)=KA b s:=rfl
theorem Yt {bs:List Re} {n i:Nat} (hO:jo bs n) (hi:i < bs.length):xu n (Ea bs (i:Int)):=by
 rw [th hi];exact hO.2.2 _ (List.getElem_mem hi)
theorem TC {n q:Nat} {b:Re} (h:xu n b) (hq:q < b.f0.length):bu n (Da b.f0 (q:Int)):=by
 rw [Rq hq];exact h.2.2 _ (List.getElem_mem hq)
theorem k8 {W:World} {base n c u:Nat} {ok:Nat→Prop} {A:Option Addr} {xs:List Bool} (h:Kd.R Kd.bool 4 W base ok (.slice A n c) xs) (hu:u < xs.length) :
  ∃ g,A=some ⟨g,0,none⟩∧base ≤ g∧W.cell? ⟨g,u,none⟩=some (.bool (seen xs u))∧W.frozen? ⟨g,u,none⟩=false∧∀ b,Kd.R Kd.bool 4 (W.setCell ⟨g,u,none⟩ (.bool b)) base ok (.slice A n c) (xs.set u b)∧W.grownBy (W.setCell ⟨g,u,none⟩ (.bool b)) (some g):=by
 obtain ⟨g,cap,e,hb,-⟩:=Kd.Cm h (by omega);injection e with e1 e2 e3
 subst e1;obtain ⟨r1,r2⟩:=Kd.zk false h (u:Int) (by omega) (by omega);rw [Int.toNat_natCast] at r1 r2;refine ⟨g,rfl,hb,r1,r2,fun b=>?_⟩;have:=Kd.Hp h (u:Int) b
 rwa [Int.toNat_natCast] at this
end Go.Proofs.Ytkigbdceceeenaa.P
end
section
namespace Go.Proofs.Ytkigbdceceeenaa.P
open Go.RowKit Go.Proofs.Pa.Ub Go.Proofs.Pa.Sd Go.Proofs.Pa.Xe
set_option linter.unusedVariables false
set_option linter.unusedSimpArgs false
theorem ij {i:Nat} (h:i ≤ 1048576):wrap64 ((i:Int) - 1)=(i:Int) - 1:=by unfold wrap64;omega
theorem succ_pred (i:Nat):((i + 1:Nat):Int) - 1=(i:Int):=by omega
theorem Wz (X:List (List Bool)) (i:Nat):Pd X (i:Int)=ee X i:=by unfold Pd ee;rw [Int.toNat_natCast]
def Wj (s:List Bool) (m:Nat):List Int:=((List.range m).filter (fun i=>seen s i)).map (fun (i:Nat)=>(i:Int))
theorem CE {s:List Bool} {m:Nat} (h:seen s m=true):Wj s (m + 1)=Wj s m ++ [(m:Int)]:=by
 unfold Wj;rw [List.range_succ,List.filter_append,List.map_append];simp [h]
theorem DE {s:List Bool} {m:Nat} (h:¬ seen s m=true):Wj s (m + 1)=Wj s m:=by
 unfold Wj;rw [List.range_succ,List.filter_append,List.map_append];simp [h]
theorem Iu (s:List Bool) (m:Nat):(Wj s m).length ≤ m:=by
 unfold Wj;rw [List.length_map];exact Nat.le_trans (List.length_filter_le _ _) (Nat.le_of_eq List.length_range)
theorem jE (s:List Bool) (hm:s.length ≤ 1048576):∀ (d i:Nat),i + d=s.length→Ev (fun k=>Jd.l0 k (Wj s i) s (s.length:Int) (i:Int)) (Wj s s.length):=by
 intro d
 induction d with
 | zero =>
  intro i hi;obtain rfl:i=s.length:=by omega
  refine Ev.step (fun k=>by rw [Jd.l0]) ?_;exact Ev.neg (by omega) (Ev.now _)
 | succ d ih =>
  intro i hi;have hl:=Iu s i;have h:=ih (i + 1) (by omega);refine Ev.step (fun k=>by rw [Jd.l0]) ?_;refine Ev.pos (by omega) (Ev.pos (by omega) (Ev.pos (by omega) ?_));rw [Ix,De (show i < s.length by omega) (by omega)]
  by_cases hs:seen s i=true
  ·rw [CE hs] at h;exact Ev.pos hs (Ev.pos (by omega) h)
  ·rw [DE hs] at h;exact Ev.neg hs h
theorem mD (s:List Bool) (hm:s.length ≤ 1048576):Ev (fun k=>Jd.f k s) (Wj s s.length):=jE s hm s.length 0 (by omega)
theorem vJ (b:Re) (s:List Bool) (hb:xu s.length b) (x:List Bool) (hx:x.length=s.length):∀ (q:Nat),q ≤ b.f0.length→Ev (fun k=>Mf.l0 k (sr b.f0 q x) ((q:Int) - 1) b.f0 b.f1 b.f2 b.f3 b.f4) (sr b.f0 0 x):=by
 intro q
 induction q with
 | zero =>
  intro _;refine Ev.step (fun k=>by rw [Mf.l0]) ?_;exact Ev.neg (by omega) (Ev.now _)
 | succ q ih =>
  intro hq;have h1:=hb.1;have he:=BJ (sr b.f0 (q + 1) x) (Da b.f0 (q:Int)) (by rw [cw,hx];exact TC hb (by omega));rw [← Fp (by omega)] at he;refine Ev.step (fun k=>by rw [Mf.l0]) ?_;rw [succ_pred];refine Ev.pos (by omega) (Ev.pos (by omega) (Ev.pos (by omega) (Ev.bind he ?_)));rw [ij (by omega)];exact ih (by omega)
theorem WT (b:Re) (s:List Bool) (hb:xu s.length b) (hs:s.length ≤ 1048576):Ev (fun k=>Mf.f k b.f0 b.f1 b.f2 b.f3 b.f4 s) (KA b s):=by
 have hl:=vJ b s hb (Sg b s) (Nk b s) b.f0.length (Nat.le_refl _);rw [nt,BD] at hl;have h1:=hb.1
 have he:kg.f b.f0 b.f1 b.f2 b.f3 b.f4 s=some (Sg b s):=by
  unfold kg.f Sg;rw [Option.bind_some,if_pos (by simp;omega),Option.bind_some,List.nil_append]
  by_cases hf:b.f1=0
  ·rw [if_pos hf,if_pos hf]
  ·have:=hb.2.1 hf;rw [if_neg hf,if_neg hf,if_pos (by omega),if_pos (by omega)]
 unfold Mf.f;refine Ev.bind (Ev.here he) ?_;rw [ij h1];exact hl
theorem KH (b:Re) (s:List Bool) (hb:xu s.length b) (x:List Bool) (hx:x.length=s.length):∀ (q:Nat),q ≤ b.f0.length→Ev (fun k=>jf.l0 k (sr b.f0 q x) b.f0 ((q:Int) - 1)) (sr b.f0 0 x):=by
 intro q
 induction q with
 | zero =>
  intro _;refine Ev.step (fun k=>by rw [jf.l0]) ?_;exact Ev.neg (by omega) (Ev.now _)
 | succ q ih =>
  intro hq;have h1:=hb.1;have he:=LH (sr b.f0 (q + 1) x) (Da b.f0 (q:Int)) (by rw [cw,hx];exact TC hb (by omega));rw [← Fp (by omega)] at he;refine Ev.step (fun k=>by rw [jf.l0]) ?_;rw [succ_pred];refine Ev.pos (by omega) (Ev.pos (by omega) (Ev.pos (by omega) (Ev.bind he ?_)));rw [ij (by omega)];exact ih (by omega)
theorem UC {bs:List Re} {n i:Nat} (hO:jo bs n) (hi:i < bs.length) (X:List (List Bool)) (hX:X.length=bs.length) (hr:(ee X i).length=n) (l0:List Int) (p v s:Int):Mh.f l0 p v s bs X (i:Int)=some (Sg (Ea bs (i:Int)) (ee X i)):=by
 have hb:=Yt hO hi;have hn:=hO.2.1;unfold Mh.f Sg;rw [Wz,Option.bind_some,if_pos (by omega),if_pos (by omega),if_pos (by simp;omega),Option.bind_some,List.nil_append,if_pos (by omega)]
 by_cases hf:(Ea bs (i:Int)).f1=0
 ·rw [if_pos hf,if_pos hf]
 ·have:=hb.2.1 hf;rw [if_neg hf,if_neg hf,if_pos (by omega),if_pos (by omega)]
theorem RQ {bs:List Re} {n i:Nat} (hO:jo bs n) (hi:i < bs.length) (X:List (List Bool)) (hX:X.length=bs.length) (hr:(ee X i).length=n) (l0:List Int) (p v s:Int):Ev (fun k=>jf.f k l0 p v s bs X (i:Int)) (KA (Ea bs (i:Int)) (ee X i)):=by
 have hb:=Yt hO hi;have hl:=KH (Ea bs (i:Int)) (ee X i) (by rw [hr];exact hb) (Sg (Ea bs (i:Int)) (ee X i)) (Nk _ _) _ (Nat.le_refl _);rw [nt,BD] at hl;unfold jf.f;refine Ev.bind (Ev.here (UC hO hi X hX hr l0 p v s)) ?_;refine Ev.pos (by omega) (Ev.pos (by omega) ?_);rw [ij hb.1];exact hl
structure uU (bs:List Re) (n:Nat) (X:List (List Bool)):Prop where
 len:X.length=bs.length
 row:∀ i,i < bs.length→(ee X i).length=n
 so:∀ i u,i < bs.length→seen (ee X i) u=true→LB bs u i
def StS (bs:List Re) (X:List (List Bool)) (i:Nat):Prop:=∀ t ∈ Xq bs i,∀ u,seen (KA (Ea bs t) (ee X t.toNat)) u=true→seen (ee X i) u=true
structure aZ (bs:List Re) (n:Nat) (X0 X:List (List Bool)) (a:Bool):Prop where
 inv:uU bs n X
 le:Cp X0 ≤ Cp X
 lt:a=true→Cp X0 < Cp X
 eq:a=false→X=X0
section
variable {bs:List Re} {n:Nat} {X0 X:List (List Bool)} {a:Bool}
theorem uU.Z_ (h:uU bs n X) (hO:jo bs n) {i:Nat} {t:Int} (hi:i < bs.length) (ht:t ∈ Xq bs i) {u:Nat} (hu:seen (KA (Ea bs t) (ee X t.toNat)) u=true):LB bs u i:=by
 obtain ⟨t0,t1⟩:=hO.1.2.2 i hi t ht;have htn:t.toNat < bs.length:=by omega
 have hb:=Yt hO htn;rw [Int.toNat_of_nonneg t0] at hb;rw [Zt (by rw [h.row _ htn];exact hb)] at hu;cases hc:seen (ee X t.toNat) u with
 | false=>rw [hc] at hu;exact LB.gen ht hu
 | true=>rw [hc] at hu;exact LB.step ht hu (h.so _ u htn hc)
theorem aZ.put (h:aZ bs n X0 X a) {i s:Nat} (hi:i < bs.length) (hs:s < n) (hb:LB bs s i) (hns:¬ seen (ee X i) s=true):aZ bs n X0 (X.set i ((ee X i).set s true)) true:=by
 have hil:i < X.length:=by rw [h.inv.len];exact hi
 have JS:s < (ee X i).length:=by rw [h.inv.row i hi];exact hs
 have h1:=uD X i ((ee X i).set s true) hil
 have h2:=(qL (ee X i) ((ee X i).set s true) (by rw [List.length_set]) (fun u hu=>by
  rw [zi JS]
  by_cases e:s=u
  ·rw [if_pos e]
  ·rw [if_neg e];exact hu)).2 (fun e=>hns (by rw [e,zi JS,if_pos rfl]))
 have h3:=h.le;refine ⟨⟨by rw [List.length_set];exact h.inv.len,fun k hk=>?_,fun k u hk hu=>?_⟩,by omega,fun _=>by omega,fun e=>by cases e⟩
 ·rw [Yn hil]
  by_cases e:i=k
  ·rw [if_pos e,List.length_set];exact h.inv.row i hi
  ·rw [if_neg e];exact h.inv.row k hk
 ·rw [Yn hil] at hu
  by_cases e:i=k
  ·subst e;rw [if_pos rfl,zi JS] at hu
   by_cases e2:s=u
   ·subst e2;exact hb
   ·rw [if_neg e2] at hu;exact h.inv.so i u hk hu
  ·rw [if_neg e] at hu;exact h.inv.so k u hk hu
theorem uU.done (h:uU bs n X) (hO:jo bs n) (hst:∀ i,i < bs.length→StS bs X i):X=Ke bs n:=by
 have hE:=hO.1
 have key:∀ u i,LB bs u i→i < bs.length→seen (ee X i) u=true:=by
  intro u i hl
  have turn:∀ (i:Nat) (t:Int),i < bs.length→t ∈ Xq bs i→jV u (Ea bs t) (seen (ee X t.toNat) u)=true→seen (ee X i) u=true:=by
   intro i t hi ht h1;obtain ⟨t0,t1⟩:=hE.2.2 i hi t ht;have htn:t.toNat < bs.length:=by omega
   have hb:=Yt hO htn;rw [Int.toNat_of_nonneg t0] at hb;refine hst i hi t ht u ?_;rw [Zt (by rw [h.row _ htn];exact hb)];exact h1
  induction hl with
  | @gen i t ht h1 =>
   intro hi;exact turn i t hi ht (au (fun hf=>by cases hf) h1)
  | @step i t ht h1 _ ih =>
   intro hi;obtain ⟨t0,t1⟩:=hE.2.2 i hi t ht;exact turn i t hi ht (au (fun _=>ih (by omega)) h1)
 apply List.ext_getElem
 ·rw [h.len,Di]
 ·intro i h1 h2;have hi:i < bs.length:=by rw [← h.len];exact h1
  have e1:X[i]=ee X i:=by simp [ee,List.getD_eq_getElem?_getD,h1]
  have e2:(Ke bs n)[i]=Jl bs n i:=by simp [Ke]
  rw [e1,e2];refine JC (by rw [h.row i hi,Ji]) (fun u=>?_)
  constructor
  ·intro hu;have hun:u < n:=by have:=Sk hu;rw [h.row i hi] at this;exact this
   exact (Bo hun).2 (h.so i u hi hu)
  ·intro hu;have hun:u < n:=by have:=Sk hu;rw [Ji] at this;exact this
   exact key u i ((Bo hun).1 hu) hi
theorem uU.start (bs:List Re) (n:Nat):uU bs n (List.replicate bs.length (List.replicate n false)) :=
 ⟨(VD.start bs n).xl,(VD.start bs n).xr,(VD.start bs n).xs⟩
theorem uU.cnt (h:uU bs n X):Cp X ≤ n * bs.length:=by
 have:=QH (m:=n) X (fun i hi=>by rw [h.row i (by rw [← h.len];exact hi)];exact Nat.le_refl _)
 rwa [h.len] at this
end
section
variable {bs:List Re} {n:Nat} (l0:List Int) (p v:Int) {R:List (List Bool)} {X0:List (List Bool)}
theorem fL {Q:Prop} {i j:Nat} {ts:List Int} {t:List Bool} (hO:jo bs n) (hi:i < bs.length) (htl:t.length=n) (hso:∀ u,seen t u=true→LB bs u i)
  (hK:∀ X a,aZ bs n X0 X a→(a=false→Q)→(a=false→∀ u,u < n→seen t u=true→seen (ee X0 i) u=true)→Ev (fun k=>gb.l3 k X a (i:Int) ts (wrap64 ((j:Int) + 1)) l0 p v (n:Int) bs) R) :
  ∀ (d s:Nat) (X:List (List Bool)) (a:Bool),s + d=n→aZ bs n X0 X a→(a=false→Q)→(a=false→∀ u,u < s→seen t u=true→seen (ee X0 i) u=true)→Ev (fun k=>gb.l4 k X a (i:Int) ts (j:Int) t (s:Int) l0 p v (n:Int) bs) R:=by
 intro d
 induction d with
 | zero =>
  intro s X a hs hP hQ hD;obtain rfl:s=n:=by omega
  refine Ev.step (fun k=>by rw [gb.l4]) ?_;exact Ev.neg (by omega) (hK X a hP hQ hD)
 | succ d ih =>
  intro s X a hs hP hQ hD;have hsn:s < n:=by omega
  have hn:=hO.2.1;have hxl:=hP.inv.len;have hxr:=hP.inv.row i hi;refine Ev.step (fun k=>by rw [gb.l4]) ?_;refine Ev.pos (by omega) (Ev.pos (by omega) (Ev.pos (by omega) ?_));rw [Ix,De hsn (by omega),Wz,Ix,Int.toNat_natCast,Int.toNat_natCast]
  by_cases hts:seen t s=true
  ·refine Ev.pos hts (Ev.pos (by omega) (Ev.pos (by omega) (Ev.pos (by omega) ?_)))
   by_cases hx:seen (ee X i) s=true
   ·refine Ev.pos hx (ih (s + 1) X a (by omega) hP hQ (fun ha u hu hu2=>?_))
    by_cases e:u=s
    ·subst e;rw [← hP.eq ha];exact hx
    ·exact hD ha u (by omega) hu2
   ·exact Ev.neg hx (ih (s + 1) _ true (by omega) (hP.put hi hsn (hso s hts) hx) (fun ha=>by cases ha) (fun ha=>by cases ha))
  ·refine Ev.neg hts (ih (s + 1) X a (by omega) hP hQ (fun ha u hu hu2=>?_))
   by_cases e:u=s
   ·subst e;exact absurd hu2 hts
   ·exact hD ha u (by omega) hu2
theorem gL {Q:Prop} {i:Nat} (hO:jo bs n) (hi:i < bs.length)
  (hK:∀ X a,aZ bs n X0 X a→(a=false→Q)→(a=false→StS bs X0 i)→Ev (fun k=>gb.l2 k X a (wrap64 ((i:Int) - 1)) l0 p v (n:Int) bs) R) :
  ∀ (d j:Nat) (X:List (List Bool)) (a:Bool),j + d=(Xq bs i).length→aZ bs n X0 X a→(a=false→Q)→(a=false→∀ t ∈ (Xq bs i).take j,∀ u,seen (KA (Ea bs t) (ee X0 t.toNat)) u=true→seen (ee X0 i) u=true)→Ev (fun k=>gb.l3 k X a (i:Int) (Xq bs i) (j:Int) l0 p v (n:Int) bs) R:=by
 have h2:(Xq bs i).length ≤ 2:=nJ _;intro d
 induction d with
 | zero =>
  intro j X a hj hP hQ hD;obtain rfl:j=(Xq bs i).length:=by omega
  refine Ev.step (fun k=>by rw [gb.l3]) ?_;refine Ev.neg (by omega) (hK X a hP hQ (fun ha t ht=>hD ha t (by rw [List.take_length];exact ht)))
 | succ d ih =>
  intro j X a hj hP hQ hD;have hjl:j < (Xq bs i).length:=by omega
  have hn:=hO.2.1;have htm:=List.getElem_mem hjl;obtain ⟨t0,t1⟩:=hO.1.2.2 i hi _ htm;have hxl:=hP.inv.len;obtain ⟨tn,htn⟩:∃ tn:Nat,(Xq bs i)[j]=(tn:Int):=⟨_,(Int.toNat_of_nonneg t0).symm⟩;have htb:tn < bs.length:=by omega
  have hb:=Yt hO htb;have hr:=hP.inv.row tn htb;refine Ev.step (fun k=>by rw [gb.l3]) ?_;rw [qp hjl,htn,Wz];refine Ev.pos (by omega) (Ev.pos (by omega) (Ev.pos (by omega) (Ev.pos (by omega) (Ev.pos (by omega) (Ev.bind (WT _ (ee X tn) (by rw [hr];exact hb) (by omega)) ?_)))));refine fL l0 p v (X0:=X0) (Q:=a=false) hO hi (by rw [Xp];exact hr) (fun u hu=>hP.inv.Z_ hO hi htm (by rw [htn,Int.toNat_natCast];exact hu)) (fun X' a' OY hQ' hD'=>?_) n 0 X a (by omega) hP id (fun ha u hu=>by omega);rw [De hjl (by omega)];refine ih (j + 1) X' a' (by omega) OY (fun ha=>hQ (hQ' ha)) (fun ha t ht u hu=>?_);have hX:=hP.eq (hQ' ha);rw [List.take_succ_eq_append_getElem hjl,List.mem_append,List.mem_singleton] at ht
  rcases ht with ht|ht
  ·exact hD (hQ' ha) t ht u hu
  ·rw [ht,htn,Int.toNat_natCast,← hX] at hu;have hun:u < n:=by have:=Sk hu;rw [Xp,hr] at this;exact this
   exact hD' ha u hun hu
theorem iL (hO:jo bs n)
  (hK:∀ X a,aZ bs n X0 X a→(a=false→∀ i,i < bs.length→StS bs X0 i)→Ev (fun k=>gb.l1 k X a l0 p v (n:Int) bs) R) :
  ∀ (q:Nat) (X:List (List Bool)) (a:Bool),q ≤ bs.length→aZ bs n X0 X a→(a=false→∀ i,q ≤ i→i < bs.length→StS bs X0 i)→Ev (fun k=>gb.l2 k X a ((q:Int) - 1) l0 p v (n:Int) bs) R:=by
 intro q
 induction q with
 | zero =>
  intro X a hq hP hD;refine Ev.step (fun k=>by rw [gb.l2]) ?_;exact Ev.neg (by omega) (hK X a hP (fun ha i hi=>hD ha i (Nat.zero_le _) hi))
 | succ q ih =>
  intro X a hq hP hD;have hb:=hO.1.2.1;refine Ev.step (fun k=>by rw [gb.l2]) ?_;rw [succ_pred];refine Ev.pos (by omega) (Ev.pos (by omega) (Ev.pos (by omega) (Ev.bind (Ev.here (oQ (Ea bs (q:Int)))) ?_)));refine gL l0 p v (X0:=X0) (Q:=a=false) hO (show q < bs.length by omega) (fun X' a' OY hQ' hD'=>?_) _ 0 X a (Nat.zero_add _) hP id (fun _ t ht=>by simp at ht);rw [ij (by omega)];refine ih X' a' (by omega) OY (fun ha i hi1 hi2=>?_)
  by_cases e:i=q
  ·subst e;exact hD' ha
  ·exact hD (hQ' ha) i (by omega) hi2
theorem jL (hO:jo bs n):∀ (m:Nat) (X:List (List Bool)) (a:Bool),n * bs.length - Cp X + (if a=true then 1 else 0) ≤ m→uU bs n X→(a=false→∀ i,i < bs.length→StS bs X i)→Ev (fun k=>gb.l1 k X a l0 p v (n:Int) bs) (Ke bs n):=by
 intro m
 induction m with
 | zero =>
  intro X a hm hI hD;cases a with
  | true=>rw [if_pos rfl] at hm;omega
  | false =>
   rw [← hI.done hO (hD rfl)];refine Ev.step (fun k=>by rw [gb.l1]) ?_;exact Ev.neg (by simp) (Ev.now _)
 | succ m ih =>
  intro X a hm hI hD;cases a with
  | false =>
   rw [← hI.done hO (hD rfl)];refine Ev.step (fun k=>by rw [gb.l1]) ?_;exact Ev.neg (by simp) (Ev.now _)
  | true =>
   rw [if_pos rfl] at hm;refine Ev.step (fun k=>by rw [gb.l1]) ?_;refine Ev.pos rfl ?_;rw [ij hO.1.2.1];refine iL l0 p v (X0:=X) hO (fun X' a' OY hD'=>?_) _ X false (Nat.le_refl _) ⟨hI,Nat.le_refl _,(fun e=>by cases e),(fun _=>rfl)⟩ (fun _ i h1 h2=>by omega);have hc:=OY.inv.cnt;refine ih X' a' ?_ OY.inv (fun ha=>?_)
   ·cases a' with
    | true=>have:=OY.lt rfl;rw [if_pos rfl];omega
    | false=>have:=OY.le;rw [if_neg (by simp)];omega
   ·rw [OY.eq ha];exact hD' ha
theorem kL (hO:jo bs n):∀ (d j:Nat),j + d=bs.length→Ev (fun k=>gb.l0 k (List.replicate j (List.replicate n false)) (j:Int) l0 p v (n:Int) bs) (Ke bs n):=by
 have hb:=hO.1.2.1;have hn:=hO.2.1;intro d
 induction d with
 | zero =>
  intro j hj;obtain rfl:j=bs.length:=by omega
  refine Ev.step (fun k=>by rw [gb.l0]) ?_;exact Ev.neg (by omega) (jL l0 p v hO _ _ true (Nat.le_refl _) (uU.start bs n) (fun e=>by cases e))
 | succ d ih =>
  intro j hj;have h:=ih (j + 1) (by omega);rw [List.replicate_succ'] at h;refine Ev.step (fun k=>by rw [gb.l0]) ?_;rw [Int.toNat_natCast,De (show j < bs.length by omega) (by omega)];exact Ev.pos (by omega) (Ev.pos (by omega) (Ev.pos (by omega) (Ev.pos (by rw [List.length_replicate];omega) h)))
theorem YK (hO:jo bs n):Ev (fun k=>gb.f k l0 p v (n:Int) bs) (Ke bs n):=kL l0 p v hO bs.length 0 (by omega)
end
end Go.Proofs.Ytkigbdceceeenaa.P
end
section
namespace Go.Proofs.Ytkigbdceceeenaa.P
open Go.RowKit Go.Proofs.Pa.Ub Go.Proofs.Pa.Sd Go.Proofs.Pa.Xe
set_option linter.unusedVariables false
set_option linter.unusedSimpArgs false
attribute [local go_sem] Jh Bi tj nk wh uh Ci Ai
def Sb.l0:Nat→List Bool→List Bool→Int→Int→Option (Bool)
 | 0,_,_,_,_=>none
 | k + 1,x0,x1,I_,jQ=>if jQ < I_ then (if 0 ≤ jQ then (if jQ < (x0.length:Int) then (if jQ < (x1.length:Int) then (if ((lg false x0 jQ) != (lg false x1 jQ))=true then (some false) else (Sb.l0 k x0 x1 I_ (wrap64 (jQ + 1)))) else (none)) else (none)) else (none)) else (some true)
def Sb.f (k:Nat) (l0:List Bool) (l1:List Bool):Option (Bool):=if (l0.length:Int)=(l1.length:Int) then (Sb.l0 k l0 l1 (l0.length:Int) 0) else (some false)
theorem Sb.QC:∀ k,(∀ y0 y1 y2 y3,Dm (Sb.l0 k y0 y1 y2 y3) (Sb.l0 (k + 1) y0 y1 y2 y3))
 | 0=>fun _ _ _ _ r h=>by simp [Sb.l0] at h
 | k + 1=>by
  have sS:=Sb.QC k
  ·intro y0 y1 y2 y3;unfold Sb.l0
   repeat' first
   | (with_reducible exact sS _ _ _ _)
   | (with_reducible exact Dm.refl _)
   | (with_reducible exact Dm.none _)
   | (with_reducible refine Dm.ite ?_ ?_)
   | (with_reducible refine Dm.bind ?_ (fun _=>?_))
   | exact sS _ _ _ _
   | exact Dm.none _
   | refine Dm.ite ?_ ?_
   | refine Dm.bind ?_ (fun _=>?_)
theorem Sb.mono:∀ a0 a1 k,Dm (Sb.f k a0 a1) (Sb.f (k + 1) a0 a1):=by
 intro a0 a1 k;have sS:=Sb.QC k;unfold Sb.f
 repeat' first
   | (with_reducible exact sS _ _ _ _)
   | (with_reducible exact Dm.refl _)
   | (with_reducible exact Dm.none _)
   | (with_reducible refine Dm.ite ?_ ?_)
   | (with_reducible refine Dm.bind ?_ (fun _=>?_))
   | exact sS _ _ _ _
   | exact Dm.none _
   | refine Dm.ite ?_ ?_
   | refine Dm.bind ?_ (fun _=>?_)
theorem Sb.calls (k:Nat) (A0:Option Addr) (c0:Nat) (l0:List Bool) (A1:Option Addr) (c1:Nat) (l1:List Bool) (r:Bool) (w:World) (Ck:Kd.C Kd.bool w A0 l0.length l0) (hc0:l0.length ≤ c0) (Zq:Kd.C Kd.bool w A1 l1.length l1) (Vn:l1.length ≤ c1) (h:Sb.f k l0 l1=some r) :
  Calls Try.prog 80 #[.slice A0 l0.length c0,.slice A1 l1.length c1] w fun e w'=>e = .returned (.bool r)∧ec w w':=by
 have fl:=ga.mk Ck;have dI:=ga.mk hc0;clear Ck hc0;have gx:=ga.mk Zq;have ZP:=ga.mk Vn;clear Zq Vn;have H:(if (l0.length:Int)=(l1.length:Int) then (Sb.l0 k l0 l1 (l0.length:Int) 0) else (some false))=some r:=h;clear h
 by_cases c3:(l0.length:Int)=(l1.length:Int)
 ·rw [if_pos c3] at H;have Vg:((l0.length:Int) == (l1.length:Int))=true:=beq_iff_eq.mpr c3;have Mp:((l0.length:Int) != (l1.length:Int))=false:=bne_eq_false_iff_eq.mpr c3;have yz:(l0.length == l1.length)=true:=by first|simpa using c3|(simp at c3 ⊢;omega)
  clear c3;have H':=ga.mk H;clear H;go_enter Try.func80,Try.ntmps80;go_wp2
  repeat (go_quiet (fail);try go_wp2)
  go_loopg [13] k (fun kq Z3 w'=>∃ (Ce:Int),Z3 = .int .i64 Ce∧ga (Sb.l0 kq l0 l1 (l0.length:Int) Ce=some r)∧ga (kq ≤ k)∧ec w w')
  case atStart=>exact ⟨(0),(by first|rfl|(simp;done)|(simp [*];done)),H',⟨Nat.le_refl _⟩,by repeat (first|exact ec.refl _|apply ec.step)⟩
  case round =>
   clear H'
   try clear c1
   try clear p2
   try clear c3
   try clear Vg
   try clear Mp
   try clear yz
   (try clear HA);(try clear Xf);obtain ⟨Ce,rfl,HA,Xf,⟨m1,rfl⟩⟩:=hrel;cases gk with
   | zero=>exact absurd HA.out (by simp [Sb.l0])
   | succ k1 =>
    have H:=HA.out;clear HA;simp only [Sb.l0] at H
    by_cases c4:Ce < (l0.length:Int)
    ·rw [if_pos c4] at H;have cj:decide (Ce < (l0.length:Int))=true:=decide_eq_true c4;clear c4
     by_cases c5:0 ≤ Ce
     ·rw [if_pos c5] at H;have Ui:decide (0 ≤ Ce)=true:=decide_eq_true c5;clear c5
      by_cases c6:Ce < (l0.length:Int)
      ·rw [if_pos c6] at H;have zm:decide (Ce < (l0.length:Int))=true:=decide_eq_true c6;clear c6
       by_cases c7:Ce < (l1.length:Int)
       ·rw [if_pos c7] at H;have Ek:decide (Ce < (l1.length:Int))=true:=decide_eq_true c7;clear c7
        by_cases c8:((lg false l0 Ce) != (lg false l1 Ce))=true
        ·rw [if_pos c8] at H;have Uq:((lg false l0 Ce) != (lg false l1 Ce))=true:=c8;(try (have CJ:decide ((lg false l0 Ce)=(lg false l1 Ce))=false:=by simpa using c8));(try (have xae:((lg false l0 Ce) == (lg false l1 Ce))=false:=by simpa using c8));(try (have Caz:¬ ((lg false l0 Ce)=(lg false l1 Ce)):=by simpa using c8));clear c8;obtain rfl:=Option.some.inj H;have We:0 ≤ (Ce:Int):=Ua;have Ve:Ce < (l0.length:Int):=Ua;obtain ⟨Ae,ki,Td⟩:=Kd.Rj fl.out Ce We Ve;cases ki;replace We:=eq_true We;replace Ve:=eq_true Ve;have ah:0 ≤ (Ce:Int):=Ua;have Zg:Ce < (l1.length:Int):=Ua;obtain ⟨ef,zp,bf⟩:=Kd.Rj gx.out Ce ah Zg;cases zp;replace ah:=eq_true ah;replace Zg:=eq_true Zg;go_wp2
         repeat (go_quiet (fail);try go_wp2)
         go_ret;exact ⟨by first|rfl|(simp;done)|(simp [*];done),by repeat (first|exact ec.refl _|apply ec.step)⟩
        ·rw [if_neg c8] at H;have Uq:((lg false l0 Ce) != (lg false l1 Ce))=false:=by simpa using c8
         (try (have CJ:decide ((lg false l0 Ce)=(lg false l1 Ce))=true:=by simpa using c8));(try (have xae:((lg false l0 Ce) == (lg false l1 Ce))=true:=by simpa using c8));clear c8;have H':=ga.mk H;clear H;have We:0 ≤ (Ce:Int):=Ua;have Ve:Ce < (l0.length:Int):=Ua;obtain ⟨Ae,ki,Td⟩:=Kd.Rj fl.out Ce We Ve;cases ki;replace We:=eq_true We;replace Ve:=eq_true Ve;have ah:0 ≤ (Ce:Int):=Ua;have Zg:Ce < (l1.length:Int):=Ua;obtain ⟨ef,zp,bf⟩:=Kd.Rj gx.out Ce ah Zg;cases zp;replace ah:=eq_true ah;replace Zg:=eq_true Zg;go_wp2
         repeat (go_quiet (fail);try go_wp2)
         go_roundg k1
         case measure=>have:=Xf.out;omega
         case rel=>exact ⟨(wrap64 (Ce + 1)),(by first|rfl|(simp;done)|(simp [*];done)),H',⟨by have:=Xf.out;omega⟩,by repeat (first|exact ec.refl _|apply ec.step)⟩
       ·rw [if_neg c7] at H;exact absurd H (by simp)
      ·rw [if_neg c6] at H;exact absurd H (by simp)
     ·rw [if_neg c5] at H;exact absurd H (by simp)
    ·rw [if_neg c4] at H;have cj:decide (Ce < (l0.length:Int))=false:=decide_eq_false c4;clear c4;obtain rfl:=Option.some.inj H;go_wp2
     repeat (go_quiet (fail);try go_wp2)
     go_ret;exact ⟨by first|rfl|(simp;done)|(simp [*];done),by repeat (first|exact ec.refl _|apply ec.step)⟩
 ·rw [if_neg c3] at H;have Vg:((l0.length:Int) == (l1.length:Int))=false:=beq_eq_false_iff_ne.mpr c3;have Mp:((l0.length:Int) != (l1.length:Int))=true:=bne_iff_ne.mpr c3;have yz:(l0.length == l1.length)=false:=by first|simpa using c3|(simp at c3 ⊢;omega)
  obtain rfl:=Option.some.inj H;go_enter Try.func80,Try.ntmps80;go_wp2
  repeat (go_quiet (fail);try go_wp2)
  go_ret;exact ⟨by first|rfl|(simp;done)|(simp [*];done),by repeat (first|exact ec.refl _|apply ec.step)⟩
theorem SQ (a b:List Bool) (hl:a.length=b.length) (hm:a.length ≤ 1048576):∀ (d i:Nat),i + d=a.length→Ev (fun k=>Sb.l0 k a b (a.length:Int) (i:Int)) (decide (a.drop i=b.drop i)):=by
 intro d
 induction d with
 | zero =>
  intro i hd;rw [List.drop_eq_nil_of_le (by omega),List.drop_eq_nil_of_le (by omega)];refine Ev.step (fun k=>by rw [Sb.l0]) ?_;exact Ev.neg (by omega) (Ev.now _)
 | succ d ih =>
  intro i hd;have h1:i < a.length:=by omega
  have h2:i < b.length:=by omega
  have ea:lg false a (i:Int)=a[i]:=by simp [lg,h1]
  have eb:lg false b (i:Int)=b[i]:=by simp [lg,h2]
  refine Ev.step (fun k=>by rw [Sb.l0]) ?_;refine Ev.pos (by omega) (Ev.pos (by omega) (Ev.pos (by omega) (Ev.pos (by omega) ?_)));rw [ea,eb,De h1 (by omega)]
  by_cases he:a[i]=b[i]
  ·refine Ev.neg (by rw [he];simp) ?_
   have e:decide (a.drop i=b.drop i)=decide (a.drop (i + 1)=b.drop (i + 1)):=by
    rw [List.drop_eq_getElem_cons h1,List.drop_eq_getElem_cons h2,he];exact decide_eq_decide.2 ⟨fun h=>(List.cons.inj h).2,fun h=>by rw [h]⟩
   rw [e];exact ih (i + 1) (by omega)
  ·refine Ev.pos (by simpa using he) ?_
   have e:decide (a.drop i=b.drop i)=false:=decide_eq_false (fun h=>by
    rw [List.drop_eq_getElem_cons h1,List.drop_eq_getElem_cons h2] at h
    exact he (List.cons.inj h).1)
   rw [e];exact Ev.now _
theorem M6 (a b:List Bool) (hm:a.length ≤ 1048576):Ev (fun k=>Sb.f k a b) (decide (a=b)):=by
 unfold Sb.f
 by_cases hl:a.length=b.length
 ·exact Ev.pos (by omega) (SQ a b hl hm a.length 0 (by omega))
 ·rw [decide_eq_false (fun e=>hl (by rw [e]))];exact Ev.neg (by omega) (Ev.now _)
noncomputable def ql.f (Ra:List Int) (La:Int) (Ja:Int) (Ma:Int) (Aa:List (Re)):Option (List (List Bool)):=open Classical in if 0 ≤ Ma∧jo Aa Ma.toNat then some (Ke Aa Ma.toNat) else none
theorem ql.calls (Xa:Option Addr) (Ya:Nat) (Ra:List Int) (La:Int) (Ja:Int) (Ma:Int) (Mb:Option Addr) (Fb:Nat) (Aa:List (Re)) (r:List (List Bool)) (w:World) (Xd:Kd.C (Kd.int .i64) w Xa Ra.length Ra) (Vd:Ra.length ≤ Ya) (Ff:Kd.C Kp w Mb Aa.length Aa) (uf:Aa.length ≤ Fb) (h:ql.f Ra La Ja Ma Aa=some r) :
  Calls Try.prog 47 #[.agg #[.slice Xa Ra.length Ya,.int .i64 La,.int .i64 Ja,.int .i64 Ma,.slice Mb Aa.length Fb]] w fun e w'=>∃ Hl:Value,e = .returned (Hl)∧Kd.S (Kd.slice 4 Kd.bool) 60 w' w.heap.size (fun _=>True) Hl r∧Below w.heap.size w w':=by
 unfold ql.f at h
 by_cases hf:0 ≤ Ma∧jo Aa Ma.toNat
 case neg=>rw [if_neg hf] at h;cases h
 rw [if_pos hf] at h;obtain rfl:=Option.some.inj h;obtain ⟨hn0,hO⟩:=hf;obtain ⟨n,rfl⟩:∃ n:Nat,Ma=(n:Int):=⟨Ma.toNat,(Int.toNat_of_nonneg hn0).symm⟩;have Uaz:=ga.mk (show Ke Aa ((n:Int)).toNat=Ke Aa n from by rw [Int.toNat_natCast]);rw [Int.toNat_natCast] at hO;clear h hn0;have HO:=ga.mk hO;have hn:n ≤ 1048576:=hO.2.1;have hm0:0 < Aa.length:=hO.1.1;have hm1:Aa.length ≤ 1048576:=hO.1.2.1;clear hO;obtain ⟨W1,Wf⟩:∃ W1,W1=((w.alloc (.cells #[.slice Xa Ra.length Ya,.int .i64 La,.int .i64 Ja,.int .i64 (n:Int),.slice Mb Aa.length Fb] 30 (0,0))).alloc (.cells #[] 60 (0,0))).alloc (.cells #[] 60 (0,0)):=⟨_,rfl⟩;have HW:=ga.mk Wf
 have HA:=ga.mk (show Ip w (RD Xa Ra.length Ya La Ja n Mb Aa.length Fb) (fun k=>k=w.heap.size + 1) (.slice (some ⟨w.heap.size + 1,0,none⟩) 0 0) (.slice (some ⟨w.heap.size + 2,0,none⟩) 0 0) [] [] W1 from by
  have z1:(w.alloc (.cells #[.slice Xa Ra.length Ya,.int .i64 La,.int .i64 Ja,.int .i64 (n:Int),.slice Mb Aa.length Fb] 30 (0,0))).heap.size=w.heap.size + 1:=by simp
  have b1:=Qj w (.cells #[.slice Xa Ra.length Ya,.int .i64 La,.int .i64 Ja,.int .i64 (n:Int),.slice Mb Aa.length Fb] 30 (0,0));have e1:=qa (Below.refl w.heap.size w) (.cells #[.slice Xa Ra.length Ya,.int .i64 La,.int .i64 Ja,.int .i64 (n:Int),.slice Mb Aa.length Fb] 30 (0,0));rw [Wf];generalize w.alloc (.cells #[.slice Xa Ra.length Ya,.int .i64 La,.int .i64 Ja,.int .i64 (n:Int),.slice Mb Aa.length Fb] 30 (0,0))=u1 at z1 b1 e1 ⊢;have z2:(u1.alloc (.cells #[] 60 (0,0))).heap.size=w.heap.size + 2:=by simp [z1]
  have s1:=Bz (Kd.slice 4 Kd.bool) 60 u1 w.heap.size (by omega);have e2:=qa (Below.refl u1.heap.size u1) (.cells #[] 60 (0,0));rw [z1] at s1;generalize u1.alloc (.cells #[] 60 (0,0))=u2 at z2 s1 e2 ⊢;have s2:=Bz (Kd.slice 4 Kd.bool) 60 u2 w.heap.size (by omega);have e3:=qa (Below.refl u2.heap.size u2) (.cells #[] 60 (0,0));have z3:(u2.alloc (.cells #[] 60 (0,0))).heap.size=w.heap.size + 3:=by simp [z2]
  rw [z2] at s2
  exact ⟨Qa (Qa e1 e2) e3,Va (Va b1 e2) e3,Kd.Yd s1 e3,Kd.Mg s2 (fun k hk=>⟨by omega,by omega⟩),fun k hk=>⟨by omega,by omega⟩⟩)
 have vI:=ga.mk Ff;have KL:=ga.mk uf;clear Wf Xd Ff Vd uf;go_enter Try.func47,Try.ntmps47
 go_upto_region 2 with (fail)
 rw [← HW.out];clear HW;have Yp:=fS HA.out;go_wp2;clear Yp
 go_loopg [3,4,19] Aa.length (fun gg v3 v4 v19 wr=>∃ (j:Nat) (PB:Nat→Prop),j ≤ Aa.length∧Aa.length - j ≤ gg∧v19 = .int .i64 j∧ga (Ip w (RD Xa Ra.length Ya La Ja n Mb Aa.length Fb) PB v3 v4 (List.replicate j (List.replicate n false)) (List.replicate j (List.replicate n false)) wr))
 case atStart=>exact ⟨0,_,Nat.zero_le _,by omega,rfl,HA⟩
 case round =>
  clear HA;(try clear PB);(try clear HA);obtain ⟨j,PB,hj,XS,rfl,HA⟩:=hrel
  by_cases hlt:j < Aa.length
  ·have dr:decide ((j:Int) < (Aa.length:Int))=true:=decide_eq_true (by omega);have Lp:=JA HA.out;have g_:(0:Int) ≤ (n:Int):=by omega
   have u_:=ga.mk (show ((n:Int)).toNat * 1 ≤ 281474976710656 from by omega);have w_:=ga.mk (show ((List.replicate j (List.replicate n false)).length + 1) * 24 ≤ 140737488355328 from by rw [List.length_replicate];omega)
   go_upto_region 5 with (first|((with_reducible refine qb (N:=24) rfl ?_);refine Kd.Yw Kd.bool (w0:=wr) wr.heap.size 4 rfl (N:=24) rfl 60 _ _ rfl (n:Int) rfl rfl Try.underlying60 (.bool false) 1 Ew rfl (by decide) (by omega) false (ok:=fun k=>wr.heap.size ≤ k) (Tg:=fun k=>wr.heap.size ≤ k) rfl (fun _ hk=>hk) (Nat.le_refl _) g_ u_.out (Below.refl _ _) (Nat.le_refl _) ?_;intro v24 mR ho hb hg hat;rw [Int.toNat_natCast] at ho;obtain ⟨A24,YQ,rfl⟩:=Kd.Zd ho;have oag:=ga.mk (ZL ho HA.out.bl.size);simp only [List.length_replicate] at oag;have K9:=ga.mk hb;have Vaf:=ga.mk (Qa HA.out.bl hb);clear ho hb hg hat Lp)|((with_reducible refine qb (N:=26) rfl ?_);refine Kd.tr (Kd.slice 4 Kd.bool) (w0:=w) w.heap.size rfl (.tmp 21) (.tmp 25) 55 60 (.slice none 0 0) 24 rfl Try.underlying55 YC rfl (by decide) (by omega) _ (List.replicate j (List.replicate n false)) (List.replicate n false) _ (fun k=>PB k ∨ wr.heap.size ≤ k) (fun k=>wr.heap.size ≤ k) rfl rfl oag.out HA.out.neX (HA.out.frX K9.out) (HA.out.okX K9.out) Vaf.out Vaf.out.size w_.out ?_;intro v26 Dn hs hb hg hat;have FZ:=ga.mk (HA.out.W7 K9.out hs hb hg);clear hs hb hg hat))
   have Lp:=JA FZ.out
   go_upto_region 6 with (first|((with_reducible refine qb (N:=30) rfl ?_);refine Kd.Yw Kd.bool (w0:=Dn) Dn.heap.size 4 rfl (N:=30) rfl 60 _ _ rfl (n:Int) rfl rfl Try.underlying60 (.bool false) 1 Ew rfl (by decide) (by omega) false (ok:=fun k=>Dn.heap.size ≤ k) (Tg:=fun k=>Dn.heap.size ≤ k) rfl (fun _ hk=>hk) (Nat.le_refl _) g_ u_.out (Below.refl _ _) (Nat.le_refl _) ?_;intro v30 Nz ho hb hg hat;rw [Int.toNat_natCast] at ho;obtain ⟨jx,YJ,rfl⟩:=Kd.Zd ho;have nag:=ga.mk (ZL ho FZ.out.bl.size);simp only [List.length_replicate] at nag;have J9:=ga.mk hb;have Uaf:=ga.mk (Qa FZ.out.bl hb);clear ho hb hg hat Lp)|((with_reducible refine qb (N:=32) rfl ?_);refine Kd.tr (Kd.slice 4 Kd.bool) (w0:=w) w.heap.size rfl (.tmp 27) (.tmp 31) 55 60 (.slice none 0 0) 24 rfl Try.underlying55 YC rfl (by decide) (by omega) _ (List.replicate j (List.replicate n false)) (List.replicate n false) _ _ (fun k=>Dn.heap.size ≤ k) rfl rfl nag.out FZ.out.neY (FZ.out.frY J9.out) (FZ.out.okY J9.out) Uaf.out Uaf.out.size w_.out ?_;intro v32 lR hs hb hg hat;have HA2:=ga.mk (FZ.out.Iar J9.out hs hb hg);clear hs hb hg hat))
   go_wp2
   go_roundg (Aa.length - (j + 1))
   case measure=>omega
   case rel =>
    have h2:=HA2.out;rw [← List.replicate_succ'] at h2;exact ⟨j + 1,_,by omega,by omega,by go_num,⟨h2⟩⟩
  ·have dr:decide ((j:Int) < (Aa.length:Int))=false:=decide_eq_false (by omega);have hje:j=Aa.length:=by omega
   have ha:=HA.out;rw [hje] at ha;obtain ⟨gX,cX,gY,cY,rfl,rfl⟩:=ha.forms hm0;clear HA;have HA:=ga.mk ha;clear ha hje XS hj;have HV:=ga.mk (VD.start Aa n);generalize List.replicate Aa.length (List.replicate n false)=X0 at HA HV;have HM0:=ga.mk HV.out.cnt;go_wp2;clear hlt dr
   go_loopg [5] (n * Aa.length + 1) (fun gg v5 wr=>∃ (X Y:List (List Bool)) (a:Bool),v5 = .bool a∧n * Aa.length - Cp Y + (if a=true then 1 else 0) ≤ gg∧ga (VD Aa n X Y)∧ga (a=false→∀ i,i < Aa.length→StE Aa X Y i)∧ga (Ip w (RD Xa Ra.length Ya La Ja n Mb Aa.length Fb) PB (.slice (some ⟨gX,0,none⟩) Aa.length cX) (.slice (some ⟨gY,0,none⟩) Aa.length cY) X Y wr))
   case atStart=>exact ⟨X0,X0,true,rfl,by rw [if_pos rfl];omega,HV,⟨fun e=>by cases e⟩,HA⟩
   case round =>
    clear HV HA HM0;(try clear X);(try clear Y);(try clear HV);(try clear HST);(try clear HA);obtain ⟨X,Y,a,rfl,XS,HV,HST,HA⟩:=hrel;cases a with
    | false =>
     have HDN:=ga.mk (HV.out.done HO.out (HST.out rfl));go_wp2;go_ret;exact ⟨_,rfl,by rw [← HDN.out];exact Kd.Mg HA.out.x (fun _ _=>trivial),HA.out.bl⟩
    | true =>
     have Laa:=XS;rw [if_pos rfl] at Laa;have HS:=ga.mk (show LvS Aa X Y (Cp Y) false Aa.length from ⟨Nat.le_refl _,(fun e=>by cases e),(fun _ k h1 h2=>by omega)⟩);clear HST XS;generalize Cp Y=C at HS Laa;have Yp:=fS HA.out;have ES:wrap64 ((Aa.length:Int) - 1)=(Aa.length:Int) - 1:=by unfold wrap64;omega
     have G8:=ga.mk ES;clear ES;go_wp2;clear Yp
     go_loopg [5,6] Aa.length (fun g3 v5 v6 wr=>∃ (z:Int) (q:Nat) (X Y:List (List Bool)) (a:Bool),v5 = .bool a∧v6 = .int .i64 z∧z + 1=(q:Int)∧q ≤ Aa.length∧q ≤ g3∧ga (VD Aa n X Y)∧ga (LvS Aa X Y C a q)∧ga (Ip w (RD Xa Ra.length Ya La Ja n Mb Aa.length Fb) PB (.slice (some ⟨gX,0,none⟩) Aa.length cX) (.slice (some ⟨gY,0,none⟩) Aa.length cY) X Y wr))
     case atStart=>exact ⟨(Aa.length:Int) - 1,Aa.length,X,Y,false,rfl,by first|rfl|(go_simp;done)|exact congrArg _ G8.out|go_num,by omega,Nat.le_refl _,Nat.le_refl _,HV,HS,HA⟩
     case round =>
      clear HV HS HA;(try clear X);(try clear Y);(try clear HV);(try clear HS);(try clear HA);obtain ⟨z,q,X,Y,a,rfl,rfl,hz,hq,XJ,HV,HS,HA⟩:=hrel
      by_cases hz0:0 ≤ z
      ·obtain ⟨i,rfl⟩:∃ i:Nat,z=(i:Int):=⟨z.toNat,(Int.toNat_of_nonneg hz0).symm⟩;obtain rfl:q=i + 1:=by omega
       have hi:i < Aa.length:=by omega
       have tS:decide ((i:Int) ≥ 0)=true:=decide_eq_true (by omega);obtain ⟨ag,Ac,cc,e1,hc0,Vn,Lz,SD,eP,uw,Y0⟩:=Vi vI.out (i:Int) (by omega) (by omega);subst e1;have Yp:=fS HA.out;simp only [Int.toNat_natCast] at hc0 Vn Lz SD eP;have J3:=ga.mk Y0;have I3:=ga.mk uw;replace hc0:=Yc hc0 (Kept.Ad HA.out.bl (fun _=>False)) id;replace Vn:=Yc Vn (Kept.Ad HA.out.bl (fun _=>False)) id;replace Lz:=Yc Lz (Kept.Ad HA.out.bl (fun _=>False)) id;replace SD:=Yc SD (Kept.Ad HA.out.bl (fun _=>False)) id;replace eP:=Yc eP (Kept.Ad HA.out.bl (fun _=>False)) id;have q1:0 ≤ (i:Int):=by omega
       have q2:(i:Int) < (Aa.length:Int):=by omega
       have iag:=ga.mk (show jl.f (Ea Aa (i:Int)).f0 (Ea Aa (i:Int)).f1 (Ea Aa (i:Int)).f2 (Ea Aa (i:Int)).f3 (Ea Aa (i:Int)).f4=some (Xq Aa i) from pQ _);clear Y0 uw
       go_upto_region 14 with (fail)
       have qA:=qa (Below.refl wr.heap.size wr) (.cells #[.slice Ac (Ea Aa (i:Int)).f0.length cc,.int .i64 (Ea Aa (i:Int)).f1,.int .i64 (Ea Aa (i:Int)).f2,.int .i64 (Ea Aa (i:Int)).f3,.int .i64 (Ea Aa (i:Int)).f4] 59 (0,0));have cD:=Qj wr (.cells #[.slice Ac (Ea Aa (i:Int)).f0.length cc,.int .i64 (Ea Aa (i:Int)).f1,.int .i64 (Ea Aa (i:Int)).f2,.int .i64 (Ea Aa (i:Int)).f3,.int .i64 (Ea Aa (i:Int)).f4] 59 (0,0));generalize wr.alloc (.cells #[.slice Ac (Ea Aa (i:Int)).f0.length cc,.int .i64 (Ea Aa (i:Int)).f1,.int .i64 (Ea Aa (i:Int)).f2,.int .i64 (Ea Aa (i:Int)).f3,.int .i64 (Ea Aa (i:Int)).f4] 59 (0,0))=Yq at qA cD ⊢;have Bu:=ga.mk (HA.out.below qA);have bp:=ga.mk cD;have T8:=ga.mk (show ¬ PB wr.heap.size from fun e=>by have:=(HA.out.pb _ e).2;omega);have HCD:=ga.mk (Kd.Jb J3.out Bu.out.bl);clear qA cD HA Yp hc0 Vn Lz SD eP q1 q2 tS hz0;generalize wr.heap.size=q7 at bp T8 ⊢;have TD:=(ia bp.out 0).trans rfl;have h71:=(ia bp.out 1).trans rfl;have h72:=(ia bp.out 2).trans rfl;have h73:=(ia bp.out 3).trans rfl;have h74:=(ia bp.out 4).trans rfl;have htl:(Xq Aa i).length ≤ 2:=nJ _;go_wp2_with (first|(go_at_call 78;(with_reducible refine (jl.calls Ac cc (Ea Aa (i:Int)).f0 (Ea Aa (i:Int)).f1 (Ea Aa (i:Int)).f2 (Ea Aa (i:Int)).f3 (Ea Aa (i:Int)).f4 (Xq Aa i) Yq HCD.out I3.out iag.out).mono ?_);rintro e Un ⟨v15,rfl,ho,hb⟩;obtain ⟨An,cn,rfl⟩:=Kd.Zd ho;have cag:=ga.mk ho;have Er:=ga.mk hb;clear ho hb TD h71 h72 h73 h74));have Rag:=ga.mk (Bu.out.below Er.out);have MJ:=ga.mk (Va bp.out Er.out);have HNC:=ga.mk (Kd.PD (S:=PB) (Kd.Bd (Kd.xg cag.out) (fun k hk=>hk.2.1)) (fun k hk e=>by have:=(Bu.out.pb k e).2;omega));have HR:=ga.mk (show r8 Aa n X Y i X from ⟨HV.out,fun _ _=>rfl⟩);have HT:=ga.mk (show qV (Xq Aa i) 0 Y X i from fun t ht=>by simp at ht);clear Bu cag Er HCD bp iag
       go_loopg [51] (Xq Aa i).length (fun g4 v51 wr=>∃ (j:Nat) (X':List (List Bool)),v51 = .int .i64 j∧j ≤ (Xq Aa i).length∧(Xq Aa i).length - j ≤ g4∧ga (r8 Aa n X Y i X')∧ga (qV (Xq Aa i) j Y X' i)∧ga (Ip w (RD Xa Ra.length Ya La Ja n (some ag) Aa.length Fb) PB (.slice (some ⟨gX,0,none⟩) Aa.length cX) (.slice (some ⟨gY,0,none⟩) Aa.length cY) X' Y wr)∧ga (Kept Un wr PB))
       case atStart=>exact ⟨0,X,rfl,Nat.zero_le _,by omega,HR,HT,Rag,⟨Kept.refl _ _⟩⟩
       case round =>
        clear HR HT Rag;(try clear X);(try clear HR);(try clear HT);(try clear HA);(try clear HK);obtain ⟨j,X',rfl,hj,pI,HR,HT,HA,HK⟩:=hrel
        by_cases hjt:j < (Xq Aa i).length
        ·have I5:decide ((j:Int) < ((Xq Aa i).length:Int))=true:=decide_eq_true (by omega);have r1:0 ≤ (j:Int):=by omega
         have r2:(j:Int) < ((Xq Aa i).length:Int):=by omega
         obtain ⟨an,tn,e1,ht,htn,hx⟩:=cW HO.out.1 hi hjt (HNC.out wr HK.out);subst e1;have HTN:=ga.mk ht;have HTM:=ga.mk (List.getElem_mem hjt);obtain ⟨Ay,cy,hcy,hfy,hly,hCy,hKy⟩:=HA.out.LV htn;have sZ:=ga.mk hKy;have HYN:=ga.mk (HV.out.yr tn htn);have hyn:(ee Y tn).length ≤ 1048576:=by have:=HYN.out;omega
         have t1:0 ≤ (tn:Int):=by omega
         have t2:(tn:Int) < (Aa.length:Int):=by omega
         have p_:=ga.mk (show TkS tn 0 Y X' i from fun u hu=>by omega);clear ht hCy hKy hfy;go_wp2;clear hcy hx t1 t2 r1 r2 I5
         go_loopg [60] (ee Y tn).length (fun g5 v60 wr=>∃ (s:Nat) (rR:List (List Bool)),v60 = .int .i64 s∧s ≤ (ee Y tn).length∧(ee Y tn).length - s ≤ g5∧ga (r8 Aa n X Y i rR)∧ga (qV (Xq Aa i) j Y rR i)∧ga (TkS tn s Y rR i)∧ga (Ip w (RD Xa Ra.length Ya La Ja n (some ag) Aa.length Fb) PB (.slice (some ⟨gX,0,none⟩) Aa.length cX) (.slice (some ⟨gY,0,none⟩) Aa.length cY) rR Y wr)∧ga (Kept Un wr PB)∧ga (∀ W,Kept wr W PB→Kd.C Kd.bool W Ay (ee Y tn).length (ee Y tn)))
         case atStart=>exact ⟨0,X',rfl,Nat.zero_le _,by omega,HR,HT,p_,HA,HK,sZ⟩
         case round =>
          clear HR HT p_ HA HK sZ;(try clear X);(try clear HR);(try clear HT);(try clear p_);(try clear HA);(try clear HK);(try clear sZ);obtain ⟨s,rR,rfl,hs,hg5,HR,HT,p_,HA,HK,sZ⟩:=hrel
          by_cases hst:s < (ee Y tn).length
          ·have tap:decide ((s:Int) < ((ee Y tn).length:Int))=true:=decide_eq_true (by omega);have s1:0 ≤ (s:Int):=by omega
           have s2:(s:Int) < ((ee Y tn).length:Int):=by omega
           have hxl:(ee rR i).length=(ee Y tn).length:=by rw [HYN.out,HR.out.inv.xr i hi]
           have s3:(s:Int) < ((ee rR i).length:Int):=by omega
           have HXL:=ga.mk hxl;have i1:0 ≤ (i:Int):=by omega
           have i2:(i:Int) < (Aa.length:Int):=by omega
           obtain ⟨ay,e2,hy⟩:=Jx (sZ.out wr (Kept.refl _ _)) hst;subst e2;obtain ⟨gi,ci,Z9,hce,hfz,hpg,hput⟩:=(HA.out.below (Wm (Below.refl wr.heap.size wr))).Uao hi (show s < (ee rR i).length by omega);have JY:wr.cell? ⟨gX,i,none⟩=some (.slice (some ⟨gi,0,none⟩) (ee rR i).length ci):=Z9;have LY:wr.cell? ⟨gi,s,none⟩=some (.bool (seen (ee rR i) s)):=hce;obtain ⟨Zq,Y9,X9⟩:=HR.out.step HO.out.1 hi HTM.out HTN.out (by have:=HYN.out;omega) HT.out p_.out;have HPG:=ga.mk hpg;clear hxl hpg;cases hold:seen (ee rR i) s with
           | true =>
            rw [hold,Bool.true_or] at Zq Y9 X9;rw [hold] at LY hce;have HP:=ga.mk (hput true);have N8:=ga.mk (And.intro Zq (And.intro Y9 X9));have sR:=ga.mk (And.intro hce hfz);clear Zq Y9 X9 hput Z9 hce hfz hold
            go_upto_region 20 with (fail)
            go_still_tail 16,(by kernel_rfl)
            have Xf:=ga.mk ((HK.out.drew).setCell (p:=⟨gi,s,none⟩) (Or.inl HPG.out) (.bool true));have TU:=ga.mk (Kd.RA sZ.out (((Kept.refl wr PB).drew).setCell (p:=⟨gi,s,none⟩) (Or.inl HPG.out) (.bool true)));obtain ⟨hce,hfz⟩:=sR.out;have sR:=ga.mk hce;clear JY LY hy HA HK sZ
            change wpList _ _ _ _ _ wr.drew
            generalize wr.drew=wd at HP Xf TU hce hfz ⊢;go_wp2
            go_roundg ((ee Y tn).length - (s + 1))
            case measure=>omega
            case rel=>exact ⟨s + 1,_,by go_num,by omega,by omega,⟨N8.out.1⟩,⟨N8.out.2.1⟩,⟨N8.out.2.2⟩,HP,Xf,TU⟩
           | false =>
            rw [hold,Bool.false_or] at Zq Y9 X9;rw [hold] at LY hce;have HP:=ga.mk (hput (seen (ee Y tn) s));have N8:=ga.mk (And.intro Zq (And.intro Y9 X9));have sR:=ga.mk (And.intro hce hfz);clear Zq Y9 X9 hput Z9 hce hfz hold
            go_upto_region 20 with (fail)
            go_still_tail 16,(by kernel_rfl)
            have Xf:=ga.mk ((HK.out.drew).setCell (p:=⟨gi,s,none⟩) (Or.inl HPG.out) (.bool (seen (ee Y tn) s)));have TU:=ga.mk (Kd.RA sZ.out (((Kept.refl wr PB).drew).setCell (p:=⟨gi,s,none⟩) (Or.inl HPG.out) (.bool (seen (ee Y tn) s))));obtain ⟨hce,hfz⟩:=sR.out;have sR:=ga.mk hce;clear JY LY hy HA HK sZ
            change wpList _ _ _ _ _ wr.drew
            generalize wr.drew=wd at HP Xf TU hce hfz ⊢;go_wp2
            go_roundg ((ee Y tn).length - (s + 1))
            case measure=>omega
            case rel=>exact ⟨s + 1,_,by go_num,by omega,by omega,⟨N8.out.1⟩,⟨N8.out.2.1⟩,⟨N8.out.2.2⟩,HP,Xf,TU⟩
          ·have tap:decide ((s:Int) < ((ee Y tn).length:Int))=false:=decide_eq_false (by omega);have HTJ:=ga.mk (HT.out.next hjt HTN.out (by have h2:=p_.out;rwa [show s=(ee Y tn).length by omega] at h2));go_wp2
           go_roundg ((Xq Aa i).length - (j + 1))
           case measure=>omega
           case rel=>exact ⟨j + 1,rR,by go_num,by omega,by omega,HR,HTJ,HA,HK⟩
        ·have I5:decide ((j:Int) < ((Xq Aa i).length:Int))=false:=decide_eq_false (by omega);have HTJ:=ga.mk (show qV (Xq Aa i) (Xq Aa i).length Y X' i by have h2:=HT.out;rwa [show j=(Xq Aa i).length by omega] at h2);obtain ⟨wk,rfl⟩:∃ wk,wk=wr:=⟨_,rfl⟩;have HQK:=ga.mk (Pf MJ.out HK.out T8.out);have L2:=ga.mk (Ec HQK.out);have n9:=ga.mk (HR.out.inv.xr i hi);obtain ⟨Ax,cx,Z9,hCx,hlx⟩:=HA.out.Oao hi;have EZ:=ga.mk (qa (Below.refl wk.heap.size wk) (.cells #[] 4 (0,0)));have HCX:=ga.mk (Kd.Jb hCx EZ.out);have HEM:=ga.mk (xP Kd.bool 4 wk wk.heap.size (Nat.le_refl _));have HLN:=ga.mk (show (([]:List Bool).length + (ee X' i).length) * 1 ≤ 140737488355328 from by have:=n9.out;simp;omega);have JY:=Yc Z9 (Kept.Ad EZ.out (fun _=>False)) id;have i1:0 ≤ (i:Int):=by omega
         have i2:(i:Int) < (Aa.length:Int):=by omega
         clear hCx HK HNC HT MJ
         go_upto_region 24 with (first|((with_reducible refine qb (N:=88) rfl ?_);refine Kd.mj Kd.bool (w0:=wk) wk.heap.size rfl (.tmp 83) (.tmp 87) 60 4 (.bool false) 1 rfl Try.underlying60 Ew rfl (by decide) (by omega) (.slice (some ⟨wk.heap.size,0,none⟩) 0 0) [] (ee X' i) Ax (ee X' i).length cx (fun _=>True) (fun _=>False) rfl rfl HEM.out HCX.out (fun _ _ h=>h) (fun _ hk=>hk.elim) (fun _ _=>trivial) EZ.out EZ.out.size HLN.out ?_;intro v12 Ht ho rA fE hat;rw [List.nil_append] at ho;obtain ⟨As,cs,rfl⟩:=Kd.Zd ho;have nZ:=ga.mk ho;have fI:=ga.mk rA;clear ho rA fE hat Z9 JY))
         clear EZ HCX HEM HLN hlx hjt I5 hj pI i1 i2;have wV:=ga.mk (Yt HO.out hi);have gR:=ga.mk (Va HQK.out fI.out);have h71:Ht.cell? ⟨q7,1,none⟩=some (.int .i64 (Ea Aa (i:Int)).f1):=(ia gR.out 1).trans rfl
         by_cases yX:(Ea Aa (i:Int)).f1=0
         case' pos =>
          have hfa:((Ea Aa (i:Int)).f1 == 0)=true:=beq_iff_eq.2 yX;have hfb:((Ea Aa (i:Int)).f1 != 0)=false:=by rw [yX];rfl
          have eR:=ga.mk (show Kd.R Kd.bool 4 Ht wk.heap.size (fun _=>True) (.slice As (ee X' i).length cs) (Sg (Ea Aa (i:Int)) (ee X' i)) from by rw [show Sg (Ea Aa (i:Int)) (ee X' i)=ee X' i from if_pos yX];exact nZ.out);have WU:=fI;have NU:=gR
          go_upto_region 26 with (fail)
          clear h71 hfa hfb nZ fI gR yX;generalize Ht=Dn at eR WU NU ⊢
         case' neg =>
          have hfa:((Ea Aa (i:Int)).f1 == 0)=false:=beq_eq_false_iff_ne.2 yX;have hfb:((Ea Aa (i:Int)).f1 != 0)=true:=bne_iff_ne.2 yX;obtain ⟨f20,f21⟩:=wV.out.2.1 yX;obtain ⟨u,hu⟩:∃ u:Nat,(Ea Aa (i:Int)).f2=(u:Int):=⟨(Ea Aa (i:Int)).f2.toNat,(Int.toNat_of_nonneg f20).symm⟩;have hul:u < (ee X' i).length:=by have:=n9.out;omega
          have qap:(u:Int) < ((ee X' i).length:Int):=by omega
          have hu0:0 ≤ (u:Int):=by omega
          have h72:Ht.cell? ⟨q7,2,none⟩=some (.int .i64 (u:Int)):=by rw [← hu];exact (ia gR.out 2).trans rfl
          obtain ⟨gs,e3,hgs,hcs,hfs,hput⟩:=k8 nZ.out hul;obtain ⟨hr,hg⟩:=hput true;have eR:=ga.mk (show Kd.R Kd.bool 4 (Ht.setCell ⟨gs,u,none⟩ (.bool true)) wk.heap.size (fun _=>True) (.slice As (ee X' i).length cs) (Sg (Ea Aa (i:Int)) (ee X' i)) from by rw [show Sg (Ea Aa (i:Int)) (ee X' i)=(ee X' i).set u true from by unfold Sg;rw [if_neg yX,hu,Int.toNat_natCast]];exact hr);have WU:=ga.mk (fI.out.grown hg fI.out.size (fun k e=>by injection e with e;omega));have NU:=ga.mk (td gR.out hg (fun e=>by injection e with e;have:=L2.out;omega));subst e3;clear hr hg hput f20 f21 hu hul
          go_upto_region 26 with (fail)
          clear h71 h72 hfa hfb nZ fI gR yX hcs hfs hgs qap hu0;generalize Ht.setCell ⟨gs,u,none⟩ (.bool true)=Dn at eR WU NU ⊢;generalize (some ⟨gs,0,none⟩:Option Addr)=As at eR ⊢
         all_goals
          have TD:Dn.cell? ⟨q7,0,none⟩=some (.slice Ac (Ea Aa (i:Int)).f0.length cc):=(ia NU.out 0).trans rfl;have uw:(Ea Aa (i:Int)).f0.length ≤ 1048576:=wV.out.1;have ES:wrap64 (((Ea Aa (i:Int)).f0.length:Int) - 1)=((Ea Aa (i:Int)).f0.length:Int) - 1:=by unfold wrap64;omega
          have G8:=ga.mk ES;clear ES;go_wp2;clear TD
          go_loopg [13] (Ea Aa (i:Int)).f0.length (fun g6 Z3 wr=>∃ (z:Int) (q:Nat),Z3 = .int .i64 z∧z + 1=(q:Int)∧q ≤ (Ea Aa (i:Int)).f0.length∧q ≤ g6∧ga (Kd.R Kd.bool 4 wr wk.heap.size (fun _=>True) (.slice As (ee X' i).length cs) (sr (Ea Aa (i:Int)).f0 q (Sg (Ea Aa (i:Int)) (ee X' i))))∧ga (Below wk.heap.size wk wr))
          case atStart=>exact ⟨((Ea Aa (i:Int)).f0.length:Int) - 1,(Ea Aa (i:Int)).f0.length,by first|rfl|(go_simp;done)|exact congrArg _ G8.out|go_num,by omega,Nat.le_refl _,Nat.le_refl _,⟨by rw [nt];exact eR.out⟩,WU⟩
          case round =>
           clear eR WU NU;(try clear IL);(try clear eI);obtain ⟨z,q,rfl,hz6,hq6,hg6,IL,eI⟩:=hrel
           by_cases hz0:0 ≤ z
           ·obtain ⟨p,rfl⟩:∃ p:Nat,z=(p:Int):=⟨z.toNat,(Int.toNat_of_nonneg hz0).symm⟩;obtain rfl:q=p + 1:=by omega
            have hp:p < (Ea Aa (i:Int)).f0.length:=by omega
            have tS:decide ((p:Int) ≥ 0)=true:=decide_eq_true (by omega);have p1:0 ≤ (p:Int):=by omega
            have p2:(p:Int) < ((Ea Aa (i:Int)).f0.length:Int):=by omega
            have TD:wr.cell? ⟨q7,0,none⟩=some (.slice Ac (Ea Aa (i:Int)).f0.length cc):=(ia (Va HQK.out eI.out) 0).trans rfl;obtain ⟨aI,e5,k0,k1,k2,k3,k4,k5,k6⟩:=fo (Kd.Jb J3.out (Qa HA.out.bl eI.out)) (p:Int) (by omega) (by omega);subst e5;simp only [Int.toNat_natCast] at k0 k1 k2 k3 k4 k5 k6;obtain ⟨kb,ZZ⟩:=Ev.rounds (LH (sr (Ea Aa (i:Int)).f0 (p + 1) (Sg (Ea Aa (i:Int)) (ee X' i))) (Da (Ea Aa (i:Int)).f0 (p:Int)) (by rw [cw,Nk,n9.out];exact TC wV.out hp));have x_:=ga.mk ZZ;have hwp:wrap64 ((p:Int) - 1)=(p:Int) - 1:=by unfold wrap64;omega
            have o_:=ga.mk hwp;clear ZZ hwp hz0;go_wp2_with (first|(go_at_call 79;(with_reducible refine (Rd.calls kb (fun _=>True) (.slice As (ee X' i).length cs) (sr (Ea Aa (i:Int)).f0 (p + 1) (Sg (Ea Aa (i:Int)) (ee X' i))) (Da (Ea Aa (i:Int)).f0 (p:Int)).f0 (Da (Ea Aa (i:Int)).f0 (p:Int)).f1 (Da (Ea Aa (i:Int)).f0 (p:Int)).f2 (Da (Ea Aa (i:Int)).f0 (p:Int)).f3 (Da (Ea Aa (i:Int)).f0 (p:Int)).f4 (Da (Ea Aa (i:Int)).f0 (p:Int)).f5 (Da (Ea Aa (i:Int)).f0 (p:Int)).f6 _ wk wr eI.out IL.out x_.out).mono ?_);rintro e RL ⟨rfl,ho,hb,-⟩;have HS7:=ga.mk ho;have tR:=ga.mk hb;clear ho hb TD k0 k1 k2 k3 k4 k5 k6))
            go_roundg p
            case measure=>omega
            case rel=>exact ⟨(p:Int) - 1,p,by first|rfl|(go_simp;done)|exact congrArg _ o_.out|go_num,by omega,by omega,Nat.le_refl _,⟨by rw [Fp hp];exact Kd.Bd HS7.out (fun _ _=>trivial)⟩,tR⟩
           ·have tS:decide (z ≥ 0)=false:=decide_eq_false (by omega);obtain rfl:q=0:=by omega
            have HSI:=ga.mk (show Kd.R Kd.bool 4 wr wk.heap.size (fun _=>True) (.slice As (ee X' i).length cs) (KA (Ea Aa (i:Int)) (ee X' i)) from IL.out);obtain ⟨Ay,cy,hcy,hfy,hly,hCy,-⟩:=(HA.out.below eI.out).LV hi;obtain ⟨HN1,HN2⟩:=HS.out.next HO.out hi HR.out HTJ.out;have HN1:=ga.mk HN1;have HN2:=ga.mk HN2;obtain ⟨ke,hke⟩:=Ev.rounds (M6 (KA (Ea Aa (i:Int)) (ee X' i)) (ee Y i) (by rw [Xp,n9.out];omega));have hEQ:=Sb.calls ke As cs (KA (Ea Aa (i:Int)) (ee X' i)) Ay cy (ee Y i) _ wr (Kd.Bc HSI.out).2.2 (by have:=(Kd.Bc HSI.out).2.1;rw [Xp];exact this) hCy hly hke;rw [Xp] at hEQ;have wZ:=ga.mk hEQ;have i1:0 ≤ (i:Int):=by omega
            have i2:(i:Int) < (Aa.length:Int):=by omega
            clear hEQ hke hCy hfy hly;cases a with
            | true =>
             go_upto_region 31 with (fail)
             clear hcy;have tR:=eI;have HP:=ga.mk (HA.out.V_ tR.out hi HSI.out);obtain ⟨Az,cz,hcz,hfz,-⟩:=(HA.out.below tR.out).LV hi;have hwi:wrap64 ((i:Int) - 1)=(i:Int) - 1:=by unfold wrap64;omega
             have HWI:=ga.mk hwi;have i1:0 ≤ (i:Int):=by omega
             have i2:(i:Int) < (Aa.length:Int):=by omega
             clear hwi;go_wp2
             go_roundg i
             case measure=>omega
             case rel=>exact ⟨(i:Int) - 1,i,X',_,_,by first|rfl|(rw [Bool.true_or]),by first|rfl|(go_simp;done)|exact congrArg _ HWI.out|go_num,by omega,by omega,Nat.le_refl _,HN1,HN2,HP⟩
            | false =>
             go_upto_region 31 with (first|(go_at_call 80;(with_reducible refine wZ.out.mono ?_);rintro e kF ⟨rfl,hd⟩;have Jag:=ga.mk hd.below;clear hd hcy))
             have tR:=ga.mk (Qa eI.out Jag.out);have HP:=ga.mk (HA.out.V_ tR.out hi (Kd.pg HSI.out Jag.out));obtain ⟨Az,cz,hcz,hfz,-⟩:=(HA.out.below tR.out).LV hi;have hwi:wrap64 ((i:Int) - 1)=(i:Int) - 1:=by unfold wrap64;omega
             have HWI:=ga.mk hwi;have i1:0 ≤ (i:Int):=by omega
             have i2:(i:Int) < (Aa.length:Int):=by omega
             clear hwi;go_wp2
             go_roundg i
             case measure=>omega
             case rel=>exact ⟨(i:Int) - 1,i,X',_,_,by first|rfl|(rw [Bool.false_or]),by first|rfl|(go_simp;done)|exact congrArg _ HWI.out|go_num,by omega,by omega,Nat.le_refl _,HN1,HN2,HP⟩
      ·have tS:decide (z ≥ 0)=false:=decide_eq_false (by omega);obtain rfl:q=0:=by omega
       have h1:=HS.out.le;have h2:=HS.out.lt;have h3:=HV.out.cnt
       have HM:=ga.mk (show n * Aa.length - Cp Y + (if a=true then 1 else 0) < n * Aa.length - C + 1 from by
        cases a with
        | false=>rw [if_neg (by simp)];omega
        | true=>have:=h2 rfl;rw [if_pos rfl];omega)
       clear h1 h2 h3;go_wp2
       go_roundg (n * Aa.length - Cp Y + (if a=true then 1 else 0))
       case measure=>have:=HM.out;omega
       case rel=>exact ⟨X,Y,a,rfl,Nat.le_refl _,HV,⟨fun e i hi=>HS.out.so e i (Nat.zero_le _) hi⟩,HA⟩
section
variable {l0:List Int} {p v s:Int} {l4:List Re}
theorem wz (h:ym l0 p v s l4=true):jA l0 p v s l4.length=true∧(∀ b ∈ l4,Ep l0 s l4 b=true)∧fe l4 ≤ 1000:=by
 unfold ym at h;simp only [Bool.and_eq_true,Bool.not_eq_true',List.any_eq_false,decide_eq_true_eq] at h;exact ⟨h.1,fun b hb=>by have:=h.2.1 b hb;simpa using this,h.2.2⟩
theorem jP (l:List Re) (b:Re) (hb:b ∈ l):b.f0.length ≤ fe l:=by
 unfold fe;exact VC (List.mem_map.mpr ⟨b,hb,rfl⟩)
end
end Go.Proofs.Ytkigbdceceeenaa.P
end
section
namespace Go.Proofs.Ytkigbdceceeenaa.P
open Go.RowKit Go.Proofs.Pa.Ub Go.Proofs.Pa.Sd Go.Proofs.Pa.Xe
set_option linter.unusedVariables false
set_option linter.unusedSimpArgs false
theorem U4 {n0 n:Nat} {x:Be} (h:bn n0 (n:Int) x=true):bu n x:=by
 unfold bn Ml at h;unfold bu
 by_cases o0:x.f0=0
 ·rw [ux (by omega) (by omega) (by omega)];simp [o0,uk] at h ⊢;omega
 by_cases o1:x.f0=1
 ·rw [ep (Or.inl o1)];simp [o1,uk] at h ⊢;omega
 by_cases o2:x.f0=2
 ·rw [Pz o2];simp [o2,uk] at h ⊢;omega
 by_cases o3:x.f0=3
 ·by_cases ha:0 ≤ x.f2
  ·rw [CC ha (Or.inl o3) (by omega)];simp [o3,uk] at h ⊢;omega
  ·rw [zC ha (Or.inl o3) (by omega)];simp [o3,uk] at h ⊢;omega
 by_cases o4:x.f0=4
 ·by_cases ha:0 ≤ x.f2
  ·rw [DC ha o4];simp [o4,uk] at h ⊢;omega
  ·rw [BC ha o4];simp [o4,uk] at h ⊢;omega
 by_cases o5:x.f0=5
 ·rw [ux (by omega) (by omega) (by omega)];simp [o5,uk] at h ⊢;omega
 by_cases o6:x.f0=6
 ·rw [ep (Or.inr o6)];simp [o6,uk] at h ⊢;omega
 simp [o0,o1,o2,o3,o4,o5,o6] at h
theorem oU {n0 n n4:Nat} {b:Re} (h:Pj n0 (n:Int) n4 b.f0 b.f1 b.f2 b.f3 b.f4=true) (hl:b.f0.length ≤ 1048576):xu n b:=by
 unfold Pj at h;simp only [Bool.and_eq_true,Bool.not_eq_true',List.any_eq_false] at h;obtain ⟨⟨h1,_⟩,h2⟩:=h;refine ⟨hl,fun hf=>?_,fun x hx=>U4 (n0:=n0) (by have:=h1 x hx;simpa using this)⟩;rw [if_neg hf] at h2
 by_cases h3:b.f1=1
 ·rw [if_pos h3] at h2;simp [uk] at h2;omega
 ·rw [if_neg h3] at h2
  by_cases h4:b.f1=2
  ·rw [if_pos h4] at h2;simp [uk] at h2;omega
  ·rw [if_neg h4] at h2;cases h2
theorem dW {l0:List Int} {p v:Int} {n:Nat} {bs:List Re} (h:ym l0 p v (n:Int) bs=true) (ht:fe bs ≤ 1048576):jo bs n:=by
 obtain ⟨h1,h2,_⟩:=wz h;have hh:=iA h1;exact ⟨pL h,by omega,fun b hb=>oU (h2 b hb) (Nat.le_trans (jP bs b hb) ht)⟩
theorem Yf {S:Nat→Prop} {w0 w W:World} {a:Addr} {v:Value} (hc:w0.cell? a=some v) (hb0:Below w0.heap.size w0 w) (f_:∀ k,S k→w0.heap.size ≤ k) (hk:Kept w W (JZ S w)):W.cell? a=some v :=
 Yc (Yc hc (Kept.Ad hb0 (fun _=>False)) id) hk (fun e=>e.elim (fun h=>by have:=f_ _ h;have:=World.block_lt_of_cell? w0 a hc;omega) (fun h=>by have:=World.block_lt_of_cell? w0 a hc;have:=hb0.size;omega))
theorem gP {S:Nat→Prop} {w0 w:World} (hb0:Below w0.heap.size w0 w) (f_:∀ k,S k→w0.heap.size ≤ k):∀ k,JZ S w k→w0.heap.size ≤ k:=fun k h=>h.elim (f_ k) (fun h=>Nat.le_trans hb0.size h)
theorem MH {St:Type} (f:St→Be→List Bool→St) (Inv:St→World→Prop) (S:Nat→Prop) (g:Nat) (lb:Array Value) (eg:∀ args w,(callFunc g args).run Try.prog w = .ok (.enter g args) w)
  (Xa:Option Addr) (Ya:Nat) (Ra:List Int) (La:Int) (Ja:Int) (n:Nat) (Mb:Option Addr) (Fb:Nat) (Aa:List (Re)) (A1:Option Addr) (c1:Nat) (X:List (List Bool)) (V9:St) (w0 w:World)
  (hb0:Below w0.heap.size w0 w) (f_:∀ k,S k→w0.heap.size ≤ k) (hS:∀ k,S k→k < w.heap.size) (Xd:Kd.C (Kd.int .i64) w0 Xa Ra.length Ra) (Vd:Ra.length ≤ Ya) (Ff:Kd.C Kp w0 Mb Aa.length Aa) (uf:Aa.length ≤ Fb)
  (Zq:∀ W,Kept w W (JZ S w)→Kd.C (Kd.slice 4 Kd.bool) W A1 X.length X) (Vn:X.length ≤ c1) (hO:jo Aa n) (hX:X.length=Aa.length) (hr:∀ i,i < Aa.length→(ee X i).length=n)
  (hI0:Inv V9 w) (hI:∀ st W W',Inv st W→W.heap.size ≤ W'.heap.size→(∀ k,k < w.heap.size→W'.heap[k]? = W.heap[k]?)→Inv st W')
  (hp:∀ (W:World) (st:St) (x:Be) (A:Option Addr) (c:Nat) (s:List Bool),Kept w W (JZ S w)→Inv st W→bu n x→s.length=n→(∀ W',Kept W W' S→Kd.C Kd.bool W' A s.length s)→s.length ≤ c →
   Calls Try.prog g (#[.agg #[.int .i64 x.f0,.int .i64 x.f1,.int .i64 x.f2,.int .i64 x.f3,.int .i64 x.f4,.int .i64 x.f5,.string x.f6],.slice A s.length c] ++ lb) W fun e w'=>e = .returned (.tuple #[])∧Inv (f st x s) w'∧Kept W w' S∧Below 0 W w') :
  Calls Try.prog 50 #[.agg #[.slice Xa Ra.length Ya,.int .i64 La,.int .i64 Ja,.int .i64 (n:Int),.slice Mb Aa.length Fb],.slice A1 X.length c1,.func (.func g) #[] lb] w fun e w'=>e = .returned (.tuple #[])∧Inv (Hg f Aa X 0 V9) w'∧Kept w w' (JZ S w)∧Below 0 w w':=by
 have ND:=ga.mk hb0;have sE:=ga.mk f_;have HSS:=ga.mk hS;have fl:=ga.mk Xd;have vI:=ga.mk Ff;have VP:=ga.mk Vd;have KL:=ga.mk uf;have gx:=ga.mk Zq;have HL1:=ga.mk Vn;have HO:=ga.mk hO;have HX:=ga.mk hX;have sV:=ga.mk hr;have HI:=ga.mk hI;have HP:=ga.mk hp;have hn:n ≤ 1048576:=hO.2.1;have hm1:Aa.length ≤ 1048576:=hO.1.2.1;have B9:=ga.mk (hI V9 w (w.alloc (.cells #[.slice Xa Ra.length Ya,.int .i64 La,.int .i64 Ja,.int .i64 (n:Int),.slice Mb Aa.length Fb] 30 (0,0))) hI0 (qa (Below.refl w.heap.size w) _).size (fun k hk=>(qa (Below.refl w.heap.size w) _).block k hk));have HA:=ga.mk (show uR S w (RD Xa Ra.length Ya La Ja n Mb Aa.length Fb) (w.alloc (.cells #[.slice Xa Ra.length Ya,.int .i64 La,.int .i64 Ja,.int .i64 (n:Int),.slice Mb Aa.length Fb] 30 (0,0))) from ⟨(Kept.refl _ _).alloc _,Gp (qa (Below.refl w.heap.size w) _),Qj _ _⟩);clear hb0 f_ hS Xd Ff Vd uf Zq Vn hO hX hr hI0 hI hp;go_enter Try.func50,Try.ntmps50
 go_upto_region 1 with (fail)
 generalize (w.alloc (.cells #[.slice Xa Ra.length Ya,.int .i64 La,.int .i64 Ja,.int .i64 (n:Int),.slice Mb Aa.length Fb] 30 (0,0)))=w1 at B9 HA ⊢;have Yp:w1.cell? ⟨w.heap.size,4,none⟩=some (.slice Mb Aa.length Fb):=(ia HA.out.hx 4).trans rfl;go_wp2;clear Yp
 go_loopg [13] Aa.length (fun gg Z3 wr=>∃ (i:Nat) (st:St),Z3 = .int .i64 i∧i ≤ Aa.length∧Aa.length - i ≤ gg∧ga (Hg f Aa X i st=Hg f Aa X 0 V9)∧ga (Inv st wr)∧ga (uR S w (RD Xa Ra.length Ya La Ja n Mb Aa.length Fb) wr))
 case atStart=>exact ⟨0,V9,rfl,Nat.zero_le _,by omega,⟨rfl⟩,B9,HA⟩
 case round =>
  clear B9 HA;(try clear wZ);(try clear LL);(try clear HA);obtain ⟨i,st,rfl,hi,XS,wZ,LL,HA⟩:=hrel
  by_cases hlt:i < Aa.length
  ·have dr:decide ((i:Int) < (Aa.length:Int))=true:=decide_eq_true (by omega);have i1:0 ≤ (i:Int):=by omega
   have i2:(i:Int) < (Aa.length:Int):=by omega
   obtain ⟨ag,Ac,cc,e1,hc0,Vn,Lz,SD,eP,uw,Y0⟩:=Vi vI.out (i:Int) (by omega) (by omega);subst e1;simp only [Int.toNat_natCast] at hc0 Vn Lz SD eP;have J3:=ga.mk Y0;have I3:=ga.mk uw;have sR:=ga.mk HA.out.k;replace hc0:=Yf hc0 ND.out sE.out sR.out;replace Vn:=Yf Vn ND.out sE.out sR.out;replace Lz:=Yf Lz ND.out sE.out sR.out;replace SD:=Yf SD ND.out sE.out sR.out;replace eP:=Yf eP ND.out sE.out sR.out;clear Y0 uw
   go_upto_region 4 with (fail)
   have qA:=qa (Below.refl wr.heap.size wr) (.cells #[.slice Ac (Ea Aa (i:Int)).f0.length cc,.int .i64 (Ea Aa (i:Int)).f1,.int .i64 (Ea Aa (i:Int)).f2,.int .i64 (Ea Aa (i:Int)).f3,.int .i64 (Ea Aa (i:Int)).f4] 59 (0,0));have cD:=Qj wr (.cells #[.slice Ac (Ea Aa (i:Int)).f0.length cc,.int .i64 (Ea Aa (i:Int)).f1,.int .i64 (Ea Aa (i:Int)).f2,.int .i64 (Ea Aa (i:Int)).f3,.int .i64 (Ea Aa (i:Int)).f4] 59 (0,0));generalize wr.alloc (.cells #[.slice Ac (Ea Aa (i:Int)).f0.length cc,.int .i64 (Ea Aa (i:Int)).f1,.int .i64 (Ea Aa (i:Int)).f2,.int .i64 (Ea Aa (i:Int)).f3,.int .i64 (Ea Aa (i:Int)).f4] 59 (0,0))=Yq at qA cD ⊢;have Bu:=ga.mk (HA.out.below qA);have SJ:=ga.mk (HI.out st wr Yq LL.out qA.size (fun k hk=>qA.block k (Nat.lt_trans hk HA.out.le)));have bp:=ga.mk cD;have L2:=ga.mk HA.out.le;have wV:=ga.mk (Yt HO.out hlt);have HE:=ga.mk (UC HO.out hlt X HX.out (sV.out i hlt) Ra La Ja (n:Int));have xZ:=ga.mk (And.intro (Kd.SA (Kd.ak .i64) fl.out ND.out (gP ND.out sE.out) Yq Bu.out.k) (And.intro (Kd.SA nS vI.out ND.out (gP ND.out sE.out) Yq Bu.out.k) (gx.out Yq Bu.out.k)));clear qA cD HA LL sR hc0 Vn Lz SD eP i1 i2 dr;generalize wr.heap.size=q7 at bp L2 ⊢;have hx0:Yq.cell? ⟨w.heap.size,0,none⟩=some (.slice Xa Ra.length Ya):=(ia Bu.out.hx 0).trans rfl;have hx1:Yq.cell? ⟨w.heap.size,1,none⟩=some (.int .i64 La):=(ia Bu.out.hx 1).trans rfl;have Ku:Yq.cell? ⟨w.heap.size,2,none⟩=some (.int .i64 Ja):=(ia Bu.out.hx 2).trans rfl;have Lp:Yq.cell? ⟨w.heap.size,3,none⟩=some (.int .i64 (n:Int)):=(ia Bu.out.hx 3).trans rfl;have Yp:Yq.cell? ⟨w.heap.size,4,none⟩=some (.slice (some ag) Aa.length Fb):=(ia Bu.out.hx 4).trans rfl
   go_upto_region 5 with (first|(go_at_call 81;(with_reducible refine (Mh.calls Xa Ya Ra La Ja (n:Int) (some ag) Fb Aa A1 c1 X (i:Int) _ Yq xZ.out.1 VP.out xZ.out.2.1 KL.out xZ.out.2.2 HL1.out HE.out).mono ?_);rintro e w5 ⟨v5,rfl,ho,hb⟩;obtain ⟨As,cs,rfl⟩:=Kd.Zd ho;have Gr:=ga.mk ho;have aQ:=ga.mk hb;clear ho hb hx0 hx1 Ku Lp Yp))
   have hjl:(Sg (Ea Aa (i:Int)) (ee X i)).length=n:=by rw [Nk];exact sV.out i hlt
   rw [hjl] at Gr ⊢;clear hjl;have bQ:=ga.mk (Bu.out.below aQ.out);have uV:=ga.mk (HI.out st Yq w5 SJ.out aQ.out.size (fun k hk=>aQ.out.block k (Nat.lt_trans hk Bu.out.le)));have Q8:=ga.mk (Va bp.out aQ.out);have RJ:=ga.mk (And.intro (Ec bp.out) (And.intro Bu.out.le aQ.out.size));have XP:=ga.mk (show yp f ((Ea Aa (i:Int)).f0.take (Ea Aa (i:Int)).f0.length).reverse (sr (Ea Aa (i:Int)).f0 (Ea Aa (i:Int)).f0.length (Sg (Ea Aa (i:Int)) (ee X i))) st=Iw f Aa X st i by rw [List.take_length,nt];rfl);clear Bu SJ bp xZ aQ;generalize Yq.heap.size=N5 at Gr RJ;have TD:w5.cell? ⟨q7,0,none⟩=some (.slice Ac (Ea Aa (i:Int)).f0.length cc):=(ia Q8.out 0).trans rfl;have uw:(Ea Aa (i:Int)).f0.length ≤ 1048576:=wV.out.1;have ES:wrap64 (((Ea Aa (i:Int)).f0.length:Int) - 1)=((Ea Aa (i:Int)).f0.length:Int) - 1:=ij uw;have G8:=ga.mk ES;clear ES;go_wp2;clear TD
   go_loopg [9] (Ea Aa (i:Int)).f0.length (fun g6 v9 wr=>∃ (z:Int) (q:Nat) (st':St),v9 = .int .i64 z∧z + 1=(q:Int)∧q ≤ (Ea Aa (i:Int)).f0.length∧q ≤ g6∧ga (yp f ((Ea Aa (i:Int)).f0.take q).reverse (sr (Ea Aa (i:Int)).f0 q (Sg (Ea Aa (i:Int)) (ee X i))) st' = Iw f Aa X st i)∧ga (Inv st' wr)∧ga (uR S w (RD Xa Ra.length Ya La Ja n (some ag) Aa.length Fb) wr)∧ga (Kd.R Kd.bool 4 wr N5 (fun _=>True) (.slice As n cs) (sr (Ea Aa (i:Int)).f0 q (Sg (Ea Aa (i:Int)) (ee X i))))∧ga (N5 ≤ wr.heap.size)∧ga (wr.heap[q7]? = some (.cells #[.slice Ac (Ea Aa (i:Int)).f0.length cc,.int .i64 (Ea Aa (i:Int)).f1,.int .i64 (Ea Aa (i:Int)).f2,.int .i64 (Ea Aa (i:Int)).f3,.int .i64 (Ea Aa (i:Int)).f4] 59 (0,0))))
   case atStart=>exact ⟨((Ea Aa (i:Int)).f0.length:Int) - 1,(Ea Aa (i:Int)).f0.length,st,by first|rfl|(go_simp;done)|exact congrArg _ G8.out|go_num,by omega,Nat.le_refl _,Nat.le_refl _,XP,uV,bQ,⟨by rw [nt];exact Gr.out⟩,⟨RJ.out.2.2⟩,Q8⟩
   case round =>
    clear XP uV bQ Gr Q8;(try clear XP);(try clear uV);(try clear bQ);(try clear Gr);(try clear jag);(try clear Q8);obtain ⟨z,q,st',rfl,hz,hq,hg6,XP,uV,bQ,Gr,jag,Q8⟩:=hrel
    by_cases hz0:0 ≤ z
    ·obtain ⟨p,rfl⟩:∃ p:Nat,z=(p:Int):=⟨z.toNat,(Int.toNat_of_nonneg hz0).symm⟩;obtain rfl:q=p + 1:=by omega
     have kW:p < (Ea Aa (i:Int)).f0.length:=by omega
     have tS:decide ((p:Int) ≥ 0)=true:=decide_eq_true (by omega);have p1:0 ≤ (p:Int):=by omega
     have p2:(p:Int) < ((Ea Aa (i:Int)).f0.length:Int):=by omega
     have TD:wr.cell? ⟨q7,0,none⟩=some (.slice Ac (Ea Aa (i:Int)).f0.length cc):=(ia Q8.out 0).trans rfl;obtain ⟨aI,e5,k0,k1,k2,k3,k4,k5,k6⟩:=fo J3.out (p:Int) (by omega) (by omega);subst e5;simp only [Int.toNat_natCast] at k0 k1 k2 k3 k4 k5 k6;have HKC:=ga.mk (And.intro k0 (And.intro k1 (And.intro k2 (And.intro k3 (And.intro k4 (And.intro k5 k6))))));replace k0:=Yf k0 ND.out sE.out bQ.out.k;replace k1:=Yf k1 ND.out sE.out bQ.out.k;replace k2:=Yf k2 ND.out sE.out bQ.out.k;replace k3:=Yf k3 ND.out sE.out bQ.out.k;replace k4:=Yf k4 ND.out sE.out bQ.out.k;replace k5:=Yf k5 ND.out sE.out bQ.out.k;replace k6:=Yf k6 ND.out sE.out bQ.out.k;have KP:=ga.mk (show (sr (Ea Aa (i:Int)).f0 (p + 1) (Sg (Ea Aa (i:Int)) (ee X i))).length=n by rw [cw,Nk];exact sV.out i hlt);have vZ:=ga.mk (TC wV.out kW);have er:=HP.out wr st' (Da (Ea Aa (i:Int)).f0 (p:Int)) As cs (sr (Ea Aa (i:Int)).f0 (p + 1) (Sg (Ea Aa (i:Int)) (ee X i))) bQ.out.k uV.out vZ.out KP.out (fun W' hk=>(Kd.Bc (Kd.Zw (Kd.Bd (Kd.xg Gr.out) (fun k hk=>hk.2.1)) hk (fun k hk e=>by have:=HSS.out k e;have:=RJ.out;omega))).2.2) (by have:=(Kd.Bc Gr.out).2.1;rw [KP.out];exact this);rw [KP.out] at er;have E9:=ga.mk er;have eg2:=eg;clear er hz0
     go_upto_region 9 with (go_at_fn g;refine E9.out.mono ?_;rintro e w6 ⟨rfl,hi6,hk6,oV⟩;have tV:=ga.mk hi6;have HK6:=ga.mk hk6;have eI:=ga.mk oV;clear hi6 hk6 oV TD k0 k1 k2 k3 k4 k5 k6)
     have yV:=ga.mk (bQ.out.kept HSS.out HK6.out eI.out);have IL:=ga.mk (Kd.Zw (Kd.Bd (Kd.xg Gr.out) (fun k hk=>hk.2.1)) HK6.out (fun k hk e=>by have:=HSS.out k e;have:=RJ.out;omega));have HQ6:=ga.mk (Pf Q8.out HK6.out (fun e=>by have:=HSS.out _ e;have:=L2.out;omega));have QA:=ga.mk (show N5 ≤ w6.heap.size by have h1:=HK6.out.1;have:=jag.out;omega);obtain ⟨kb,ZZ⟩:=Ev.rounds (LH (sr (Ea Aa (i:Int)).f0 (p + 1) (Sg (Ea Aa (i:Int)) (ee X i))) (Da (Ea Aa (i:Int)).f0 (p:Int)) (by rw [KP.out];exact vZ.out));have x_:=ga.mk ZZ;have HCB:=ga.mk (Rw QA.out);have HSB:=ga.mk (show Kd.R Kd.bool 4 w6 (oE w6 N5).heap.size (fun k=>N5 ≤ k) (.slice As n cs) (sr (Ea Aa (i:Int)).f0 (p + 1) (Sg (Ea Aa (i:Int)) (ee X i))) by rw [xk QA.out];exact IL.out);obtain ⟨k0,k1,k2,k3,k4,k5,k6⟩:=HKC.out;replace k0:=Yf k0 ND.out sE.out yV.out.k;replace k1:=Yf k1 ND.out sE.out yV.out.k;replace k2:=Yf k2 ND.out sE.out yV.out.k;replace k3:=Yf k3 ND.out sE.out yV.out.k;replace k4:=Yf k4 ND.out sE.out yV.out.k;replace k5:=Yf k5 ND.out sE.out yV.out.k;replace k6:=Yf k6 ND.out sE.out yV.out.k;have TD:w6.cell? ⟨q7,0,none⟩=some (.slice (some aI) (Ea Aa (i:Int)).f0.length cc):=(ia HQ6.out 0).trans rfl;have hwp:wrap64 ((p:Int) - 1)=(p:Int) - 1:=ij (by omega);have o_:=ga.mk hwp;clear ZZ hwp;go_wp2_with (first|(go_at_call 79;(with_reducible refine (Rd.calls kb (fun k=>N5 ≤ k) (.slice As n cs) (sr (Ea Aa (i:Int)).f0 (p + 1) (Sg (Ea Aa (i:Int)) (ee X i))) (Da (Ea Aa (i:Int)).f0 (p:Int)).f0 (Da (Ea Aa (i:Int)).f0 (p:Int)).f1 (Da (Ea Aa (i:Int)).f0 (p:Int)).f2 (Da (Ea Aa (i:Int)).f0 (p:Int)).f3 (Da (Ea Aa (i:Int)).f0 (p:Int)).f4 (Da (Ea Aa (i:Int)).f0 (p:Int)).f5 (Da (Ea Aa (i:Int)).f0 (p:Int)).f6 _ (oE w6 N5) w6 HCB.out HSB.out x_.out).mono ?_);rintro e w7 ⟨rfl,ho,hb,hk⟩;have HS7:=ga.mk ho;have tR:=ga.mk hb;have z_:=ga.mk hk;clear ho hb hk TD k0 k1 k2 k3 k4 k5 k6))
     have mW:Below w.heap.size w6 w7:=by
      have hb:=tR.out;have hs:=xk QA.out;have h2:=RJ.out.2.1;refine ⟨hb.os,hb.tape,hb.output,z_.out.1,fun k hk=>z_.out.2 k (by have:=QA.out;omega) (by omega)⟩
     have HA7:=ga.mk (show uR S w _ w7 from ⟨yV.out.k.mo z_.out (fun k hk=>Or.inr (by have:=RJ.out.2.1;omega)),yV.out.b.trans (Gp mW),Pf yV.out.hx z_.out (by have:=RJ.out.2.1;omega)⟩);have HI7:=ga.mk (HI.out _ w6 w7 tV.out mW.size mW.block);have HQ7:=ga.mk (Pf HQ6.out z_.out (by have:=RJ.out.1;omega));have hs7:=HS7.out;rw [xk QA.out,← Fp kW] at hs7;have HS8:=ga.mk (Kd.Bd hs7 (fun _ _=>trivial:∀ k,_→(fun _:Nat=>True) k));have jT:=XP.out;rw [rD f kW,← Fp kW] at jT;have HF7:=ga.mk jT;clear hs7 jT mW
     go_roundg p
     case measure=>omega
     case rel=>exact ⟨(p:Int) - 1,p,_,by first|rfl|(go_simp;done)|exact congrArg _ o_.out|go_num,by omega,by omega,Nat.le_refl _,HF7,HI7,HA7,HS8,⟨Nat.le_trans QA.out z_.out.1⟩,HQ7⟩
    ·have tS:decide (z ≥ 0)=false:=decide_eq_false (by omega);obtain rfl:q=0:=by omega
     have jT:=XP.out;rw [List.take_zero,List.reverse_nil,show yp f [] (sr (Ea Aa (i:Int)).f0 0 (Sg (Ea Aa (i:Int)) (ee X i))) st' = st' from rfl] at jT;have HEN:=ga.mk (show Hg f Aa X (i + 1) st' = Hg f Aa X 0 V9 by rw [jT,← Bn f hlt];exact wZ.out);clear jT;go_wp2
     go_roundg (Aa.length - (i + 1))
     case measure=>omega
     case rel=>exact ⟨i + 1,st',by go_num,by omega,by omega,HEN,uV,bQ⟩
  ·have dr:decide ((i:Int) < (Aa.length:Int))=false:=decide_eq_false (by omega);obtain rfl:i=Aa.length:=by omega
   have heq:=wZ.out;rw [Xo] at heq;have HEE:=ga.mk heq;clear heq;go_wp2;refine bodyPost_end (v:=.tuple #[]) ?_ rfl ?_
   ·exact results_none rfl _ _ _
   exact ⟨rfl,by rw [← HEE.out];exact LL.out,HA.out.k,HA.out.b⟩
attribute [local go_sem] Jh tj
theorem Gx {bs:List (Re)} {n i:Nat} (hi:i < bs.length):ee (Ke bs n) i=Jl bs n i:=by
 unfold ee Ke;rw [List.getD_eq_getElem?_getD];simp [hi]
section
variable {bs:List Re} {n:Nat} (l0:List Int) (p v:Int)
end
theorem ZQ {b:Re} {s:List Bool} (hb:xu s.length b) (hs:s.length ≤ 1048576):kg.f b.f0 b.f1 b.f2 b.f3 b.f4 s=some (Sg b s):=by
 unfold kg.f Sg;rw [Option.bind_some,if_pos (by simp;omega),Option.bind_some,List.nil_append]
 by_cases hf:b.f1=0
 ·rw [if_pos hf,if_pos hf]
 ·have:=hb.2.1 hf;rw [if_neg hf,if_neg hf,if_pos (by omega),if_pos (by omega)]
section
variable {bs:List Re} {n:Nat} (l0:List Int) (p v:Int)
end
end Go.Proofs.Ytkigbdceceeenaa.P
end
section
namespace Go.Proofs.Ytkigbdceceeenaa.P
open Go.RowKit Go.Proofs.Pa.Ub Go.Proofs.Pa.Sd Go.Proofs.Pa.Xe
set_option linter.unusedVariables false
set_option linter.unusedSimpArgs false
def Sq (n:Nat) (T:List (List Bool)):Prop:=T.length=n∧∀ i,i < n→(ee T i).length=n
def KI (T:List (List Bool)) (a b:Nat):List (List Bool):=T.set a ((ee T a).set b true)
def IA (T:List (List Bool)) (a b:Nat):List (List Bool):=if a=b then T else KI (KI T a b) b a
structure GJ (n:Nat) (T:List (List Bool)) (P:Nat→Nat→Prop):Prop where
 sq:Sq n T
 so:∀ i j,i < n→j < n→(seen (ee T i) j=true ↔ i ≠ j∧(P i j ∨ P j i))
section
variable {n a b:Nat} {T U:List (List Bool)} {P Q:Nat→Nat→Prop}
theorem Sq.put (h:Sq n T) (ha:a < n) (b:Nat):Sq n (KI T a b):=by
 refine ⟨by unfold KI;rw [List.length_set];exact h.1,fun i hi=>?_⟩;unfold KI;rw [Yn (by rw [h.1];exact ha)]
 by_cases e:a=i
 ·rw [if_pos e,List.length_set];exact h.2 a ha
 ·rw [if_neg e];exact h.2 i hi
theorem AE (h:Sq n T) (ha:a < n) (hb:b < n) (i j:Nat):seen (ee (KI T a b) i) j=true ↔ seen (ee T i) j=true ∨ (a=i∧b=j):=by
 unfold KI;rw [Yn (by rw [h.1];exact ha)]
 by_cases e:a=i
 ·subst e;rw [if_pos rfl,zi (by rw [h.2 a ha];exact hb)]
  by_cases e2:b=j
  ·rw [if_pos e2];exact ⟨fun _=>Or.inr ⟨rfl,e2⟩,fun _=>rfl⟩
  ·rw [if_neg e2];exact ⟨Or.inl,fun h=>h.resolve_right (fun h=>e2 h.2)⟩
 ·rw [if_neg e];exact ⟨Or.inl,fun h=>h.resolve_right (fun h=>e h.1)⟩
theorem Sq.meet (h:Sq n T) (ha:a < n) (hb:b < n):Sq n (IA T a b):=by
 unfold IA
 by_cases e:a=b
 ·rw [if_pos e];exact h
 ·rw [if_neg e];exact (h.put ha b).put hb a
theorem GJ.Ap (h:GJ n T P) (hp:∀ i j,P i j ↔ Q i j):GJ n T Q:=⟨h.sq,fun i j hi hj=>by rw [h.so i j hi hj,hp,hp]⟩
theorem GJ.meet (h:GJ n T P) (ha:a < n) (hb:b < n):GJ n (IA T a b) (fun i j=>P i j ∨ (i=a∧j=b)):=by
 refine ⟨h.sq.meet ha hb,fun i j hi hj=>?_⟩;unfold IA
 by_cases e:a=b
 ·rw [if_pos e,h.so i j hi hj]
  constructor
  ·rintro ⟨h1,h2⟩;exact ⟨h1,h2.imp Or.inl Or.inl⟩
  ·rintro ⟨h1,h2⟩;refine ⟨h1,?_⟩
   rcases h2 with (h2|⟨h3,h4⟩)|(h2|⟨h3,h4⟩)
   ·exact Or.inl h2
   ·exact absurd (h3.trans (e.trans h4.symm)) h1
   ·exact Or.inr h2
   ·exact absurd (h4.trans (e.symm.trans h3.symm)) h1
 ·rw [if_neg e,AE (h.sq.put ha b) hb ha,AE h.sq ha hb,h.so i j hi hj]
  constructor
  ·rintro ((⟨h1,h2⟩|⟨rfl,rfl⟩)|⟨rfl,rfl⟩)
   ·exact ⟨h1,h2.imp Or.inl Or.inl⟩
   ·exact ⟨e,Or.inl (Or.inr ⟨rfl,rfl⟩)⟩
   ·exact ⟨fun h=>e h.symm,Or.inr (Or.inr ⟨rfl,rfl⟩)⟩
  ·rintro ⟨h1,(h2|⟨rfl,rfl⟩)|(h2|⟨rfl,rfl⟩)⟩
   ·exact Or.inl (Or.inl ⟨h1,Or.inl h2⟩)
   ·exact Or.inl (Or.inr ⟨rfl,rfl⟩)
   ·exact Or.inl (Or.inl ⟨h1,Or.inr h2⟩)
   ·exact Or.inr ⟨rfl,rfl⟩
theorem GJ.ext (h:GJ n T P) (h2:GJ n U Q) (hp:∀ i j,i ≠ j→((P i j ∨ P j i) ↔ (Q i j ∨ Q j i))):T=U:=by
 apply List.ext_getElem
 ·rw [h.sq.1,h2.sq.1]
 ·intro i h1 h3;have e1:T[i]=ee T i:=by simp [ee,List.getD_eq_getElem?_getD,h1]
  have e2:U[i]=ee U i:=by simp [ee,List.getD_eq_getElem?_getD,h3]
  rw [e1,e2];have hi:i < n:=by rw [← h.sq.1];exact h1
  have l1:=h.sq.2 i hi;have l2:=h2.sq.2 i hi;refine JC (by rw [l1,l2]) (fun j=>?_)
  constructor
  ·intro hs;have hj:j < n:=by have:=Sk hs;omega
   have ⟨x,y⟩:=(h.so i j hi hj).1 hs;exact (h2.so i j hi hj).2 ⟨x,(hp i j x).1 y⟩
  ·intro hs;have hj:j < n:=by have:=Sk hs;omega
   have ⟨x,y⟩:=(h2.so i j hi hj).1 hs;exact (h.so i j hi hj).2 ⟨x,(hp i j x).2 y⟩
theorem GR {n m i:Nat} (hi:i < m):ee (List.replicate m (List.replicate n false)) i=List.replicate n false:=by
 unfold ee;rw [List.getD_eq_getElem?_getD,List.getElem?_replicate,if_pos hi];rfl
theorem GJ.start (n:Nat):GJ n (List.replicate n (List.replicate n false)) (fun _ _=>False) :=
 ⟨⟨by simp,fun i hi=>by rw [GR hi];simp⟩,fun i j hi _=>by
  rw [GR hi,Sz]
  exact ⟨fun h=>(by cases h),fun h=>h.2.elim False.elim False.elim⟩⟩
end
def zg (P:Nat→Nat→Prop) (x:Be) (s:List Bool):Nat→Nat→Prop:=fun i j=>P i j ∨ (Vp x ≥ 0∧i=(Vp x).toNat∧seen s j=true)
def aM:Nat→Nat→Prop:=fun _ _=>False
theorem RE (l:List Be):∀ (s:List Bool) (P:Nat→Nat→Prop) (a b:Nat),yp zg l s P a b ↔ P a b ∨ yp zg l s aM a b:=by
 induction l with
 | nil=>intro s P a b;exact ⟨Or.inl,fun h=>h.elim id False.elim⟩
 | cons x r ih =>
  intro s P a b
  show yp zg r (Am s x) (zg P x s) a b ↔ P a b ∨ yp zg r (Am s x) (zg aM x s) a b
  rw [ih _ (zg P x s),ih _ (zg aM x s)];unfold zg aM
  constructor
  ·rintro ((h|h)|h)
   ·exact Or.inl h
   ·exact Or.inr (Or.inl (Or.inr h))
   ·exact Or.inr (Or.inr h)
  ·rintro (h|(h|h)|h)
   ·exact Or.inl (Or.inl h)
   ·exact h.elim
   ·exact Or.inl (Or.inr h)
   ·exact Or.inr h
theorem NH (bs:List Re) (X:List (List Bool)):∀ (d i:Nat) (P E:Nat→Nat→Prop) (a b:Nat),i + d=bs.length→(Hg zg bs X i (fun i j=>P i j ∨ E i j) a b ↔ Hg zg bs X i P a b ∨ E a b):=by
 intro d
 induction d with
 | zero =>
  intro i P E a b hi;obtain rfl:i=bs.length:=by omega
  rw [Xo,Xo]
 | succ d ih =>
  intro i P E a b hi;have hib:i < bs.length:=by omega
  rw [Bn zg hib,Bn zg hib]
  have he:Iw zg bs X (fun i j=>P i j ∨ E i j) i=fun a b=>Iw zg bs X P i a b ∨ E a b:=by
   funext a b
   unfold Iw;rw [RE _ _ (fun i j=>P i j ∨ E i j),RE _ _ P];exact propext ⟨fun h=>h.elim (fun h=>h.elim (fun h=>Or.inl (Or.inl h)) Or.inr) (fun h=>Or.inl (Or.inr h)),fun h=>h.elim (fun h=>h.elim (fun h=>Or.inl (Or.inl h)) Or.inr) (fun h=>Or.inl (Or.inr h))⟩
  rw [he];exact ih (i + 1) _ E a b (by omega)
noncomputable def ZC (bs:List Re) (n:Nat):List Bool:=KA (Ea bs ((0:Nat):Int)) (Jl bs n 0)
noncomputable def SC (bs:List Re) (n:Nat):Nat→Nat→Prop:=fun a b=>Hg zg bs (Ke bs n) 0 aM a b ∨ (seen (ZC bs n) a=true∧seen (ZC bs n) b=true)
noncomputable def oo (bs:List Re) (n:Nat):List (List Bool):=open Classical in (List.range n).map fun i=>(List.range n).map fun j=>decide (i ≠ j∧(SC bs n i j ∨ SC bs n j i))
theorem IE (bs:List Re) (n:Nat):(oo bs n).length=n:=by simp [oo]
theorem Yz (bs:List Re) (n:Nat):GJ n (oo bs n) (SC bs n):=by
 have hr:∀ i,i < n→ee (oo bs n) i=(open Classical in (List.range n).map fun j=>decide (i ≠ j∧(SC bs n i j ∨ SC bs n j i))):=fun i hi=>by
  unfold ee oo;rw [List.getD_eq_getElem?_getD];simp [hi]
 refine ⟨⟨IE bs n,fun i hi=>by rw [hr i hi];simp⟩,fun i j hi hj=>?_⟩;rw [hr i hi];simp [seen,List.getD_eq_getElem?_getD,hj]
theorem sQ {bs:List Re} {n i:Nat} (hi:i < n):(ee (oo bs n) i).length=n:=(Yz bs n).sq.2 i hi
end Go.Proofs.Ytkigbdceceeenaa.P
end
section
namespace Go.Proofs.Ytkigbdceceeenaa.P
open Go.RowKit Go.Proofs.Pa.Ub Go.Proofs.Pa.Sd Go.Proofs.Pa.Xe
set_option linter.unusedVariables false
set_option linter.unusedSimpArgs false
theorem mF {W:World} {base g c n a b:Nat} {PB:Nat→Prop} {T:List (List Bool)} (h:Kd.S (Kd.slice 4 Kd.bool) 60 W base PB (.slice (some ⟨g,0,none⟩) n c) T) (hq:Sq n T) (ha:a < n) (hb:b < n) :
  ∃ (gi c2:Nat) (v:Bool),W.cell? ⟨g,a,none⟩=some (.slice (some ⟨gi,0,none⟩) n c2)∧W.cell? ⟨gi,b,none⟩=some (.bool v)∧W.frozen? ⟨gi,b,none⟩=false ∧
   Kd.S (Kd.slice 4 Kd.bool) 60 (W.setCell ⟨gi,b,none⟩ (.bool true)) base PB (.slice (some ⟨g,0,none⟩) n c) (KI T a b)∧Kept W (W.setCell ⟨gi,b,none⟩ (.bool true)) PB∧Below 0 W (W.setCell ⟨gi,b,none⟩ (.bool true)):=by
 have hl:=hq.2 a ha;obtain ⟨gi,c2,h1,h2,h3,h4,h5⟩:=yU false h ha (show b < (T.getD a []).length from by rw [show T.getD a []=ee T a from rfl,hl];exact hb);rw [show (T.getD a []).length=n from hl] at h1;exact ⟨gi,c2,_,h1,h3,h4,(h5 true).1,(Kept.refl W PB).setCell (p:=⟨gi,b,none⟩) (Or.inl h2) (.bool true),(Below.refl 0 W).setCell (Nat.zero_le _) _⟩
theorem nF (base n a b:Nat) (PB:Nat→Prop) (v:Value) (T:List (List Bool)) (w:World) (h:Kd.S (Kd.slice 4 Kd.bool) 60 w base PB v T) (hq:Sq n T) (ha:a < n) (hb:b < n) (hn:n ≤ 1048576) :
  Calls Try.prog 84 #[v,.int .i64 (a:Int),.int .i64 (b:Int)] w fun e w'=>e = .returned (.tuple #[])∧Kd.S (Kd.slice 4 Kd.bool) 60 w' base PB v (IA T a b)∧Kept w w' PB∧Below 0 w w':=by
 obtain ⟨g,c,rfl,-⟩:=Kd.Vw h (by rw [hq.1];omega);rw [hq.1] at h ⊢;have HH:=ga.mk h;unfold IA
 by_cases e:a=b
 ·subst e;rw [if_pos rfl];clear h;go_enter Try.func84,Try.ntmps84;go_wp2;refine bodyPost_end (v:=.tuple #[]) ?_ rfl ?_
  ·exact results_none rfl _ _ _
  exact ⟨rfl,HH.out,Kept.refl _ _,Below.refl _ _⟩
 ·rw [if_neg e];have HQ:=ga.mk hq;have hne:¬ ((a:Int)=(b:Int)):=by omega
  have a1:0 ≤ (a:Int):=by omega
  have a2:(a:Int) < (n:Int):=by omega
  have b1:0 ≤ (b:Int):=by omega
  have b2:(b:Int) < (n:Int):=by omega
  obtain ⟨gi,c2,z,p1,p2,hfz,p4,p5,p6⟩:=mF h hq ha hb;have H4:=ga.mk p4;have H5:=ga.mk p5;have H6:=ga.mk p6;clear h hq p4 p5 p6;go_enter Try.func84,Try.ntmps84
  go_upto_region 2 with (fail)
  clear p1 p2 hfz;generalize w.setCell ⟨gi,b,none⟩ (.bool true)=w1 at H4 H5 H6 ⊢;obtain ⟨gj,c3,z2,p1,p2,hfz,p4,p5,p6⟩:=mF H4.out (HQ.out.put ha b) hb ha;have H7:=ga.mk p4;have H8:=ga.mk (H5.out.mo p5 (fun _ h=>Or.inl h));have H9:=ga.mk (H6.out.trans p6);clear p4 p5 p6 H4 H5 H6;go_wp2;refine bodyPost_end (v:=.tuple #[]) ?_ rfl ?_
  ·exact results_none rfl _ _ _
  exact ⟨rfl,H7.out,H8.out,H9.out⟩
theorem BF (base n a b q:Nat) (PB:Nat→Prop) (v:Value) (T:List (List Bool)) (w:World) (hx:w.heap[q]? = some (.cells #[v] 55 (0,0))) (hpq:¬ PB q) (h:Kd.S (Kd.slice 4 Kd.bool) 60 w base PB v T) (hq:Sq n T) (ha:a < n) (hb:b < n) (hn:n ≤ 1048576) :
  Calls Try.prog 85 #[.int .i64 (a:Int),.int .i64 (b:Int),.pointer (some ⟨q,0,none⟩)] w fun e w'=>e = .returned (.tuple #[])∧Kd.S (Kd.slice 4 Kd.bool) 60 w' base PB v (IA T a b)∧Kept w w' PB∧Below 0 w w':=by
 obtain ⟨g,c,rfl,-⟩:=Kd.Vw h (by rw [hq.1];omega);rw [hq.1] at h hx ⊢;have HH:=ga.mk h;unfold IA
 by_cases e:a=b
 ·subst e;rw [if_pos rfl];clear h;go_enter Try.func85,Try.ntmps85;go_wp2;refine bodyPost_end (v:=.tuple #[]) ?_ rfl ?_
  ·exact results_none rfl _ _ _
  exact ⟨rfl,HH.out,Kept.refl _ _,Below.refl _ _⟩
 ·rw [if_neg e];have HQ:=ga.mk hq;have hne:¬ ((a:Int)=(b:Int)):=by omega
  have a1:0 ≤ (a:Int):=by omega
  have a2:(a:Int) < (n:Int):=by omega
  have b1:0 ≤ (b:Int):=by omega
  have b2:(b:Int) < (n:Int):=by omega
  obtain ⟨gi,c2,z,p1,p2,hfz,p4,p5,p6⟩:=mF h hq ha hb;have hx0:w.cell? ⟨q,0,none⟩=some (.slice (some ⟨g,0,none⟩) n c):=(ia hx 0).trans rfl;have HX:=ga.mk (Pf hx p5 hpq);have H4:=ga.mk p4;have H5:=ga.mk p5;have H6:=ga.mk p6;clear h hq p4 p5 p6 hx;go_enter Try.func85,Try.ntmps85
  go_upto_region 2 with (fail)
  clear p1 p2 hfz hx0;generalize w.setCell ⟨gi,b,none⟩ (.bool true)=w1 at H4 H5 H6 HX ⊢;obtain ⟨gj,c3,z2,p1,p2,hfz,p4,p5,p6⟩:=mF H4.out (HQ.out.put ha b) hb ha;have hx0:w1.cell? ⟨q,0,none⟩=some (.slice (some ⟨g,0,none⟩) n c):=(ia HX.out 0).trans rfl;have H7:=ga.mk p4;have H8:=ga.mk (H5.out.mo p5 (fun _ h=>Or.inl h));have H9:=ga.mk (H6.out.trans p6);clear p4 p5 p6 H4 H5 H6;go_wp2;refine bodyPost_end (v:=.tuple #[]) ?_ rfl ?_
  ·exact results_none rfl _ _ _
  exact ⟨rfl,H7.out,H8.out,H9.out⟩
structure ZJ (base n q qf:Nat) (PB:Nat→Prop) (v:Value) (P:Nat→Nat→Prop) (W:World):Prop where
 hf:W.heap[qf]? = some (.cells #[.func (.func 85) #[] #[.pointer (some ⟨q,0,none⟩)]] 101 (0,0))
 hx:W.heap[q]? = some (.cells #[v] 55 (0,0))
 pf:¬ PB qf
 pq:¬ PB q
 t:∃ T,Kd.S (Kd.slice 4 Kd.bool) 60 W base PB v T∧GJ n T P
def Wp (P:Nat→Nat→Prop) (x:Be) (s:List Bool) (u:Nat):Nat→Nat→Prop:=fun i j=>P i j ∨ (Vp x ≥ 0∧i=(Vp x).toNat∧j < u∧seen s j=true)
theorem OZ {n:Nat} {x:Be} (hx:bu n x) (h:Vp x ≥ 0):(Vp x).toNat < n:=by
 have h2:=hx.2;unfold Vp at h ⊢
 by_cases h4:x.f0=4
 ·rw [if_pos h4] at h;omega
 ·rw [if_neg h4] at h ⊢
  by_cases h6:x.f0=6
  ·rw [if_pos h6] at h;omega
  ·rw [if_neg h6];have:=h2 h4 h6;omega
theorem dS (x:Be):ji.f x.f0 x.f1 x.f2 x.f3 x.f4 x.f5 x.f6=some (Vp x):=by
 unfold ji.f Vp
 by_cases h4:x.f0=4
 ·rw [if_pos h4,if_pos h4]
 ·rw [if_neg h4,if_neg h4]
  by_cases h6:x.f0=6
  ·rw [if_pos h6,if_pos h6]
  ·rw [if_neg h6,if_neg h6]
theorem ZJ.below {base n q qf:Nat} {PB:Nat→Prop} {v:Value} {P:Nat→Nat→Prop} {W W':World} (h:ZJ base n q qf PB v P W) (hb:Below W.heap.size W W'):ZJ base n q qf PB v P W':=by
 obtain ⟨T,h1,h2⟩:=h.t;exact ⟨Va h.hf hb,Va h.hx hb,h.pf,h.pq,T,Kd.Yd h1 hb,h2⟩
theorem ZJ.Ap {base n q qf:Nat} {PB:Nat→Prop} {v:Value} {P Q:Nat→Nat→Prop} {W:World} (h:ZJ base n q qf PB v P W) (hp:∀ i j,P i j ↔ Q i j):ZJ base n q qf PB v Q W:=by
 obtain ⟨T,h1,h2⟩:=h.t;exact ⟨h.hf,h.hx,h.pf,h.pq,T,h1,h2.Ap hp⟩
theorem ZJ.call {base n q qf a b:Nat} {PB:Nat→Prop} {v:Value} {P:Nat→Nat→Prop} {W:World} (h:ZJ base n q qf PB v P W) (ha:a < n) (hb:b < n) (hn:n ≤ 1048576) :
  Calls Try.prog 85 #[.int .i64 (a:Int),.int .i64 (b:Int),.pointer (some ⟨q,0,none⟩)] W fun e w'=>e = .returned (.tuple #[])∧ZJ base n q qf PB v (fun i j=>P i j ∨ (i=a∧j=b)) w'∧Kept W w' PB∧Below 0 W w':=by
 obtain ⟨T,h1,h2⟩:=h.t;refine (BF base n a b q PB v T W h.hx h.pq h1 h2.sq ha hb hn).mono ?_;rintro e w' ⟨e1,e2,e3,e4⟩;exact ⟨e1,⟨Pf h.hf e3 h.pf,Pf h.hx e3 h.pq,h.pf,h.pq,_,e2,h2.meet ha hb⟩,e3,e4⟩
theorem xF (base n q qf:Nat) (PB:Nat→Prop) (v:Value) (P:Nat→Nat→Prop) (x:Be) (A:Option Addr) (c:Nat) (s:List Bool) (w:World)
  (hI:ZJ base n q qf PB v P w) (hpb:∀ k,PB k→k < w.heap.size) (hi:bu n x) (hs:s.length=n) (hn:n ≤ 1048576) (hC:∀ W',Kept w W' PB→Kd.C Kd.bool W' A s.length s) (hc:s.length ≤ c) :
  Calls Try.prog 86 #[.agg #[.int .i64 x.f0,.int .i64 x.f1,.int .i64 x.f2,.int .i64 x.f3,.int .i64 x.f4,.int .i64 x.f5,.string x.f6],.slice A s.length c,.pointer (some ⟨qf,0,none⟩)] w fun e w'=>e = .returned (.tuple #[])∧ZJ base n q qf PB v (zg P x s) w'∧Kept w w' PB∧Below 0 w w':=by
 subst hs;have HC:=ga.mk hC;have J3:=ga.mk hc;have vZ:=ga.mk hi;have OU:=ga.mk hpb;have wI:=ga.mk (qa (Below.refl w.heap.size w) (.cells #[.int .i64 x.f0,.int .i64 x.f1,.int .i64 x.f2,.int .i64 x.f3,.int .i64 x.f4,.int .i64 x.f5,.string x.f6] 65 (0,0)));have HX1:=ga.mk (Qj w (.cells #[.int .i64 x.f0,.int .i64 x.f1,.int .i64 x.f2,.int .i64 x.f3,.int .i64 x.f4,.int .i64 x.f5,.string x.f6] 65 (0,0)));have B9:=ga.mk ((hI.below wI.out).Ap (Q:=Wp P x s 0) (fun i j=>Iff.intro Or.inl (fun h=>h.elim id (fun h=>absurd h.2.2.1 (Nat.not_lt_zero _)))));have eg:∀ args w,(callFunc 85 args).run Try.prog w = .ok (.enter 85 args) w:=enters_of Try.func85 (by kernel_rfl) rfl;clear hC hc hi hpb hI;go_enter Try.func86,Try.ntmps86
 go_upto_region 1 with (fail)
 generalize w.alloc (.cells #[.int .i64 x.f0,.int .i64 x.f1,.int .i64 x.f2,.int .i64 x.f3,.int .i64 x.f4,.int .i64 x.f5,.string x.f6] 65 (0,0))=w1 at wI HX1 B9 ⊢;have Xf:=ga.mk (Kept.Ad wI.out PB);have HZ1:=ga.mk (Gp wI.out);clear wI;go_wp2
 go_loopg [10] s.length (fun g v10 wr=>∃ (i:Nat),v10 = .int .i64 i∧i ≤ s.length∧s.length - i ≤ g∧ga (ZJ base s.length q qf PB v (Wp P x s i) wr)∧ga (Kept w wr PB)∧ga (Below 0 w wr)∧ga (wr.heap[w.heap.size]? = some (.cells #[.int .i64 x.f0,.int .i64 x.f1,.int .i64 x.f2,.int .i64 x.f3,.int .i64 x.f4,.int .i64 x.f5,.string x.f6] 65 (0,0))))
 case atStart=>exact ⟨0,rfl,Nat.zero_le _,by omega,B9,Xf,HZ1,HX1⟩
 case round =>
  clear B9 Xf HZ1 HX1;(try clear HI);(try clear HK);(try clear HZ);(try clear HX);obtain ⟨i,rfl,hi,hg,HI,HK,HZ,HX⟩:=hrel
  by_cases hlt:i < s.length
  ·have dr:decide ((i:Int) < (s.length:Int))=true:=decide_eq_true (by omega);have i1:0 ≤ (i:Int):=by omega
   have i2:(i:Int) < (s.length:Int):=by omega
   obtain ⟨ad,e1,Vn⟩:=Jx (HC.out wr HK.out) hlt;subst e1;have hx0:wr.cell? ⟨w.heap.size,0,none⟩=some (.int .i64 x.f0):=(ia HX.out 0).trans rfl;have hx1:wr.cell? ⟨w.heap.size,1,none⟩=some (.int .i64 x.f1):=(ia HX.out 1).trans rfl;have Ku:wr.cell? ⟨w.heap.size,2,none⟩=some (.int .i64 x.f2):=(ia HX.out 2).trans rfl;have Lp:wr.cell? ⟨w.heap.size,3,none⟩=some (.int .i64 x.f3):=(ia HX.out 3).trans rfl;have Yp:wr.cell? ⟨w.heap.size,4,none⟩=some (.int .i64 x.f4):=(ia HX.out 4).trans rfl;have dM:wr.cell? ⟨w.heap.size,5,none⟩=some (.int .i64 x.f5):=(ia HX.out 5).trans rfl;have nI:wr.cell? ⟨w.heap.size,6,none⟩=some (.string x.f6):=(ia HX.out 6).trans rfl;have v_:=ga.mk (dS x)
   go_upto_region 5 with (first|(go_at_call 87;(with_reducible refine (ji.calls x.f0 x.f1 x.f2 x.f3 x.f4 x.f5 x.f6 (Vp x) wr v_.out).mono ?_);rintro e w2 ⟨rfl,hb⟩;have Mt:=ga.mk hb;clear hb hx0 hx1 Ku Lp Yp dM nI Vn))
   have HI2:=ga.mk (HI.out.below Mt.out);have Dr:=ga.mk (HK.out.below Mt.out);have HZ2:=ga.mk (HZ.out.trans (Gp Mt.out));have HX2:=ga.mk (Va HX.out Mt.out);clear HI HK HZ HX Mt i1 i2 dr
   by_cases oI:seen s i=true∧Vp x ≥ 0
   ·obtain ⟨wM,hm⟩:=oI;obtain ⟨D,hD⟩:∃ D:Nat,Vp x=(D:Int):=⟨(Vp x).toNat,(Int.toNat_of_nonneg hm).symm⟩;have hDn:D < s.length:=by have:=OZ vZ.out hm;omega
    have HDD:=ga.mk hD;rw [hD];rw [wM];have hd0:decide ((D:Int) ≥ 0)=true:=decide_eq_true (by omega);have hf0:w2.cell? ⟨qf,0,none⟩=some (.func (.func 85) #[] #[.pointer (some ⟨q,0,none⟩)]):=(ia HI2.out.hf 0).trans rfl;have I3:=ga.mk (HI2.out.call hDn hlt hn);have r_:=ga.mk wM;clear hm hD wM;go_wp2_with (go_at_fn 85;refine I3.out.mono ?_;rintro e w3 ⟨rfl,h1,h2,h3⟩;have HI3:=ga.mk h1;have tC:=ga.mk (Dr.out.mo h2 (fun _ h=>Or.inl h));have HZ3:=ga.mk (HZ2.out.trans h3);have HX3:=ga.mk (Pf HX2.out h2 (fun e=>by have:=OU.out _ e;omega));clear h1 h2 h3 hf0)
    have LL:=ga.mk (HI3.out.Ap (Q:=Wp P x s (i + 1)) (fun a b=>by
     unfold Wp;have h1:=HDD.out
     constructor
     ·rintro ((h|⟨h2,h3,h4,h5⟩)|⟨rfl,rfl⟩)
      ·exact Or.inl h
      ·exact Or.inr ⟨h2,h3,by omega,h5⟩
      ·exact Or.inr ⟨by omega,by omega,by omega,r_.out⟩
     ·rintro (h|⟨h2,h3,h4,h5⟩)
      ·exact Or.inl (Or.inl h)
      ·by_cases e:b=i
       ·exact Or.inr ⟨by omega,e⟩
       ·exact Or.inl (Or.inr ⟨h2,h3,by omega,h5⟩)))
    go_roundg (s.length - (i + 1))
    case measure=>omega
    case rel=>exact ⟨i + 1,by go_num,by omega,by omega,LL,tC,HZ3,HX3⟩
   ·have LL:=ga.mk (HI2.out.Ap (Q:=Wp P x s (i + 1)) (fun a b=>by
     unfold Wp
     constructor
     ·rintro (h|⟨h2,h3,h4,h5⟩)
      ·exact Or.inl h
      ·exact Or.inr ⟨h2,h3,by omega,h5⟩
     ·rintro (h|⟨h2,h3,h4,h5⟩)
      ·exact Or.inl h
      ·by_cases e:b=i
       ·subst e;exact absurd ⟨h5,h2⟩ oI
       ·exact Or.inr ⟨h2,h3,by omega,h5⟩))
    have HGO:=ga.mk oI;clear oI HI2;cases wM:seen s i with
    | false =>
     clear wM;go_wp2
     go_roundg (s.length - (i + 1))
     case measure=>omega
     case rel=>exact ⟨i + 1,by go_num,by omega,by omega,LL,Dr,HZ2,HX2⟩
    | true =>
     have hd0:decide (Vp x ≥ 0)=false:=decide_eq_false (fun h=>HGO.out ⟨wM,h⟩);clear wM;go_wp2
     go_roundg (s.length - (i + 1))
     case measure=>omega
     case rel=>exact ⟨i + 1,by go_num,by omega,by omega,LL,Dr,HZ2,HX2⟩
  ·have dr:decide ((i:Int) < (s.length:Int))=false:=decide_eq_false (by omega)
   have LL:=ga.mk (HI.out.Ap (Q:=zg P x s) (fun a b=>by
    unfold Wp zg
    constructor
    ·rintro (h|⟨h2,h3,h4,h5⟩)
     ·exact Or.inl h
     ·exact Or.inr ⟨h2,h3,h5⟩
    ·rintro (h|⟨h2,h3,h5⟩)
     ·exact Or.inl h
     ·exact Or.inr ⟨h2,h3,by have:=Sk h5;omega,h5⟩))
   go_wp2;refine bodyPost_end (v:=.tuple #[]) ?_ rfl ?_
   ·exact results_none rfl _ _ _
   exact ⟨rfl,LL.out,HK.out,HZ.out⟩
end Go.Proofs.Ytkigbdceceeenaa.P
end
