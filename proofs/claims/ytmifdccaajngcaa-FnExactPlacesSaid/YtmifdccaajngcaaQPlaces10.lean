import Derived.Shelf.Abstract
import Derived.Outline
import Derived.RegionTactic
import Derived.Test.YtmifdccaajngcaaQPlaces1
import Derived.Test.YtmifdccaajngcaaQPlaces5
import Derived.Test.YtmifdccaajngcaaQPlaces9
import Derived.Test.YtmifdccaajngcaaQPlaces6
import Derived.Test.YtmifdccaajngcaaQPlaces4
import Derived.Deep.QuietTactic
import Derived.BigQuiet
import Derived.Test.YtmifdccaajngcaaQPlaces2
import Derived.Test.YtmifdccaajngcaaQPlaces3
import Derived.Test.YtmifdccaajngcaaQPlaces8
set_option maxHeartbeats 8000000
set_option maxRecDepth 100000
section
namespace Go.Proofs.Ytmifdccaajngcaa.P
open Go.RowKit Go.Proofs.Sa.Ec Go.Proofs.Sa.Bf Go.Proofs.Sa.Yg
set_option linter.unusedVariables false
set_option linter.unusedSimpArgs false
def Im (s:Int) (x:yf):Bool:=!(x.f0 == 3 || x.f0 == 4) || (Tj s x.f3 && decide (x.f2 < s))
theorem Eu {s:Int} {x:yf} {n:Nat} (hn:s=(n:Int)) (h:Im s x=true):x.f0=3 ∨ x.f0=4→(0 ≤ x.f3∧x.f3 < (n:Int))∧x.f2 < (n:Int):=by
 subst hn
 unfold Im Tj at h
 simp only [Bool.and_eq_true,Bool.or_eq_true,Bool.not_eq_true',Bool.or_eq_false_iff,beq_eq_false_iff_ne,decide_eq_true_eq] at h
 intro ho
 rcases h with h|h
 ·exact absurd ho (by omega)
 ·exact ⟨⟨h.1.1,h.1.2⟩,h.2⟩
def ei (code:List yf) (n j:Nat):List af:=(List.range j).map fun (i:Nat)=>Il (Rg (idents n) (n:Int) (code.take i)).1 (Ea code (i:Int))
theorem Om (code:List yf) (n j:Nat):(ei code n j).length=j:=by simp [ei]
theorem bu (code:List yf) (n j:Nat):ei code n (j + 1)=ei code n j ++ [Il (Rg (idents n) (n:Int) (code.take j)).1 (Ea code (j:Int))]:=by
 unfold ei
 rw [List.range_succ,List.map_append]
 rfl
def dg.f (k:Nat) (Ta:List Int) (Pa:Int) (Oa:Int) (Ma:Int) (Ra:List (Dh)) (a1:Int):Option (List af) :=
 if 0 ≤ a1∧a1 < (Ra.length:Int) then
  if (xo Ma (Ua Ra a1).f0 && (Ua Ra a1).f0.all (Im Ma))=true then some (ei (Ua Ra a1).f0 Ma.toNat (Ua Ra a1).f0.length) else none
 else none
theorem dg.mono:∀ a0 a1 a2 a3 a4 a5 k,Nb (dg.f k a0 a1 a2 a3 a4 a5) (dg.f (k + 1) a0 a1 a2 a3 a4 a5):=fun _ _ _ _ _ _ _=>Nb.refl _
theorem xU {α:Type} {d:Kd α} {e N:Nat} {W W':World} {ok:Nat→Prop} {v:Value} {xs:List α} (h:d.R e W N ok v xs) (hk:Kept W W' (KT W)) (he:∀ q,q ∈ e :: d.E→q ≠ 74∧q ≠ 79):d.R e W' N ok v xs:=by
 refine Kd.Hg (Kd.dm (Kd.zj h) hk ?_) (fun _ hk=>hk.1)
 rintro k_ ⟨_,_,_,q,hq,cells,hc⟩ ⟨cM,t2,CA,ht⟩
 rw [hc] at CA
 injection CA with CA
 injection CA with _ CA
 have:=he q hq
 rw [CA] at this
 rcases ht with rfl|rfl
 ·exact this.1 rfl
 ·exact this.2 rfl
theorem dg.calls (k:Nat) (Eb:Option Addr) (Db:Nat) (Ta:List Int) (Pa:Int) (Oa:Int) (Ma:Int) (yc:Option Addr) (Zb:Nat) (Ra:List (Dh)) (a1:Int) (r:List af) (w:World) (Kf:Kd.C (Kd.int .i64) w Eb Ta.length Ta) (Gf:Ta.length ≤ Db) (Bg:Kd.C Tp w yc Ra.length Ra) (Jg:Ra.length ≤ Zb) (h:dg.f k Ta Pa Oa Ma Ra a1=some r) :
  Calls Try.prog 79 #[.agg #[.slice Eb Ta.length Db,.int .i64 Pa,.int .i64 Oa,.int .i64 Ma,.slice yc Ra.length Zb],.int .i64 a1] w fun e w'=>∃ v0_:Value,e = .returned (v0_)∧Kd.R Dj 103 w' w.heap.size (fun _=>True) v0_ r∧Below w.heap.size w w':=by
 unfold dg.f at h
 by_cases hq:0 ≤ a1∧a1 < (Ra.length:Int)
 case neg=>rw [if_neg hq] at h;cases h
 rw [if_pos hq] at h
 by_cases hok:(xo Ma (Ua Ra a1).f0 && (Ua Ra a1).f0.all (Im Ma))=true
 case neg=>rw [if_neg hok] at h;cases h
 rw [if_pos hok] at h
 have hr:=Option.some.inj h
 have hm4:=Bg.2.1
 obtain ⟨q1,q2⟩:=hq
 rw [Bool.and_eq_true] at hok
 obtain ⟨hok,hpl⟩:=hok
 unfold xo at hok
 simp only [Bool.and_eq_true,decide_eq_true_eq,List.all_eq_true] at hok hpl
 obtain ⟨⟨⟨hs0,hs1⟩,nu⟩,hall⟩:=hok
 obtain ⟨n,rfl⟩:∃ n:Nat,Ma=(n:Int):=⟨Ma.toNat,by omega⟩
 rw [Int.toNat_natCast] at hr
 obtain ⟨W1,hW1⟩:∃ W1,W1=w.alloc (.cells #[.slice Eb Ta.length Db,.int .i64 Pa,.int .i64 Oa,.int .i64 n,.slice yc Ra.length Zb] 30 (0,0)):=⟨_,rfl⟩
 have HW:=ja.mk hW1
 have Bl:Below w.heap.size w W1:=by rw [hW1];exact qa (Below.refl _ _) _
 have Bi:W1.heap[w.heap.size]? = some (.cells #[.slice Eb Ta.length Db,.int .i64 Pa,.int .i64 Oa,.int .i64 n,.slice yc Ra.length Zb] 30 (0,0)):=by rw [hW1];exact Me _ _
 have HB:=ja.mk Bl
 have HX:=ja.mk Bi
 have rD:=ja.mk Bg
 have HR:=ja.mk hr
 have HA:=ja.mk hall
 have HP:=ja.mk hpl
 have hx0:=(ga Bi 0).trans rfl
 have hx1:=(ga Bi 1).trans rfl
 have Ek:=(ga Bi 2).trans rfl
 have jk:=(ga Bi 3).trans rfl
 have Dk:=(ga Bi 4).trans rfl
 clear hW1 Bl Bi Kf Bg Gf Jg h hr hall hpl
 go_enter Try.func79,Try.ntmps79
 go_upto_region 1 with (fail)
 rw [← HW.out]
 clear HW
 go_upto_region 2 with (first|(go_at_call 59;(with_reducible refine (vo Eb yc Db Zb Ta.length Ra.length Pa Oa n (by omega) _).mono ?_);rintro e w4 ⟨kb,rfl,hks,wu⟩;have jo:=ja.mk (Na HB.out wu);have lK:=ja.mk (Ya HX.out wu);have uQ:=ja.mk hks;clear hks wu))
 have kG:=ja.mk (show w.heap.size ≤ W1.heap.size from HB.out.size)
 obtain ⟨ad,A5,c5,e1,hb0,_,_,_,_,OT,SL⟩:=Zf rD.out a1 q1 q2
 cases e1
 have xQ:=ja.mk SL
 have jV:=SL.2.1
 replace hb0:=(jo.out.cell (World.block_lt_of_cell? w _ hb0)).trans hb0
 clear SL hx0 hx1 Ek jk Dk
 generalize (Ua Ra a1).f0=code at hb0 xQ OT jV HR HA HP nu
 have NV:=(ga lK.out 4).trans rfl
 have laf:=World.block_lt_of_cell? w4 _ hb0
 have Wad:=Pc lK.out
 have R3:=ja.mk (iJ Dj 103 w4 w.heap.size jo.out.size)
 have HK9:=ja.mk (uQ.out.alloc (.cells #[] 103 (0,0)))
 have KM:=ja.mk (qa jo.out (.cells #[] 103 (0,0)))
 clear uQ jo lK
 go_wp2
 go_loopg [6,19] code.length (fun gg v6 v19 wr=>∃ j:Nat,j ≤ code.length∧code.length - j ≤ gg∧v19 = .int .i64 j∧ja (Kd.R Dj 103 wr w.heap.size (fun _=>True) v6 (ei code n j))∧ja (KS wr W1.heap.size kb (Rg (idents n) (n:Int) (code.take j)).1 (Rg (idents n) (n:Int) (code.take j)).2)∧ja (Below w.heap.size w wr))
 case atStart=>exact ⟨0,Nat.zero_le _,by omega,rfl,R3,HK9,KM⟩
 case round =>
  clear R3 HK9 KM NV hb0 laf Wad
  (try clear HO)
  (try clear HK)
  (try clear HB)
  obtain ⟨j,hj,hg,rfl,HO,HK,HB⟩:=hrel
  obtain ⟨B8,d8,rfl⟩:=Kd.Mf HO.out
  have hpl:=Nat.le_of_eq (Om code n j)
  obtain ⟨b1,b2,b3⟩:=Cq (code.take j) (idents n) (n:Int)
  rw [Lh] at b3
  have hjl:(code.take j).length ≤ code.length:=by rw [List.length_take];omega
  by_cases hlt:j < code.length
  ·have p1:0 ≤ (j:Int):=by omega
   have p2:(j:Int) < (code.length:Int):=by omega
   have wB:decide ((j:Int) < (code.length:Int))=true:=decide_eq_true p2
   obtain ⟨ad7,e2,y0,y1,y2,y3,y4,y5,y6⟩:=kf (Kd.Mb xQ.out HB.out) (j:Int) p1 p2
   cases e2
   have hx:Ea code (j:Int)=code[j]:=by simp [Ea,List.getD_eq_getElem?_getD,hlt]
   have HI:=ja.mk (Dq rfl (HA.out _ (List.getElem_mem hlt)))
   have HJ:=ja.mk (Eu rfl (HP.out _ (List.getElem_mem hlt)))
   rw [hx] at y0 y1 y2 y3 y4 y5 y6
   have MR:=ja.mk (fun (W3:World) (GN:KS W3 W1.heap.size kb (Rg (idents n) (n:Int) (code.take j)).1 (Rg (idents n) (n:Int) (code.take j)).2)=>uA GN (by omega) (by omega) code[j] (by rw [b3];exact HI.out.1) (by rw [b3];exact HI.out.2.1) (by rw [b3];exact HI.out.2.2))
   have HPO:=ja.mk (fun (W3:World) (v:Value) (GN:KV W3 W1.heap.size kb v (Rg (idents n) (n:Int) (code.take j)).1 (Rg (idents n) (n:Int) (code.take j)).2)=>DD GN code[j] (by rw [b3];exact HJ.out))
   rw [← Bq code (idents n) (n:Int) j hlt] at MR
   have NE:=ja.mk (bu code n j)
   rw [hx] at NE
   simp only [Int.toNat_natCast] at y0 y1 y2 y3 y4 y5 y6
   clear hx b1 b2 b3 hjl
   generalize Il (Rg (idents n) (n:Int) (code.take j)).1 code[j]=pl at HPO NE
   go_upto_region 6 with (fail)
   have fW:Below wr.heap.size wr (wr.alloc (.cells #[.int .i64 code[j].f0,.int .i64 code[j].f1,.int .i64 code[j].f2,.int .i64 code[j].f3,.int .i64 code[j].f4,.int .i64 code[j].f5,.string code[j].f6] 70 (0,0))):=qa (Below.refl _ _) _
   have XM:=Me wr (.cells #[.int .i64 code[j].f0,.int .i64 code[j].f1,.int .i64 code[j].f2,.int .i64 code[j].f3,.int .i64 code[j].f4,.int .i64 code[j].f5,.string code[j].f6] 70 (0,0))
   generalize wr.alloc (.cells #[.int .i64 code[j].f0,.int .i64 code[j].f1,.int .i64 code[j].f2,.int .i64 code[j].f3,.int .i64 code[j].f4,.int .i64 code[j].f5,.string code[j].f6] 70 (0,0))=w5 at fW XM ⊢
   obtain ⟨v,hkv⟩:=HK.out
   have tQ:=ja.mk (hkv.below fW)
   have HO5:=ja.mk (Kd.Ue HO.out fW)
   have Es:=ja.mk (Na HB.out fW)
   have HV5:=ja.mk XM
   have h50:=(ga XM 0).trans rfl
   have h51:=(ga XM 1).trans rfl
   have h52:=(ga XM 2).trans rfl
   have h53:=(ga XM 3).trans rfl
   have h54:=(ga XM 4).trans rfl
   have h55:=(ga XM 5).trans rfl
   have h56:=(ga XM 6).trans rfl
   clear fW XM hkv y0 y1 y2 y3 y4 y5 y6 HK HO HB
   go_upto_region 7 with (first|(go_at_call 107;(with_reducible refine (HPO.out w5 v tQ.out).mono ?_);rintro e w6 ⟨rfl,hb⟩;have T3:=ja.mk (tQ.out.below hb);have HO6:=ja.mk (Kd.Ue HO5.out hb);have XU:=ja.mk (Na Es.out hb);have HV6:=ja.mk (Ya HV5.out hb);clear hb tQ HO5 Es HV5 h50 h51 h52 h53 h54 h55 h56)|(at_builtin;(refine Kd.Us Dj (w0:=w) w.heap.size rfl (.tmp 23) (.tmp 27) 42 103 (.agg #[(.int .i64 0),(.int .i64 0),(.int .i64 0),(.int .i64 0)]) 32 rfl ?a1 ?a2 rfl ?a3 ?a4 ?v (ei code n j) pl [.int .i64 pl.f0,.int .i64 pl.f1,.int .i64 pl.f2,.int .i64 pl.f3] (fun _=>True) (fun _=>False) ?a5 ?a6 ?aP (fun _ hk=>hk.elim) ?a7 ?a8 ?a9 ?b1 ?b2 ?_);(case a1=>exact Try.underlying42);(case a2=>exact KG);(case a3=>decide);(case a4=>omega);(case a5=>rfl);(case a6=>rfl);(case aP=>exact oq _ _ _ pl);(case a7=>exact fun _ _=>trivial);(case a8=>exact HO6.out);(case a9=>exact XU.out);(case b1=>exact XU.out.size);(case b2=>omega);intro v1 w7 ho hb hgr hat;rw [← NE.out] at ho;have HO7:=ja.mk ho;have Maf:=ja.mk (KV.grown T3.out hgr (Kd.Tt HO6.out) (by decide) (by decide));have HB7:=ja.mk hb;have FU:=ja.mk (Jw HV6.out hgr (Kd.oE HO6.out HV6.out (by decide)));obtain ⟨B1,d1,rfl⟩:=Kd.Mf ho;clear ho hb hgr hat T3 HO6 XU HV6))
   have h50:=(ga FU.out 0).trans rfl
   have h51:=(ga FU.out 1).trans rfl
   have h52:=(ga FU.out 2).trans rfl
   have h53:=(ga FU.out 3).trans rfl
   have h54:=(ga FU.out 4).trans rfl
   have h55:=(ga FU.out 5).trans rfl
   have h56:=(ga FU.out 6).trans rfl
   have Naf:=ja.mk (show KS w7 W1.heap.size kb (Rg (idents n) (n:Int) (code.take j)).1 (Rg (idents n) (n:Int) (code.take j)).2 from ⟨v,Maf.out⟩)
   go_wp2_with (first|(go_at_call 60;(with_reducible refine (MR.out w7 Naf.out).mono ?_);rintro e w8 ⟨rfl,hks,wu,hkt⟩;have HK8:=ja.mk hks;have HB8:=ja.mk (HB7.out.trans (wu.mono kG.out));have HO8:=ja.mk (xU HO7.out hkt (by decide));clear hks wu hkt))
   go_roundg (code.length - (j + 1))
   case measure=>omega
   case rel=>exact ⟨j + 1,by omega,by omega,by go_num,HO8,HK8,HB8⟩
  ·have wB:decide ((j:Int) < (code.length:Int))=false:=decide_eq_false (by omega)
   obtain rfl:j=code.length:=by omega
   go_wp2
   go_ret
   exact ⟨_,rfl,by rw [← HR.out];exact HO.out,HB.out⟩
attribute [local go_sem] Jk Gk ym xm Gj Fj Ik Fk
def Oh.f (k:Nat) (Ta:List Int) (Pa:Int) (Oa:Int) (Ma:Int) (Ra:List (Dh)) (a1:Int):Option ((List (af))):=(Ab.f k Ta Pa Oa Ma Ra).bind fun t102=>(if t102=true then ((Pg.f a1 0 (wrap64 ((Ra.length:Int) - 1))).bind fun t103=>(if t103=true then ((dg.f k Ta Pa Oa Ma Ra a1).bind fun t104=>(some t104)) else (some ([]:List (af))))) else (some ([]:List (af))))
theorem Oh.mono:∀ a0 a1 a2 a3 a4 a5 k,Nb (Oh.f k a0 a1 a2 a3 a4 a5) (Oh.f (k + 1) a0 a1 a2 a3 a4 a5):=by
 intro a0 a1 a2 a3 a4 a5 k
 unfold Oh.f
 repeat' first
   | (with_reducible exact Ab.mono _ _ _ _ _ _)
   | (with_reducible exact dg.mono _ _ _ _ _ _ _)
   | (with_reducible exact Nb.refl _)
   | (with_reducible exact Nb.none _)
   | (with_reducible refine Nb.ite ?_ ?_)
   | (with_reducible refine Nb.bind ?_ (fun _=>?_))
   | exact Ab.mono _ _ _ _ _ _
   | exact dg.mono _ _ _ _ _ _ _
   | exact Nb.none _
   | refine Nb.ite ?_ ?_
   | refine Nb.bind ?_ (fun _=>?_)
theorem Oh.calls (k:Nat) (Eb:Option Addr) (Db:Nat) (Ta:List Int) (Pa:Int) (Oa:Int) (Ma:Int) (yc:Option Addr) (Zb:Nat) (Ra:List (Dh)) (a1:Int) (r:List (af)) (w:World) (Kf:Kd.C (Kd.int .i64) w Eb Ta.length Ta) (Gf:Ta.length ≤ Db) (Bg:Kd.C Tp w yc Ra.length Ra) (Jg:Ra.length ≤ Zb) (h:Oh.f k Ta Pa Oa Ma Ra a1=some r) :
  Calls Try.prog 35 #[.agg #[.slice Eb Ta.length Db,.int .i64 Pa,.int .i64 Oa,.int .i64 Ma,.slice yc Ra.length Zb],.int .i64 a1] w fun e w'=>∃ v0_:Value,e = .returned (v0_)∧Kd.R Dj 103 w' w.heap.size (fun _=>True) v0_ r∧Below w.heap.size w w':=by
 have vB:=Try.underlying30
 have Uf:=ja.mk Kf
 have ig:=ja.mk Gf
 clear Kf Gf
 have Zg:=ja.mk Bg
 have Li:=ja.mk Jg
 clear Bg Jg
 have HB:=ja.mk (Below.refl w.heap.size w)
 have H:((Ab.f k Ta Pa Oa Ma Ra).bind fun t102=>(if t102=true then ((Pg.f a1 0 (wrap64 ((Ra.length:Int) - 1))).bind fun t103=>(if t103=true then ((dg.f k Ta Pa Oa Ma Ra a1).bind fun t104=>(some t104)) else (some ([]:List (af))))) else (some ([]:List (af)))))=some r:=h
 clear h
 replace H:=Option.bind_eq_some_iff.mp H
 obtain ⟨t102,tw,H⟩:=H
 replace H:(if t102=true then ((Pg.f a1 0 (wrap64 ((Ra.length:Int) - 1))).bind fun t103=>(if t103=true then ((dg.f k Ta Pa Oa Ma Ra a1).bind fun t104=>(some t104)) else (some ([]:List (af))))) else (some ([]:List (af))))=some r:=H
 have A3:=ja.mk tw
 clear tw
 by_cases c4:t102=true
 ·subst c4
  have H1:((Pg.f a1 0 (wrap64 ((Ra.length:Int) - 1))).bind fun t103=>(if t103=true then ((dg.f k Ta Pa Oa Ma Ra a1).bind fun t104=>(some t104)) else (some ([]:List (af)))))=some r:=by rw [if_pos rfl] at H;exact H
  clear H
  have H:=H1
  clear H1
  replace H:=Option.bind_eq_some_iff.mp H
  obtain ⟨t103,OM,H⟩:=H
  replace H:(if t103=true then ((dg.f k Ta Pa Oa Ma Ra a1).bind fun t104=>(some t104)) else (some ([]:List (af))))=some r:=H
  have A5:=ja.mk OM
  clear OM
  by_cases c6:t103=true
  ·subst c6
   have H1:((dg.f k Ta Pa Oa Ma Ra a1).bind fun t104=>(some t104))=some r:=by rw [if_pos rfl] at H;exact H
   clear H
   have H:=H1
   clear H1
   replace H:=Option.bind_eq_some_iff.mp H
   obtain ⟨t104,Gx,H⟩:=H
   replace H:(some t104)=some r:=H
   have A7:=ja.mk Gx
   clear Gx
   obtain rfl:=Option.some.inj H
   go_enter Try.func35,Try.ntmps35
   go_wp2_with (first|((with_reducible refine Pb (N:=2) rfl ?_);(try (refine Wg (by rfl) ?_;dsimp only));refine Kb ?hg (N:=2) ?hd (cs:=#[.slice Eb Ta.length Db,.int .i64 Pa,.int .i64 Oa,.int .i64 Ma,.slice yc Ra.length Zb]) (t:=30) ?hr ?_;(case hd=>rfl);(case hg=>rfl);(case hr=>first|(go_simp;done)|(go_simp;rfl));intro Da hg w8 Yb hb;have Qb:=ja.mk (Na (by repeat (first|(with_reducible first|exact HB.out|apply qa|apply ia|apply ua)|exact HB.out)) hb);have uc:=ja.mk (Yb);have Qc:=ja.mk ((by rw [hg];exact (Qa (by repeat (first|(with_reducible first|exact HB.out|apply qa|apply ia|apply ua)|exact HB.out))):w.heap.size ≤ Da));have Td:=ja.mk ((by rw [hg];exact (Qa (by repeat (first|(with_reducible first|exact HB.out|apply qa|apply ia|apply ua)|exact HB.out))):w.heap.size ≤ Da));clear HB;have HB:=Qb;have za:=uc;have Vf:=Qc;have Wa:=Td;clear Qb uc Qc Td hb Yb hg;have Ko:w8.cell? ⟨Da,0,none⟩=some (.slice Eb Ta.length Db):=(ga za.out 0).trans rfl;have Jo:w8.cell? ⟨Da,1,none⟩=some (.int .i64 Pa):=(ga za.out 1).trans rfl;have Io:w8.cell? ⟨Da,2,none⟩=some (.int .i64 Oa):=(ga za.out 2).trans rfl;have Ho:w8.cell? ⟨Da,3,none⟩=some (.int .i64 Ma):=(ga za.out 3).trans rfl;have Fo:w8.cell? ⟨Da,4,none⟩=some (.slice yc Ra.length Zb):=(ga za.out 4).trans rfl;have Eo:=aa za.out 0;have Co:=aa za.out 1;have Bo:=aa za.out 2;have Ao:=aa za.out 3;have zo:=aa za.out 4)|((with_reducible refine xb (f:=57) rfl ?_);refine qd (some 6) rfl rfl Try.func57 (by kernel_rfl) rfl #[.agg #[.slice Eb Ta.length Db,.int .i64 Pa,.int .i64 Oa,.int .i64 Ma,.slice yc Ra.length Zb]] rfl (by (try simp only [List.map_toArray,List.map_cons,List.map_nil]);first|done|rfl|(simp only [List.length_drop,List.length_take];rfl)) ?_;(with_reducible refine (Ab.calls k _ _ Ta Pa Oa Ma _ _ Ra true _ ?side1 ?side2 ?side3 ?side4 A3.out).mono ?_);(case side1=>repeat (first|exact (Kd.Mb Uf.out HB.out)|(with_reducible refine Kd.Lc ?_ _)|(with_reducible refine Kd.Jc ?_ _)|(with_reducible refine Kd.Ed ?_)));(case side2=>exact ig.out);(case side3=>repeat (first|exact (Kd.Mb Zg.out HB.out)|(with_reducible refine Kd.Lc ?_ _)|(with_reducible refine Kd.Jc ?_ _)|(with_reducible refine Kd.Ed ?_)));(case side4=>exact Li.out);rintro e jq ⟨rfl,hb⟩;refine ⟨_,rfl,?_⟩;have Qb:=ja.mk (Ya (g:=Da) (o:=.cells #[.slice Eb Ta.length Db,.int .i64 Pa,.int .i64 Oa,.int .i64 Ma,.slice yc Ra.length Zb] 30 (0,0)) (by (with_reducible repeat (first|refine Ga ?_ _|refine Ia ?_|refine Fa ?_ _));exact za.out) hb);have uc:=ja.mk (Na (by repeat (first|(with_reducible first|exact HB.out|apply qa|apply ia|apply ua|refine Aa ?_ Wa.out)|exact HB.out)) hb);clear za HB;have za:=Qb;have HB:=uc;clear Qb uc;(try clear hb);(try clear hb2);(try clear hk);(try clear hi);have cl:jq.cell? ⟨Da,0,none⟩=some (.slice Eb Ta.length Db):=(ga za.out 0).trans rfl;have Zk:jq.cell? ⟨Da,1,none⟩=some (.int .i64 Pa):=(ga za.out 1).trans rfl;have Sr:jq.cell? ⟨Da,2,none⟩=some (.int .i64 Oa):=(ga za.out 2).trans rfl;have Qr:jq.cell? ⟨Da,3,none⟩=some (.int .i64 Ma):=(ga za.out 3).trans rfl;have Nt:jq.cell? ⟨Da,4,none⟩=some (.slice yc Ra.length Zb):=(ga za.out 4).trans rfl;have Vk:=aa za.out 0;have Uk:=aa za.out 1;have er:=aa za.out 2;have dr:=aa za.out 3;have Et:=aa za.out 4)|(go_at_call 58;(with_reducible refine (Pg.calls a1 0 (wrap64 ((Ra.length:Int) - 1)) true _ A5.out).mono ?_);rintro e w' ⟨rfl,⟨nd,rfl⟩⟩)|((with_reducible refine xb (f:=79) rfl ?_);refine qd (some 19) rfl rfl Try.func79 (by kernel_rfl) rfl #[.agg #[.slice Eb Ta.length Db,.int .i64 Pa,.int .i64 Oa,.int .i64 Ma,.slice yc Ra.length Zb],.int .i64 a1] rfl (by (try simp only [List.map_toArray,List.map_cons,List.map_nil]);first|done|rfl|(simp only [List.length_drop,List.length_take];rfl)) ?_;(with_reducible refine (dg.calls k _ _ Ta Pa Oa Ma _ _ Ra a1 t104 _ ?side1 ?side2 ?side3 ?side4 A7.out).mono ?_);(case side1=>repeat (first|exact (Kd.Mb Uf.out (by repeat (first|(with_reducible first|exact HB.out|apply qa|apply ia|apply ua|refine Aa ?_ Wa.out)|exact HB.out)))|(with_reducible refine Kd.Lc ?_ _)|(with_reducible refine Kd.Jc ?_ _)|(with_reducible refine Kd.Ed ?_)));(case side2=>exact ig.out);(case side3=>repeat (first|exact (Kd.Mb Zg.out (by repeat (first|(with_reducible first|exact HB.out|apply qa|apply ia|apply ua|refine Aa ?_ Wa.out)|exact HB.out)))|(with_reducible refine Kd.Lc ?_ _)|(with_reducible refine Kd.Jc ?_ _)|(with_reducible refine Kd.Ed ?_)));(case side4=>exact Li.out);rintro e sA ⟨sS,rfl,Am,hb⟩;refine ⟨_,rfl,?_⟩;have Qb:=ja.mk (Kd.ri Am (Qa (by repeat (first|(with_reducible first|exact HB.out|apply qa|apply ia|apply ua|refine Aa ?_ Wa.out)|exact HB.out))));have uc:=ja.mk (Ya (g:=Da) (o:=.cells #[.slice Eb Ta.length Db,.int .i64 Pa,.int .i64 Oa,.int .i64 Ma,.slice yc Ra.length Zb] 30 (0,0)) (by (with_reducible repeat (first|refine Ga ?_ _|refine Ia ?_|refine Fa ?_ _));exact za.out) hb);have Qc:=ja.mk (Na (by repeat (first|(with_reducible first|exact HB.out|apply qa|apply ia|apply ua|refine Aa ?_ Wa.out)|exact HB.out)) hb);clear za HB;have Wr:=Qb;have za:=uc;have HB:=Qc;clear Qb uc Qc;(try clear hb);(try clear hb2);(try clear hk);(try clear hi);(try clear Am)))
   go_ret
   exact ⟨_,by first|rfl|(simp [La,Ka] <;> rfl)|(simp [*,La,Ka] <;> rfl),by (with_reducible repeat (first|apply Kd.Sd|apply Kd.ee|apply Kd.Ie));exact Wr.out,by repeat (first|(with_reducible first|exact HB.out|apply qa|apply ia|apply ua|refine Aa ?_ Wa.out)|exact HB.out)⟩
  ·replace c6:=Bool.eq_false_iff.mpr c6
   subst c6
   have H1:(some ([]:List (af)))=some r:=by rw [if_neg (show ¬ (false=true) by decide)] at H;exact H
   clear H
   have H:=H1
   clear H1
   obtain rfl:=Option.some.inj H
   go_enter Try.func35,Try.ntmps35
   go_wp2_with (first|((with_reducible refine Pb (N:=2) rfl ?_);(try (refine Wg (by rfl) ?_;dsimp only));refine Kb ?hg (N:=2) ?hd (cs:=#[.slice Eb Ta.length Db,.int .i64 Pa,.int .i64 Oa,.int .i64 Ma,.slice yc Ra.length Zb]) (t:=30) ?hr ?_;(case hd=>rfl);(case hg=>rfl);(case hr=>first|(go_simp;done)|(go_simp;rfl));intro Da hg mo Yb hb;have Qb:=ja.mk (Na (by repeat (first|(with_reducible first|exact HB.out|apply qa|apply ia|apply ua)|exact HB.out)) hb);have uc:=ja.mk (Yb);have Qc:=ja.mk ((by rw [hg];exact (Qa (by repeat (first|(with_reducible first|exact HB.out|apply qa|apply ia|apply ua)|exact HB.out))):w.heap.size ≤ Da));have Td:=ja.mk ((by rw [hg];exact (Qa (by repeat (first|(with_reducible first|exact HB.out|apply qa|apply ia|apply ua)|exact HB.out))):w.heap.size ≤ Da));clear HB;have HB:=Qb;have za:=uc;have Vf:=Qc;have Wa:=Td;clear Qb uc Qc Td hb Yb hg;have Lp:mo.cell? ⟨Da,0,none⟩=some (.slice Eb Ta.length Db):=(ga za.out 0).trans rfl;have Kp:mo.cell? ⟨Da,1,none⟩=some (.int .i64 Pa):=(ga za.out 1).trans rfl;have Jp:mo.cell? ⟨Da,2,none⟩=some (.int .i64 Oa):=(ga za.out 2).trans rfl;have Ip:mo.cell? ⟨Da,3,none⟩=some (.int .i64 Ma):=(ga za.out 3).trans rfl;have Hp:mo.cell? ⟨Da,4,none⟩=some (.slice yc Ra.length Zb):=(ga za.out 4).trans rfl;have Dp:=aa za.out 0;have Cp:=aa za.out 1;have Bp:=aa za.out 2;have Ap:=aa za.out 3;have zp:=aa za.out 4)|((with_reducible refine xb (f:=57) rfl ?_);refine qd (some 6) rfl rfl Try.func57 (by kernel_rfl) rfl #[.agg #[.slice Eb Ta.length Db,.int .i64 Pa,.int .i64 Oa,.int .i64 Ma,.slice yc Ra.length Zb]] rfl (by (try simp only [List.map_toArray,List.map_cons,List.map_nil]);first|done|rfl|(simp only [List.length_drop,List.length_take];rfl)) ?_;(with_reducible refine (Ab.calls k _ _ Ta Pa Oa Ma _ _ Ra true _ ?side1 ?side2 ?side3 ?side4 A3.out).mono ?_);(case side1=>repeat (first|exact (Kd.Mb Uf.out HB.out)|(with_reducible refine Kd.Lc ?_ _)|(with_reducible refine Kd.Jc ?_ _)|(with_reducible refine Kd.Ed ?_)));(case side2=>exact ig.out);(case side3=>repeat (first|exact (Kd.Mb Zg.out HB.out)|(with_reducible refine Kd.Lc ?_ _)|(with_reducible refine Kd.Jc ?_ _)|(with_reducible refine Kd.Ed ?_)));(case side4=>exact Li.out);rintro e Fl ⟨rfl,hb⟩;refine ⟨_,rfl,?_⟩;have Qb:=ja.mk (Ya (g:=Da) (o:=.cells #[.slice Eb Ta.length Db,.int .i64 Pa,.int .i64 Oa,.int .i64 Ma,.slice yc Ra.length Zb] 30 (0,0)) (by (with_reducible repeat (first|refine Ga ?_ _|refine Ia ?_|refine Fa ?_ _));exact za.out) hb);have uc:=ja.mk (Na (by repeat (first|(with_reducible first|exact HB.out|apply qa|apply ia|apply ua|refine Aa ?_ Wa.out)|exact HB.out)) hb);clear za HB;have za:=Qb;have HB:=uc;clear Qb uc;(try clear hb);(try clear hb2);(try clear hk);(try clear hi);have Em:Fl.cell? ⟨Da,0,none⟩=some (.slice Eb Ta.length Db):=(ga za.out 0).trans rfl;have Dm:Fl.cell? ⟨Da,1,none⟩=some (.int .i64 Pa):=(ga za.out 1).trans rfl;have Qv:Fl.cell? ⟨Da,2,none⟩=some (.int .i64 Oa):=(ga za.out 2).trans rfl;have Pv:Fl.cell? ⟨Da,3,none⟩=some (.int .i64 Ma):=(ga za.out 3).trans rfl;have Gy:Fl.cell? ⟨Da,4,none⟩=some (.slice yc Ra.length Zb):=(ga za.out 4).trans rfl;have Cm:=aa za.out 0;have Bm:=aa za.out 1;have Zu:=aa za.out 2;have Yu:=aa za.out 3;have Zx:=aa za.out 4)|(go_at_call 58;(with_reducible refine (Pg.calls a1 0 (wrap64 ((Ra.length:Int) - 1)) false _ A5.out).mono ?_);rintro e w' ⟨rfl,⟨nd,rfl⟩⟩))
   go_ret
   exact ⟨_,by first|rfl|(simp [La,Ka] <;> rfl)|(simp [*,La,Ka] <;> rfl),by first|exact Kd.nw _ _ _ _ _|exact Kd.GR _ _ _ _ _|exact Kd.CR _ _ _ _ _|exact Kd.FR _ _ _ _ _|exact Kd.DR _ _ _ _ _,by repeat (first|(with_reducible first|exact HB.out|apply qa|apply ia|apply ua|refine Aa ?_ Wa.out)|exact HB.out)⟩
 ·replace c4:=Bool.eq_false_iff.mpr c4
  subst c4
  have H1:(some ([]:List (af)))=some r:=by rw [if_neg (show ¬ (false=true) by decide)] at H;exact H
  clear H
  have H:=H1
  clear H1
  obtain rfl:=Option.some.inj H
  go_enter Try.func35,Try.ntmps35
  go_wp2_with (first|((with_reducible refine Pb (N:=2) rfl ?_);(try (refine Wg (by rfl) ?_;dsimp only));refine Kb ?hg (N:=2) ?hd (cs:=#[.slice Eb Ta.length Db,.int .i64 Pa,.int .i64 Oa,.int .i64 Ma,.slice yc Ra.length Zb]) (t:=30) ?hr ?_;(case hd=>rfl);(case hg=>rfl);(case hr=>first|(go_simp;done)|(go_simp;rfl));intro Da hg Ro Yb hb;have Qb:=ja.mk (Na (by repeat (first|(with_reducible first|exact HB.out|apply qa|apply ia|apply ua)|exact HB.out)) hb);have uc:=ja.mk (Yb);have Qc:=ja.mk ((by rw [hg];exact (Qa (by repeat (first|(with_reducible first|exact HB.out|apply qa|apply ia|apply ua)|exact HB.out))):w.heap.size ≤ Da));have Td:=ja.mk ((by rw [hg];exact (Qa (by repeat (first|(with_reducible first|exact HB.out|apply qa|apply ia|apply ua)|exact HB.out))):w.heap.size ≤ Da));clear HB;have HB:=Qb;have za:=uc;have Vf:=Qc;have Wa:=Td;clear Qb uc Qc Td hb Yb hg;have Jr:Ro.cell? ⟨Da,0,none⟩=some (.slice Eb Ta.length Db):=(ga za.out 0).trans rfl;have Ir:Ro.cell? ⟨Da,1,none⟩=some (.int .i64 Pa):=(ga za.out 1).trans rfl;have Hr:Ro.cell? ⟨Da,2,none⟩=some (.int .i64 Oa):=(ga za.out 2).trans rfl;have Gr:Ro.cell? ⟨Da,3,none⟩=some (.int .i64 Ma):=(ga za.out 3).trans rfl;have Er:Ro.cell? ⟨Da,4,none⟩=some (.slice yc Ra.length Zb):=(ga za.out 4).trans rfl;have Wq:=aa za.out 0;have Vq:=aa za.out 1;have Uq:=aa za.out 2;have Sq:=aa za.out 3;have Rq:=aa za.out 4)|((with_reducible refine xb (f:=57) rfl ?_);refine qd (some 6) rfl rfl Try.func57 (by kernel_rfl) rfl #[.agg #[.slice Eb Ta.length Db,.int .i64 Pa,.int .i64 Oa,.int .i64 Ma,.slice yc Ra.length Zb]] rfl (by (try simp only [List.map_toArray,List.map_cons,List.map_nil]);first|done|rfl|(simp only [List.length_drop,List.length_take];rfl)) ?_;(with_reducible refine (Ab.calls k _ _ Ta Pa Oa Ma _ _ Ra false _ ?side1 ?side2 ?side3 ?side4 A3.out).mono ?_);(case side1=>repeat (first|exact (Kd.Mb Uf.out HB.out)|(with_reducible refine Kd.Lc ?_ _)|(with_reducible refine Kd.Jc ?_ _)|(with_reducible refine Kd.Ed ?_)));(case side2=>exact ig.out);(case side3=>repeat (first|exact (Kd.Mb Zg.out HB.out)|(with_reducible refine Kd.Lc ?_ _)|(with_reducible refine Kd.Jc ?_ _)|(with_reducible refine Kd.Ed ?_)));(case side4=>exact Li.out);rintro e Rz ⟨rfl,hb⟩;refine ⟨_,rfl,?_⟩;have Qb:=ja.mk (Ya (g:=Da) (o:=.cells #[.slice Eb Ta.length Db,.int .i64 Pa,.int .i64 Oa,.int .i64 Ma,.slice yc Ra.length Zb] 30 (0,0)) (by (with_reducible repeat (first|refine Ga ?_ _|refine Ia ?_|refine Fa ?_ _));exact za.out) hb);have uc:=ja.mk (Na (by repeat (first|(with_reducible first|exact HB.out|apply qa|apply ia|apply ua|refine Aa ?_ Wa.out)|exact HB.out)) hb);clear za HB;have za:=Qb;have HB:=uc;clear Qb uc;(try clear hb);(try clear hb2);(try clear hk);(try clear hi)))
  go_ret
  exact ⟨_,by first|rfl|(simp [La,Ka] <;> rfl)|(simp [*,La,Ka] <;> rfl),by first|exact Kd.nw _ _ _ _ _|exact Kd.GR _ _ _ _ _|exact Kd.CR _ _ _ _ _|exact Kd.FR _ _ _ _ _|exact Kd.DR _ _ _ _ _,by repeat (first|(with_reducible first|exact HB.out|apply qa|apply ia|apply ua|refine Aa ?_ Wa.out)|exact HB.out)⟩
def bk.f (Yc:Int) (Pa:Int) (Oa:Int) (Ma:Int) (nc:Int) (Lb:Int) (Rb:Int) (Sb:Int):Option (Bool):=if Yc=nc then (if Pa=Lb then (if Oa=Rb then (if Ma=Sb then (some true) else (some false)) else (some false)) else (some false)) else (some false)
theorem bk.calls (Yc:Int) (Pa:Int) (Oa:Int) (Ma:Int) (nc:Int) (Lb:Int) (Rb:Int) (Sb:Int) (r:Bool) (w:World) (h:bk.f Yc Pa Oa Ma nc Lb Rb Sb=some r) :
  Calls Try.prog 80 #[.agg #[.int .i64 Yc,.int .i64 Pa,.int .i64 Oa,.int .i64 Ma],.agg #[.int .i64 nc,.int .i64 Lb,.int .i64 Rb,.int .i64 Sb]] w fun e w'=>e = .returned (.bool r)∧Below w.heap.size w w':=by
 have gW:=Try.underlying103
 have HB:=ja.mk (Below.refl w.heap.size w)
 have H:(if Yc=nc then (if Pa=Lb then (if Oa=Rb then (if Ma=Sb then (some true) else (some false)) else (some false)) else (some false)) else (some false))=some r:=h
 clear h
 by_cases c3:Yc=nc
 ·rw [if_pos c3] at H
  have Jh:(Yc == nc)=true:=beq_iff_eq.mpr c3
  have Zp:(Yc != nc)=false:=bne_eq_false_iff_eq.mpr c3
  clear c3
  by_cases c4:Pa=Lb
  ·rw [if_pos c4] at H
   have si:(Pa == Lb)=true:=beq_iff_eq.mpr c4
   have lE:(Pa != Lb)=false:=bne_eq_false_iff_eq.mpr c4
   clear c4
   by_cases c5:Oa=Rb
   ·rw [if_pos c5] at H
    have Ok:(Oa == Rb)=true:=beq_iff_eq.mpr c5
    have Yp:(Oa != Rb)=false:=bne_eq_false_iff_eq.mpr c5
    clear c5
    by_cases c6:Ma=Sb
    ·rw [if_pos c6] at H
     have El:(Ma == Sb)=true:=beq_iff_eq.mpr c6
     have Ts:(Ma != Sb)=false:=bne_eq_false_iff_eq.mpr c6
     clear c6
     obtain rfl:=Option.some.inj H
     go_enter Try.func80,Try.ntmps80
     go_wp2_with (first|((with_reducible refine Pb (N:=2) rfl ?_);refine Kb ?hg (N:=2) ?hd (cs:=#[.int .i64 Yc,.int .i64 Pa,.int .i64 Oa,.int .i64 Ma]) (t:=103) ?hr ?_;(case hd=>rfl);(case hg=>rfl);(case hr=>first|(go_simp;done)|(go_simp;rfl));intro Da hg w7 Yb hb;have Qb:=ja.mk (Na (by repeat (first|(with_reducible first|exact HB.out|apply qa|apply ia|apply ua)|exact HB.out)) hb);have uc:=ja.mk (Yb);have Qc:=ja.mk ((by rw [hg];exact (Qa (by repeat (first|(with_reducible first|exact HB.out|apply qa|apply ia|apply ua)|exact HB.out))):w.heap.size ≤ Da));have Td:=ja.mk ((by rw [hg];exact (Qa (by repeat (first|(with_reducible first|exact HB.out|apply qa|apply ia|apply ua)|exact HB.out))):w.heap.size ≤ Da));clear HB;have HB:=Qb;have za:=uc;have Vf:=Qc;have Wa:=Td;clear Qb uc Qc Td hb Yb hg)|((with_reducible refine Pb (N:=3) rfl ?_);refine Kb ?hg (N:=3) ?hd (cs:=#[.int .i64 nc,.int .i64 Lb,.int .i64 Rb,.int .i64 Sb]) (t:=103) ?hr ?_;(case hd=>rfl);(case hg=>rfl);(case hr=>first|(go_simp;done)|(go_simp;rfl));intro Ja hg w8 Yb hb;have Qb:=ja.mk (Ya (g:=Da) (o:=.cells #[.int .i64 Yc,.int .i64 Pa,.int .i64 Oa,.int .i64 Ma] 103 (0,0)) (by (with_reducible repeat (first|refine Ga ?_ _|refine Ia ?_|refine Fa ?_ _));exact za.out) hb);have uc:=ja.mk (Na (by repeat (first|(with_reducible first|exact HB.out|apply qa|apply ia|apply ua|refine Aa ?_ Wa.out)|exact HB.out)) hb);have Qc:=ja.mk (Yb);have Td:=ja.mk ((by rw [hg];exact (Qa (by repeat (first|(with_reducible first|exact HB.out|apply qa|apply ia|apply ua|refine Aa ?_ Wa.out)|exact HB.out))):w.heap.size ≤ Ja));have dh:=ja.mk ((by rw [hg];exact (Qa (by repeat (first|(with_reducible first|exact HB.out|apply qa|apply ia|apply ua|refine Aa ?_ Wa.out)|exact HB.out))):w.heap.size ≤ Ja));have Eh:=ja.mk ((by rw [hg];exact Nat.ne_of_lt (Pc (g:=Da) (o:=.cells #[.int .i64 Yc,.int .i64 Pa,.int .i64 Oa,.int .i64 Ma] 103 (0,0)) (by (with_reducible repeat (first|refine Ga ?_ _|refine Ia ?_|refine Fa ?_ _));exact za.out)):Da ≠ Ja));have Kh:=ja.mk ((by rw [hg];exact Nat.ne_of_gt (Pc (g:=Da) (o:=.cells #[.int .i64 Yc,.int .i64 Pa,.int .i64 Oa,.int .i64 Ma] 103 (0,0)) (by (with_reducible repeat (first|refine Ga ?_ _|refine Ia ?_|refine Fa ?_ _));exact za.out)):Ja ≠ Da));clear za HB;have za:=Qb;have HB:=uc;have Ba:=Qc;have Ci:=Td;have Dc:=dh;have qb:=Eh;have mb:=Kh;clear Qb uc Qc Td dh Eh Kh hb Yb hg;have kT:=qb.out;have jT:=mb.out;have Ak:w8.cell? ⟨Da,0,none⟩=some (.int .i64 Yc):=(ga za.out 0).trans rfl;have zk:w8.cell? ⟨Da,1,none⟩=some (.int .i64 Pa):=(ga za.out 1).trans rfl;have xk:w8.cell? ⟨Da,2,none⟩=some (.int .i64 Oa):=(ga za.out 2).trans rfl;have wk:w8.cell? ⟨Da,3,none⟩=some (.int .i64 Ma):=(ga za.out 3).trans rfl;have vk:=aa za.out 0;have uk:=aa za.out 1;have qk:=aa za.out 2;have nk:=aa za.out 3;have cl:w8.cell? ⟨Ja,0,none⟩=some (.int .i64 nc):=(ga Ba.out 0).trans rfl;have Zk:w8.cell? ⟨Ja,1,none⟩=some (.int .i64 Lb):=(ga Ba.out 1).trans rfl;have Sr:w8.cell? ⟨Ja,2,none⟩=some (.int .i64 Rb):=(ga Ba.out 2).trans rfl;have Qr:w8.cell? ⟨Ja,3,none⟩=some (.int .i64 Sb):=(ga Ba.out 3).trans rfl;have Vk:=aa Ba.out 0;have Uk:=aa Ba.out 1;have er:=aa Ba.out 2;have dr:=aa Ba.out 3))
     go_ret
     exact ⟨by first|rfl|(simp [La,Ka] <;> rfl)|(simp [*,La,Ka] <;> rfl),by repeat (first|(with_reducible first|exact HB.out|apply qa|apply ia|apply ua|refine Aa ?_ Wa.out|refine Aa ?_ Dc.out)|exact HB.out)⟩
    ·rw [if_neg c6] at H
     have El:(Ma == Sb)=false:=beq_eq_false_iff_ne.mpr c6
     have Ts:(Ma != Sb)=true:=bne_iff_ne.mpr c6
     obtain rfl:=Option.some.inj H
     go_enter Try.func80,Try.ntmps80
     go_wp2_with (first|((with_reducible refine Pb (N:=2) rfl ?_);refine Kb ?hg (N:=2) ?hd (cs:=#[.int .i64 Yc,.int .i64 Pa,.int .i64 Oa,.int .i64 Ma]) (t:=103) ?hr ?_;(case hd=>rfl);(case hg=>rfl);(case hr=>first|(go_simp;done)|(go_simp;rfl));intro Da hg sA Yb hb;have Qb:=ja.mk (Na (by repeat (first|(with_reducible first|exact HB.out|apply qa|apply ia|apply ua)|exact HB.out)) hb);have uc:=ja.mk (Yb);have Qc:=ja.mk ((by rw [hg];exact (Qa (by repeat (first|(with_reducible first|exact HB.out|apply qa|apply ia|apply ua)|exact HB.out))):w.heap.size ≤ Da));have Td:=ja.mk ((by rw [hg];exact (Qa (by repeat (first|(with_reducible first|exact HB.out|apply qa|apply ia|apply ua)|exact HB.out))):w.heap.size ≤ Da));clear HB;have HB:=Qb;have za:=uc;have Vf:=Qc;have Wa:=Td;clear Qb uc Qc Td hb Yb hg)|((with_reducible refine Pb (N:=3) rfl ?_);refine Kb ?hg (N:=3) ?hd (cs:=#[.int .i64 nc,.int .i64 Lb,.int .i64 Rb,.int .i64 Sb]) (t:=103) ?hr ?_;(case hd=>rfl);(case hg=>rfl);(case hr=>first|(go_simp;done)|(go_simp;rfl));intro Ja hg mo Yb hb;have Qb:=ja.mk (Ya (g:=Da) (o:=.cells #[.int .i64 Yc,.int .i64 Pa,.int .i64 Oa,.int .i64 Ma] 103 (0,0)) (by (with_reducible repeat (first|refine Ga ?_ _|refine Ia ?_|refine Fa ?_ _));exact za.out) hb);have uc:=ja.mk (Na (by repeat (first|(with_reducible first|exact HB.out|apply qa|apply ia|apply ua|refine Aa ?_ Wa.out)|exact HB.out)) hb);have Qc:=ja.mk (Yb);have Td:=ja.mk ((by rw [hg];exact (Qa (by repeat (first|(with_reducible first|exact HB.out|apply qa|apply ia|apply ua|refine Aa ?_ Wa.out)|exact HB.out))):w.heap.size ≤ Ja));have dh:=ja.mk ((by rw [hg];exact (Qa (by repeat (first|(with_reducible first|exact HB.out|apply qa|apply ia|apply ua|refine Aa ?_ Wa.out)|exact HB.out))):w.heap.size ≤ Ja));have Eh:=ja.mk ((by rw [hg];exact Nat.ne_of_lt (Pc (g:=Da) (o:=.cells #[.int .i64 Yc,.int .i64 Pa,.int .i64 Oa,.int .i64 Ma] 103 (0,0)) (by (with_reducible repeat (first|refine Ga ?_ _|refine Ia ?_|refine Fa ?_ _));exact za.out)):Da ≠ Ja));have Kh:=ja.mk ((by rw [hg];exact Nat.ne_of_gt (Pc (g:=Da) (o:=.cells #[.int .i64 Yc,.int .i64 Pa,.int .i64 Oa,.int .i64 Ma] 103 (0,0)) (by (with_reducible repeat (first|refine Ga ?_ _|refine Ia ?_|refine Fa ?_ _));exact za.out)):Ja ≠ Da));clear za HB;have za:=Qb;have HB:=uc;have Ba:=Qc;have Ci:=Td;have Dc:=dh;have qb:=Eh;have mb:=Kh;clear Qb uc Qc Td dh Eh Kh hb Yb hg;have QW:=qb.out;have zW:=mb.out;have Uv:mo.cell? ⟨Da,0,none⟩=some (.int .i64 Yc):=(ga za.out 0).trans rfl;have Tv:mo.cell? ⟨Da,1,none⟩=some (.int .i64 Pa):=(ga za.out 1).trans rfl;have Sv:mo.cell? ⟨Da,2,none⟩=some (.int .i64 Oa):=(ga za.out 2).trans rfl;have Rv:mo.cell? ⟨Da,3,none⟩=some (.int .i64 Ma):=(ga za.out 3).trans rfl;have qv:=aa za.out 0;have jv:=aa za.out 1;have cv:=aa za.out 2;have av:=aa za.out 3;have Em:mo.cell? ⟨Ja,0,none⟩=some (.int .i64 nc):=(ga Ba.out 0).trans rfl;have Dm:mo.cell? ⟨Ja,1,none⟩=some (.int .i64 Lb):=(ga Ba.out 1).trans rfl;have Qv:mo.cell? ⟨Ja,2,none⟩=some (.int .i64 Rb):=(ga Ba.out 2).trans rfl;have Pv:mo.cell? ⟨Ja,3,none⟩=some (.int .i64 Sb):=(ga Ba.out 3).trans rfl;have Cm:=aa Ba.out 0;have Bm:=aa Ba.out 1;have Zu:=aa Ba.out 2;have Yu:=aa Ba.out 3))
     go_ret
     exact ⟨by first|rfl|(simp [La,Ka] <;> rfl)|(simp [*,La,Ka] <;> rfl),by repeat (first|(with_reducible first|exact HB.out|apply qa|apply ia|apply ua|refine Aa ?_ Wa.out|refine Aa ?_ Dc.out)|exact HB.out)⟩
   ·rw [if_neg c5] at H
    have Ok:(Oa == Rb)=false:=beq_eq_false_iff_ne.mpr c5
    have Yp:(Oa != Rb)=true:=bne_iff_ne.mpr c5
    obtain rfl:=Option.some.inj H
    go_enter Try.func80,Try.ntmps80
    go_wp2_with (first|((with_reducible refine Pb (N:=2) rfl ?_);refine Kb ?hg (N:=2) ?hd (cs:=#[.int .i64 Yc,.int .i64 Pa,.int .i64 Oa,.int .i64 Ma]) (t:=103) ?hr ?_;(case hd=>rfl);(case hg=>rfl);(case hr=>first|(go_simp;done)|(go_simp;rfl));intro Da hg Ro Yb hb;have Qb:=ja.mk (Na (by repeat (first|(with_reducible first|exact HB.out|apply qa|apply ia|apply ua)|exact HB.out)) hb);have uc:=ja.mk (Yb);have Qc:=ja.mk ((by rw [hg];exact (Qa (by repeat (first|(with_reducible first|exact HB.out|apply qa|apply ia|apply ua)|exact HB.out))):w.heap.size ≤ Da));have Td:=ja.mk ((by rw [hg];exact (Qa (by repeat (first|(with_reducible first|exact HB.out|apply qa|apply ia|apply ua)|exact HB.out))):w.heap.size ≤ Da));clear HB;have HB:=Qb;have za:=uc;have Vf:=Qc;have Wa:=Td;clear Qb uc Qc Td hb Yb hg)|((with_reducible refine Pb (N:=3) rfl ?_);refine Kb ?hg (N:=3) ?hd (cs:=#[.int .i64 nc,.int .i64 Lb,.int .i64 Rb,.int .i64 Sb]) (t:=103) ?hr ?_;(case hd=>rfl);(case hg=>rfl);(case hr=>first|(go_simp;done)|(go_simp;rfl));intro Ja hg Wz Yb hb;have Qb:=ja.mk (Ya (g:=Da) (o:=.cells #[.int .i64 Yc,.int .i64 Pa,.int .i64 Oa,.int .i64 Ma] 103 (0,0)) (by (with_reducible repeat (first|refine Ga ?_ _|refine Ia ?_|refine Fa ?_ _));exact za.out) hb);have uc:=ja.mk (Na (by repeat (first|(with_reducible first|exact HB.out|apply qa|apply ia|apply ua|refine Aa ?_ Wa.out)|exact HB.out)) hb);have Qc:=ja.mk (Yb);have Td:=ja.mk ((by rw [hg];exact (Qa (by repeat (first|(with_reducible first|exact HB.out|apply qa|apply ia|apply ua|refine Aa ?_ Wa.out)|exact HB.out))):w.heap.size ≤ Ja));have dh:=ja.mk ((by rw [hg];exact (Qa (by repeat (first|(with_reducible first|exact HB.out|apply qa|apply ia|apply ua|refine Aa ?_ Wa.out)|exact HB.out))):w.heap.size ≤ Ja));have Eh:=ja.mk ((by rw [hg];exact Nat.ne_of_lt (Pc (g:=Da) (o:=.cells #[.int .i64 Yc,.int .i64 Pa,.int .i64 Oa,.int .i64 Ma] 103 (0,0)) (by (with_reducible repeat (first|refine Ga ?_ _|refine Ia ?_|refine Fa ?_ _));exact za.out)):Da ≠ Ja));have Kh:=ja.mk ((by rw [hg];exact Nat.ne_of_gt (Pc (g:=Da) (o:=.cells #[.int .i64 Yc,.int .i64 Pa,.int .i64 Oa,.int .i64 Ma] 103 (0,0)) (by (with_reducible repeat (first|refine Ga ?_ _|refine Ia ?_|refine Fa ?_ _));exact za.out)):Ja ≠ Da));clear za HB;have za:=Qb;have HB:=uc;have Ba:=Qc;have Ci:=Td;have Dc:=dh;have qb:=Eh;have mb:=Kh;clear Qb uc Qc Td dh Eh Kh hb Yb hg;have bR:=qb.out;have UQ:=mb.out;have UI:Wz.cell? ⟨Da,0,none⟩=some (.int .i64 Yc):=(ga za.out 0).trans rfl;have TI:Wz.cell? ⟨Da,1,none⟩=some (.int .i64 Pa):=(ga za.out 1).trans rfl;have SI:Wz.cell? ⟨Da,2,none⟩=some (.int .i64 Oa):=(ga za.out 2).trans rfl;have RI:Wz.cell? ⟨Da,3,none⟩=some (.int .i64 Ma):=(ga za.out 3).trans rfl;have OH:=aa za.out 0;have NH:=aa za.out 1;have MH:=aa za.out 2;have LH:=aa za.out 3;have Dr:Wz.cell? ⟨Ja,0,none⟩=some (.int .i64 nc):=(ga Ba.out 0).trans rfl;have Cr:Wz.cell? ⟨Ja,1,none⟩=some (.int .i64 Lb):=(ga Ba.out 1).trans rfl;have EC:Wz.cell? ⟨Ja,2,none⟩=some (.int .i64 Rb):=(ga Ba.out 2).trans rfl;have DC:Wz.cell? ⟨Ja,3,none⟩=some (.int .i64 Sb):=(ga Ba.out 3).trans rfl;have Qq:=aa Ba.out 0;have Pq:=aa Ba.out 1;have RB:=aa Ba.out 2;have QB:=aa Ba.out 3))
    go_ret
    exact ⟨by first|rfl|(simp [La,Ka] <;> rfl)|(simp [*,La,Ka] <;> rfl),by repeat (first|(with_reducible first|exact HB.out|apply qa|apply ia|apply ua|refine Aa ?_ Wa.out|refine Aa ?_ Dc.out)|exact HB.out)⟩
  ·rw [if_neg c4] at H
   have si:(Pa == Lb)=false:=beq_eq_false_iff_ne.mpr c4
   have lE:(Pa != Lb)=true:=bne_iff_ne.mpr c4
   obtain rfl:=Option.some.inj H
   go_enter Try.func80,Try.ntmps80
   go_wp2_with (first|((with_reducible refine Pb (N:=2) rfl ?_);refine Kb ?hg (N:=2) ?hd (cs:=#[.int .i64 Yc,.int .i64 Pa,.int .i64 Oa,.int .i64 Ma]) (t:=103) ?hr ?_;(case hd=>rfl);(case hg=>rfl);(case hr=>first|(go_simp;done)|(go_simp;rfl));intro Da hg pK Yb hb;have Qb:=ja.mk (Na (by repeat (first|(with_reducible first|exact HB.out|apply qa|apply ia|apply ua)|exact HB.out)) hb);have uc:=ja.mk (Yb);have Qc:=ja.mk ((by rw [hg];exact (Qa (by repeat (first|(with_reducible first|exact HB.out|apply qa|apply ia|apply ua)|exact HB.out))):w.heap.size ≤ Da));have Td:=ja.mk ((by rw [hg];exact (Qa (by repeat (first|(with_reducible first|exact HB.out|apply qa|apply ia|apply ua)|exact HB.out))):w.heap.size ≤ Da));clear HB;have HB:=Qb;have za:=uc;have Vf:=Qc;have Wa:=Td;clear Qb uc Qc Td hb Yb hg)|((with_reducible refine Pb (N:=3) rfl ?_);refine Kb ?hg (N:=3) ?hd (cs:=#[.int .i64 nc,.int .i64 Lb,.int .i64 Rb,.int .i64 Sb]) (t:=103) ?hr ?_;(case hd=>rfl);(case hg=>rfl);(case hr=>first|(go_simp;done)|(go_simp;rfl));intro Ja hg xq Yb hb;have Qb:=ja.mk (Ya (g:=Da) (o:=.cells #[.int .i64 Yc,.int .i64 Pa,.int .i64 Oa,.int .i64 Ma] 103 (0,0)) (by (with_reducible repeat (first|refine Ga ?_ _|refine Ia ?_|refine Fa ?_ _));exact za.out) hb);have uc:=ja.mk (Na (by repeat (first|(with_reducible first|exact HB.out|apply qa|apply ia|apply ua|refine Aa ?_ Wa.out)|exact HB.out)) hb);have Qc:=ja.mk (Yb);have Td:=ja.mk ((by rw [hg];exact (Qa (by repeat (first|(with_reducible first|exact HB.out|apply qa|apply ia|apply ua|refine Aa ?_ Wa.out)|exact HB.out))):w.heap.size ≤ Ja));have dh:=ja.mk ((by rw [hg];exact (Qa (by repeat (first|(with_reducible first|exact HB.out|apply qa|apply ia|apply ua|refine Aa ?_ Wa.out)|exact HB.out))):w.heap.size ≤ Ja));have Eh:=ja.mk ((by rw [hg];exact Nat.ne_of_lt (Pc (g:=Da) (o:=.cells #[.int .i64 Yc,.int .i64 Pa,.int .i64 Oa,.int .i64 Ma] 103 (0,0)) (by (with_reducible repeat (first|refine Ga ?_ _|refine Ia ?_|refine Fa ?_ _));exact za.out)):Da ≠ Ja));have Kh:=ja.mk ((by rw [hg];exact Nat.ne_of_gt (Pc (g:=Da) (o:=.cells #[.int .i64 Yc,.int .i64 Pa,.int .i64 Oa,.int .i64 Ma] 103 (0,0)) (by (with_reducible repeat (first|refine Ga ?_ _|refine Ia ?_|refine Fa ?_ _));exact za.out)):Ja ≠ Da));clear za HB;have za:=Qb;have HB:=uc;have Ba:=Qc;have Ci:=Td;have Dc:=dh;have qb:=Eh;have mb:=Kh;clear Qb uc Qc Td dh Eh Kh hb Yb hg;have ZQ:=qb.out;have SQ:=mb.out;have Br:xq.cell? ⟨Da,0,none⟩=some (.int .i64 Yc):=(ga za.out 0).trans rfl;have Ar:xq.cell? ⟨Da,1,none⟩=some (.int .i64 Pa):=(ga za.out 1).trans rfl;have vr:xq.cell? ⟨Da,2,none⟩=some (.int .i64 Oa):=(ga za.out 2).trans rfl;have ur:xq.cell? ⟨Da,3,none⟩=some (.int .i64 Ma):=(ga za.out 3).trans rfl;have Oq:=aa za.out 0;have Nq:=aa za.out 1;have Mq:=aa za.out 2;have Lq:=aa za.out 3;have Lt:xq.cell? ⟨Ja,0,none⟩=some (.int .i64 nc):=(ga Ba.out 0).trans rfl;have Kt:xq.cell? ⟨Ja,1,none⟩=some (.int .i64 Lb):=(ga Ba.out 1).trans rfl;have Jt:xq.cell? ⟨Ja,2,none⟩=some (.int .i64 Rb):=(ga Ba.out 2).trans rfl;have Ht:xq.cell? ⟨Ja,3,none⟩=some (.int .i64 Sb):=(ga Ba.out 3).trans rfl;have Ct:=aa Ba.out 0;have Bt:=aa Ba.out 1;have yt:=aa Ba.out 2;have qt:=aa Ba.out 3))
   go_ret
   exact ⟨by first|rfl|(simp [La,Ka] <;> rfl)|(simp [*,La,Ka] <;> rfl),by repeat (first|(with_reducible first|exact HB.out|apply qa|apply ia|apply ua|refine Aa ?_ Wa.out|refine Aa ?_ Dc.out)|exact HB.out)⟩
 ·rw [if_neg c3] at H
  have Jh:(Yc == nc)=false:=beq_eq_false_iff_ne.mpr c3
  have Zp:(Yc != nc)=true:=bne_iff_ne.mpr c3
  obtain rfl:=Option.some.inj H
  go_enter Try.func80,Try.ntmps80
  go_wp2_with (first|((with_reducible refine Pb (N:=2) rfl ?_);refine Kb ?hg (N:=2) ?hd (cs:=#[.int .i64 Yc,.int .i64 Pa,.int .i64 Oa,.int .i64 Ma]) (t:=103) ?hr ?_;(case hd=>rfl);(case hg=>rfl);(case hr=>first|(go_simp;done)|(go_simp;rfl));intro Da hg w27 Yb hb;have Qb:=ja.mk (Na (by repeat (first|(with_reducible first|exact HB.out|apply qa|apply ia|apply ua)|exact HB.out)) hb);have uc:=ja.mk (Yb);have Qc:=ja.mk ((by rw [hg];exact (Qa (by repeat (first|(with_reducible first|exact HB.out|apply qa|apply ia|apply ua)|exact HB.out))):w.heap.size ≤ Da));have Td:=ja.mk ((by rw [hg];exact (Qa (by repeat (first|(with_reducible first|exact HB.out|apply qa|apply ia|apply ua)|exact HB.out))):w.heap.size ≤ Da));clear HB;have HB:=Qb;have za:=uc;have Vf:=Qc;have Wa:=Td;clear Qb uc Qc Td hb Yb hg)|((with_reducible refine Pb (N:=3) rfl ?_);refine Kb ?hg (N:=3) ?hd (cs:=#[.int .i64 nc,.int .i64 Lb,.int .i64 Rb,.int .i64 Sb]) (t:=103) ?hr ?_;(case hd=>rfl);(case hg=>rfl);(case hr=>first|(go_simp;done)|(go_simp;rfl));intro Ja hg xx Yb hb;have Qb:=ja.mk (Ya (g:=Da) (o:=.cells #[.int .i64 Yc,.int .i64 Pa,.int .i64 Oa,.int .i64 Ma] 103 (0,0)) (by (with_reducible repeat (first|refine Ga ?_ _|refine Ia ?_|refine Fa ?_ _));exact za.out) hb);have uc:=ja.mk (Na (by repeat (first|(with_reducible first|exact HB.out|apply qa|apply ia|apply ua|refine Aa ?_ Wa.out)|exact HB.out)) hb);have Qc:=ja.mk (Yb);have Td:=ja.mk ((by rw [hg];exact (Qa (by repeat (first|(with_reducible first|exact HB.out|apply qa|apply ia|apply ua|refine Aa ?_ Wa.out)|exact HB.out))):w.heap.size ≤ Ja));have dh:=ja.mk ((by rw [hg];exact (Qa (by repeat (first|(with_reducible first|exact HB.out|apply qa|apply ia|apply ua|refine Aa ?_ Wa.out)|exact HB.out))):w.heap.size ≤ Ja));have Eh:=ja.mk ((by rw [hg];exact Nat.ne_of_lt (Pc (g:=Da) (o:=.cells #[.int .i64 Yc,.int .i64 Pa,.int .i64 Oa,.int .i64 Ma] 103 (0,0)) (by (with_reducible repeat (first|refine Ga ?_ _|refine Ia ?_|refine Fa ?_ _));exact za.out)):Da ≠ Ja));have Kh:=ja.mk ((by rw [hg];exact Nat.ne_of_gt (Pc (g:=Da) (o:=.cells #[.int .i64 Yc,.int .i64 Pa,.int .i64 Oa,.int .i64 Ma] 103 (0,0)) (by (with_reducible repeat (first|refine Ga ?_ _|refine Ia ?_|refine Fa ?_ _));exact za.out)):Ja ≠ Da));clear za HB;have za:=Qb;have HB:=uc;have Ba:=Qc;have Ci:=Td;have Dc:=dh;have qb:=Eh;have mb:=Kh;clear Qb uc Qc Td dh Eh Kh hb Yb hg;have MW:=qb.out;have uW:=mb.out;have FI:xx.cell? ⟨Da,0,none⟩=some (.int .i64 Yc):=(ga za.out 0).trans rfl;have EI:xx.cell? ⟨Da,1,none⟩=some (.int .i64 Pa):=(ga za.out 1).trans rfl;have DI:xx.cell? ⟨Da,2,none⟩=some (.int .i64 Oa):=(ga za.out 2).trans rfl;have CI:xx.cell? ⟨Da,3,none⟩=some (.int .i64 Ma):=(ga za.out 3).trans rfl;have yH:=aa za.out 0;have xH:=aa za.out 1;have wH:=aa za.out 2;have vH:=aa za.out 3;have zy:xx.cell? ⟨Ja,0,none⟩=some (.int .i64 nc):=(ga Ba.out 0).trans rfl;have yy:xx.cell? ⟨Ja,1,none⟩=some (.int .i64 Lb):=(ga Ba.out 1).trans rfl;have xy:xx.cell? ⟨Ja,2,none⟩=some (.int .i64 Rb):=(ga Ba.out 2).trans rfl;have uy:xx.cell? ⟨Ja,3,none⟩=some (.int .i64 Sb):=(ga Ba.out 3).trans rfl;have Tx:=aa Ba.out 0;have Sx:=aa Ba.out 1;have Rx:=aa Ba.out 2;have Qx:=aa Ba.out 3))
  go_ret
  exact ⟨by first|rfl|(simp [La,Ka] <;> rfl)|(simp [*,La,Ka] <;> rfl),by repeat (first|(with_reducible first|exact HB.out|apply qa|apply ia|apply ua|refine Aa ?_ Wa.out|refine Aa ?_ Dc.out)|exact HB.out)⟩
def Ac.l0:Nat→List (af)→List (af)→Int→Option (Bool)
 | 0,_,_,_=>none
 | k + 1,x0,x1,x5=>if x5 < (x0.length:Int) then (if 0 ≤ x5 then (if x5 < (x1.length:Int) then ((bk.f ((gb x0 x5).f0) ((gb x0 x5).f1) ((gb x0 x5).f2) ((gb x0 x5).f3) ((gb x1 x5).f0) ((gb x1 x5).f1) ((gb x1 x5).f2) ((gb x1 x5).f3)).bind fun t103=>(if t103=true then (Ac.l0 k x0 x1 (wrap64 (x5 + 1))) else (some false))) else (none)) else (none)) else (some true)
def Ac.f (k:Nat) (l0:List (af)) (l1:List (af)):Option (Bool):=if (l0.length:Int)=(l1.length:Int) then (Ac.l0 k l0 l1 0) else (some false)
theorem Ac.Qd:∀ k,(∀ y0 y1 y2,Nb (Ac.l0 k y0 y1 y2) (Ac.l0 (k + 1) y0 y1 y2))
 | 0=>fun _ _ _ r h=>by simp [Ac.l0] at h
 | k + 1=>by
  have Ff:=Ac.Qd k
  ·intro y0 y1 y2
   unfold Ac.l0
   repeat' first
   | (with_reducible exact Ff _ _ _)
   | (with_reducible exact Nb.refl _)
   | (with_reducible exact Nb.none _)
   | (with_reducible refine Nb.ite ?_ ?_)
   | (with_reducible refine Nb.bind ?_ (fun _=>?_))
   | exact Ff _ _ _
   | exact Nb.none _
   | refine Nb.ite ?_ ?_
   | refine Nb.bind ?_ (fun _=>?_)
theorem Ac.mono:∀ a0 a1 k,Nb (Ac.f k a0 a1) (Ac.f (k + 1) a0 a1):=by
 intro a0 a1 k
 have Ff:=Ac.Qd k
 unfold Ac.f
 repeat' first
   | (with_reducible exact Ff _ _ _)
   | (with_reducible exact Nb.refl _)
   | (with_reducible exact Nb.none _)
   | (with_reducible refine Nb.ite ?_ ?_)
   | (with_reducible refine Nb.bind ?_ (fun _=>?_))
   | exact Ff _ _ _
   | exact Nb.none _
   | refine Nb.ite ?_ ?_
   | refine Nb.bind ?_ (fun _=>?_)
def Ac.T6:Bool × List (List Nat × List Nat):=(true,[([],[]),([],[]),([0,1],[0,1]),([2],[2]),([],[]),([],[]),([4,5],[4,5]),([6],[6]),([3,7],[3,7]),([8],[8])])
def Ac.B6:List Nat:=[0,0,3,7,0,0,48,112,255,511]
theorem Ac.xD:Gm .any (opsOf Try.f36 6)=Ac.T6:=by kernel_rfl
theorem Ac.gx:um Ac.T6.2 Ac.B6=true:=by kernel_rfl
theorem Ac.calls (k:Nat) (A0:Option Addr) (c0:Nat) (l0:List (af)) (A1:Option Addr) (c1:Nat) (l1:List (af)) (r:Bool) (w:World) (hr0:Kd.C Dj w A0 l0.length l0) (hc0:l0.length ≤ c0) (Mn:Kd.C Dj w A1 l1.length l1) (XI:l1.length ≤ c1) (h:Ac.f k l0 l1=some r) :
  Calls Try.prog 36 #[.slice A0 l0.length c0,.slice A1 l1.length c1] w fun e w'=>e = .returned (.bool r)∧Below w.heap.size w w':=by
 have gW:=Try.underlying103
 have Bh:=ja.mk hr0
 have Rw:=ja.mk hc0
 clear hr0 hc0
 have lG:=ja.mk Mn
 have WU:=ja.mk XI
 clear Mn XI
 have HB:=ja.mk (Below.refl w.heap.size w)
 have H:(if (l0.length:Int)=(l1.length:Int) then (Ac.l0 k l0 l1 0) else (some false))=some r:=h
 clear h
 by_cases c3:(l0.length:Int)=(l1.length:Int)
 ·rw [if_pos c3] at H
  have Jh:((l0.length:Int) == (l1.length:Int))=true:=beq_iff_eq.mpr c3
  have Zp:((l0.length:Int) != (l1.length:Int))=false:=bne_eq_false_iff_eq.mpr c3
  have Bz:(l0.length == l1.length)=true:=by first|simpa using c3|(simp at c3 ⊢;omega)
  clear c3
  have H':=ja.mk H
  clear H
  go_enter Try.func36,Try.ntmps36
  go_wp2
  go_loopg [5] k (fun kq v5 w'=>∃ (Ca:Int),v5 = .int .i64 Ca∧ja (Ac.l0 kq l0 l1 Ca=some r)∧ja (kq ≤ k)∧ja (Below w.heap.size w w'))
  case atStart=>exact ⟨(0),(by first|rfl|(simp;done)|(simp [*];done)),H',⟨Nat.le_refl _⟩,⟨by repeat (first|(with_reducible first|exact HB.out|apply qa|apply ia|apply ua)|exact HB.out)⟩⟩
  case round =>
   clear H'
   try clear c1
   try clear p2
   try clear c3
   try clear Jh
   try clear Zp
   try clear Bz
   (try clear HA)
   (try clear Ig)
   (try clear HB)
   obtain ⟨Ca,rfl,HA,Ig,HB⟩:=hrel
   cases gk with
   | zero=>exact absurd HA.out (by simp [Ac.l0])
   | succ k1 =>
    have H:=HA.out
    clear HA
    simp only [Ac.l0] at H
    by_cases c4:Ca < (l0.length:Int)
    ·rw [if_pos c4] at H
     have si:decide (Ca < (l0.length:Int))=true:=decide_eq_true c4
     clear c4
     by_cases c5:0 ≤ Ca
     ·rw [if_pos c5] at H
      have Ok:decide (0 ≤ Ca)=true:=decide_eq_true c5
      clear c5
      by_cases c6:Ca < (l1.length:Int)
      ·rw [if_pos c6] at H
       have El:decide (Ca < (l1.length:Int))=true:=decide_eq_true c6
       clear c6
       replace H:=Option.bind_eq_some_iff.mp H
       obtain ⟨t103,Gx,H⟩:=H
       replace H:(if t103=true then (Ac.l0 k1 l0 l1 (wrap64 (Ca + 1))) else (some false))=some r:=H
       have A7:=ja.mk Gx
       clear Gx
       by_cases c8:t103=true
       ·subst c8
        have H1:(Ac.l0 k1 l0 l1 (wrap64 (Ca + 1)))=some r:=by rw [if_pos rfl] at H;exact H
        clear H
        have H:=H1
        clear H1
        have H':=ja.mk H
        clear H
        try go_wp2
        have Qb:=ja.mk (ua HB.out)
        clear HB
        have HB:=Qb
        clear Qb
        have Vd:0 ≤ (Ca:Int):=of_decide_eq_true (by first|(with_reducible assumption)|assumption)
        have Ud:Ca < (l0.length:Int):=of_decide_eq_true (by first|(with_reducible assumption)|assumption)
        obtain ⟨ic,Eg,Ob,Vb,Ub,Tb⟩:=qi Bh.out Ca Vd Ud
        have xg:=Tb
        have yg:=Ub
        have zg:=Vb
        have Ag:=Ob
        cases Eg
        replace Ob:=(HB.out.cell (World.block_lt_of_cell? w _ Ob)).trans Ob
        replace Vb:=(HB.out.cell (World.block_lt_of_cell? w _ Vb)).trans Vb
        replace Ub:=(HB.out.cell (World.block_lt_of_cell? w _ Ub)).trans Ub
        replace Tb:=(HB.out.cell (World.block_lt_of_cell? w _ Tb)).trans Tb
        replace Vd:=eq_true Vd
        replace Ud:=eq_true Ud
        have Jf:0 ≤ (Ca:Int):=of_decide_eq_true (by first|(with_reducible assumption)|assumption)
        have Hf:Ca < (l1.length:Int):=of_decide_eq_true (by first|(with_reducible assumption)|assumption)
        obtain ⟨xe,gj,Rc,Dd,Cd,Bd⟩:=qi lG.out Ca Jf Hf
        have qg:=Bd
        have sg:=Cd
        have ug:=Dd
        have wg:=Rc
        cases gj
        replace Rc:=(HB.out.cell (World.block_lt_of_cell? w _ Rc)).trans Rc
        replace Dd:=(HB.out.cell (World.block_lt_of_cell? w _ Dd)).trans Dd
        replace Cd:=(HB.out.cell (World.block_lt_of_cell? w _ Cd)).trans Cd
        replace Bd:=(HB.out.cell (World.block_lt_of_cell? w _ Bd)).trans Bd
        replace Jf:=eq_true Jf
        replace Hf:=eq_true Hf
        refine Oi (n:=10) (S:=fun w'=>w'.cell? (ic.add ((Ca).toNat * 4))=some (.int .i64 ((gb l0 Ca).f0))∧w'.cell? ⟨(ic.add ((Ca).toNat * 4)).block,(ic.add ((Ca).toNat * 4)).off + 1,none⟩=some (.int .i64 ((gb l0 Ca).f1))∧w'.cell? ⟨(ic.add ((Ca).toNat * 4)).block,(ic.add ((Ca).toNat * 4)).off + 2,none⟩=some (.int .i64 ((gb l0 Ca).f2))∧w'.cell? ⟨(ic.add ((Ca).toNat * 4)).block,(ic.add ((Ca).toNat * 4)).off + 3,none⟩=some (.int .i64 ((gb l0 Ca).f3))∧w'.cell? (xe.add ((Ca).toNat * 4))=some (.int .i64 ((gb l1 Ca).f0))∧w'.cell? ⟨(xe.add ((Ca).toNat * 4)).block,(xe.add ((Ca).toNat * 4)).off + 1,none⟩=some (.int .i64 ((gb l1 Ca).f1))∧w'.cell? ⟨(xe.add ((Ca).toNat * 4)).block,(xe.add ((Ca).toNat * 4)).off + 2,none⟩=some (.int .i64 ((gb l1 Ca).f2))∧w'.cell? ⟨(xe.add ((Ca).toNat * 4)).block,(xe.add ((Ca).toNat * 4)).off + 3,none⟩=some (.int .i64 ((gb l1 Ca).f3))) (ds:=[]) #[false,false,false,false,false,false,false,false,false,false] (by kernel_rfl) rfl rfl ⟨((HB.out.cell (World.block_lt_of_cell? w _ Ag)).trans Ag),((HB.out.cell (World.block_lt_of_cell? w _ zg)).trans zg),((HB.out.cell (World.block_lt_of_cell? w _ yg)).trans yg),((HB.out.cell (World.block_lt_of_cell? w _ xg)).trans xg),((HB.out.cell (World.block_lt_of_cell? w _ wg)).trans wg),((HB.out.cell (World.block_lt_of_cell? w _ ug)).trans ug),((HB.out.cell (World.block_lt_of_cell? w _ sg)).trans sg),((HB.out.cell (World.block_lt_of_cell? w _ qg)).trans qg)⟩ (fun hHeld=>?_);refine Xh Ac.xD Ac.gx (fun cg Vr=>?_)
        generalize wr.drew=w9 at HB Ob Vb Ub Tb Rc Dd Cd Bd hHeld ⊢
        refine Nc (i:=0) (N:=some 17) (v:=?_) (a':=?_) #[true,false,false,false,false,false,false,false,false,false] rfl rfl (ud cg.out (by kernel_rfl)) (fun _ _ _ h=>h) (Or.inl ⟨by rfl,?_⟩) ?_ ?_
        rotate_left
        ·intro w'
         go_simp
         with_reducible rfl
        rotate_left
        ·simp only [Act.put,List.setIfInBounds_toArray,List.set_cons_zero,List.set_cons_succ,Bb,Cb]
         rfl
        refine Nc (i:=1) (N:=some 18) (v:=?_) (a':=?_) #[true,true,false,false,false,false,false,false,false,false] rfl rfl (ud cg.out (by kernel_rfl)) (fun _ _ _ h=>h) (Or.inl ⟨by rfl,?_⟩) ?_ ?_
        rotate_left
        ·intro w'
         go_simp
         with_reducible rfl
        rotate_left
        ·simp only [Act.put,List.setIfInBounds_toArray,List.set_cons_zero,List.set_cons_succ,Bb,Cb]
         rfl
        refine Nc (i:=2) (N:=some 19) (v:=?_) (a':=?_) #[true,true,true,false,false,false,false,false,false,false] rfl rfl (ud cg.out (by kernel_rfl)) (fun _ _ _ h=>h) (Or.inl ⟨by rfl,?_⟩) ?_ ?_
        rotate_left
        ·intro w'
         go_simp
         with_reducible rfl
        rotate_left
        ·simp only [Act.put,List.setIfInBounds_toArray,List.set_cons_zero,List.set_cons_succ,Bb,Cb]
         rfl
        refine Nc (i:=4) (N:=some 21) (v:=?_) (a':=?_) #[true,true,true,false,true,false,false,false,false,false] rfl rfl (ud cg.out (by kernel_rfl)) (fun _ _ _ h=>h) (Or.inl ⟨by rfl,?_⟩) ?_ ?_
        rotate_left
        ·intro w'
         go_simp
         with_reducible rfl
        rotate_left
        ·simp only [Act.put,List.setIfInBounds_toArray,List.set_cons_zero,List.set_cons_succ,Bb,Cb]
         rfl
        refine Nc (i:=5) (N:=some 22) (v:=?_) (a':=?_) #[true,true,true,false,true,true,false,false,false,false] rfl rfl (ud cg.out (by kernel_rfl)) (fun _ _ _ h=>h) (Or.inl ⟨by rfl,?_⟩) ?_ ?_
        rotate_left
        ·intro w'
         go_simp
         with_reducible rfl
        rotate_left
        ·simp only [Act.put,List.setIfInBounds_toArray,List.set_cons_zero,List.set_cons_succ,Bb,Cb]
         rfl
        refine Nc (i:=6) (N:=some 23) (v:=?_) (a':=?_) #[true,true,true,false,true,true,true,false,false,false] rfl rfl (ud cg.out (by kernel_rfl)) (fun _ _ _ h=>h) (Or.inl ⟨by rfl,?_⟩) ?_ ?_
        rotate_left
        ·intro w'
         go_simp
         with_reducible rfl
        rotate_left
        ·simp only [Act.put,List.setIfInBounds_toArray,List.set_cons_zero,List.set_cons_succ,Bb,Cb]
         rfl
        refine Lf (i:=3) (N:=some 20) (v:=?_) (a':=?_) #[true,true,true,true,true,true,true,false,false,false] rfl rfl (Pf cg.out Vr.out (by kernel_rfl)) (fun _ _ _ h=>h) (Or.inl ⟨by rfl,?_⟩) hHeld ?_ ?_
        rotate_left
        ·rintro w' ⟨s0,s1,s2,s3,s4,s5,s6,s7⟩
         go_simp
         with_reducible rfl
        rotate_left
        ·simp only [Act.put,List.setIfInBounds_toArray,List.set_cons_zero,List.set_cons_succ,Bb,Cb]
         rfl
        refine Lf (i:=7) (N:=some 24) (v:=?_) (a':=?_) #[true,true,true,true,true,true,true,true,false,false] rfl rfl (Pf cg.out Vr.out (by kernel_rfl)) (fun _ _ _ h=>h) (Or.inl ⟨by rfl,?_⟩) hHeld ?_ ?_
        rotate_left
        ·rintro w' ⟨s0,s1,s2,s3,s4,s5,s6,s7⟩
         go_simp
         with_reducible rfl
        rotate_left
        ·simp only [Act.put,List.setIfInBounds_toArray,List.set_cons_zero,List.set_cons_succ,Bb,Cb]
         rfl
        refine gm (i:=8) (N:=some 25) #[true,true,true,true,true,true,true,true,true,false] rfl rfl (Pm cg.out (by kernel_rfl)) (by decide) (fun K hK=>?_)
        refine Qm Try.func80 (by kernel_rfl) rfl #[.agg #[.int .i64 ((gb l0 Ca).f0),.int .i64 ((gb l0 Ca).f1),.int .i64 ((gb l0 Ca).f2),.int .i64 ((gb l0 Ca).f3)],.agg #[.int .i64 ((gb l1 Ca).f0),.int .i64 ((gb l1 Ca).f1),.int .i64 ((gb l1 Ca).f2),.int .i64 ((gb l1 Ca).f3)]] (by rfl) rfl rfl (by (try simp only [List.map_toArray,List.map_cons,List.map_nil]);first|done|rfl|(simp only [List.length_drop,List.length_take];rfl)) ?_
        with_reducible refine (bk.calls ((gb l0 Ca).f0) ((gb l0 Ca).f1) ((gb l0 Ca).f2) ((gb l0 Ca).f3) ((gb l1 Ca).f0) ((gb l1 Ca).f1) ((gb l1 Ca).f2) ((gb l1 Ca).f3) true _ A7.out).mono ?_
        rintro e jq ⟨rfl,hb⟩
        refine ⟨_,rfl,?_⟩
        have Qb:=ja.mk (Na (by repeat (first|(with_reducible first|exact HB.out|apply qa|apply ia|apply ua)|exact HB.out)) hb)
        clear HB
        have HB:=Qb
        clear Qb
        (try clear hb)
        (try clear hb2)
        (try clear hk)
        (try clear hi)
        refine hK.out _ _ ⟨((HB.out.cell (World.block_lt_of_cell? w _ Ag)).trans Ag),((HB.out.cell (World.block_lt_of_cell? w _ zg)).trans zg),((HB.out.cell (World.block_lt_of_cell? w _ yg)).trans yg),((HB.out.cell (World.block_lt_of_cell? w _ xg)).trans xg),((HB.out.cell (World.block_lt_of_cell? w _ wg)).trans wg),((HB.out.cell (World.block_lt_of_cell? w _ ug)).trans ug),((HB.out.cell (World.block_lt_of_cell? w _ sg)).trans sg),((HB.out.cell (World.block_lt_of_cell? w _ qg)).trans qg)⟩ (fun hHeld=>?_)
        clear hK K
        refine Mg (a':=?_) ?_ ?_
        rotate_left
        ·show Act.put _ (some 25) _=_
         simp only [Act.put,List.setIfInBounds_toArray,List.set_cons_zero,List.set_cons_succ,Bb,Cb]
         rfl
        refine Nc (i:=9) (N:=some 26) (v:=?_) (a':=?_) #[true,true,true,true,true,true,true,true,true,true] rfl rfl (ud cg.out (by kernel_rfl)) (fun _ _ _ h=>h) (Or.inl ⟨by rfl,?_⟩) ?_ ?_
        rotate_left
        ·intro w'
         go_simp
         with_reducible rfl
        rotate_left
        ·simp only [Act.put,List.setIfInBounds_toArray,List.set_cons_zero,List.set_cons_succ,Bb,Cb]
         rfl
        refine Mk (Bk cg.out (by kernel_rfl)) ?_
        try go_wp2
        go_roundg k1
        case measure=>have:=Ig.out;omega
        case rel=>exact ⟨(wrap64 (Ca + 1)),(by first|rfl|(simp;done)|(simp [*];done)),H',⟨by have:=Ig.out;omega⟩,⟨by repeat (first|(with_reducible first|exact HB.out|apply qa|apply ia|apply ua)|exact HB.out)⟩⟩
       ·replace c8:=Bool.eq_false_iff.mpr c8
        subst c8
        have H1:(some false)=some r:=by rw [if_neg (show ¬ (false=true) by decide)] at H;exact H
        clear H
        have H:=H1
        clear H1
        obtain rfl:=Option.some.inj H
        try go_wp2
        have Qb:=ja.mk (ua HB.out)
        clear HB
        have HB:=Qb
        clear Qb
        have Vd:0 ≤ (Ca:Int):=of_decide_eq_true (by first|(with_reducible assumption)|assumption)
        have Ud:Ca < (l0.length:Int):=of_decide_eq_true (by first|(with_reducible assumption)|assumption)
        obtain ⟨ic,Eg,Ob,Vb,Ub,Tb⟩:=qi Bh.out Ca Vd Ud
        have xg:=Tb
        have yg:=Ub
        have zg:=Vb
        have Ag:=Ob
        cases Eg
        replace Ob:=(HB.out.cell (World.block_lt_of_cell? w _ Ob)).trans Ob
        replace Vb:=(HB.out.cell (World.block_lt_of_cell? w _ Vb)).trans Vb
        replace Ub:=(HB.out.cell (World.block_lt_of_cell? w _ Ub)).trans Ub
        replace Tb:=(HB.out.cell (World.block_lt_of_cell? w _ Tb)).trans Tb
        replace Vd:=eq_true Vd
        replace Ud:=eq_true Ud
        have Jf:0 ≤ (Ca:Int):=of_decide_eq_true (by first|(with_reducible assumption)|assumption)
        have Hf:Ca < (l1.length:Int):=of_decide_eq_true (by first|(with_reducible assumption)|assumption)
        obtain ⟨xe,gj,Rc,Dd,Cd,Bd⟩:=qi lG.out Ca Jf Hf
        have qg:=Bd
        have sg:=Cd
        have ug:=Dd
        have wg:=Rc
        cases gj
        replace Rc:=(HB.out.cell (World.block_lt_of_cell? w _ Rc)).trans Rc
        replace Dd:=(HB.out.cell (World.block_lt_of_cell? w _ Dd)).trans Dd
        replace Cd:=(HB.out.cell (World.block_lt_of_cell? w _ Cd)).trans Cd
        replace Bd:=(HB.out.cell (World.block_lt_of_cell? w _ Bd)).trans Bd
        replace Jf:=eq_true Jf
        replace Hf:=eq_true Hf
        refine Oi (n:=10) (S:=fun w'=>w'.cell? (ic.add ((Ca).toNat * 4))=some (.int .i64 ((gb l0 Ca).f0))∧w'.cell? ⟨(ic.add ((Ca).toNat * 4)).block,(ic.add ((Ca).toNat * 4)).off + 1,none⟩=some (.int .i64 ((gb l0 Ca).f1))∧w'.cell? ⟨(ic.add ((Ca).toNat * 4)).block,(ic.add ((Ca).toNat * 4)).off + 2,none⟩=some (.int .i64 ((gb l0 Ca).f2))∧w'.cell? ⟨(ic.add ((Ca).toNat * 4)).block,(ic.add ((Ca).toNat * 4)).off + 3,none⟩=some (.int .i64 ((gb l0 Ca).f3))∧w'.cell? (xe.add ((Ca).toNat * 4))=some (.int .i64 ((gb l1 Ca).f0))∧w'.cell? ⟨(xe.add ((Ca).toNat * 4)).block,(xe.add ((Ca).toNat * 4)).off + 1,none⟩=some (.int .i64 ((gb l1 Ca).f1))∧w'.cell? ⟨(xe.add ((Ca).toNat * 4)).block,(xe.add ((Ca).toNat * 4)).off + 2,none⟩=some (.int .i64 ((gb l1 Ca).f2))∧w'.cell? ⟨(xe.add ((Ca).toNat * 4)).block,(xe.add ((Ca).toNat * 4)).off + 3,none⟩=some (.int .i64 ((gb l1 Ca).f3))) (ds:=[]) #[false,false,false,false,false,false,false,false,false,false] (by kernel_rfl) rfl rfl ⟨((HB.out.cell (World.block_lt_of_cell? w _ Ag)).trans Ag),((HB.out.cell (World.block_lt_of_cell? w _ zg)).trans zg),((HB.out.cell (World.block_lt_of_cell? w _ yg)).trans yg),((HB.out.cell (World.block_lt_of_cell? w _ xg)).trans xg),((HB.out.cell (World.block_lt_of_cell? w _ wg)).trans wg),((HB.out.cell (World.block_lt_of_cell? w _ ug)).trans ug),((HB.out.cell (World.block_lt_of_cell? w _ sg)).trans sg),((HB.out.cell (World.block_lt_of_cell? w _ qg)).trans qg)⟩ (fun hHeld=>?_);refine Xh Ac.xD Ac.gx (fun cg Vr=>?_)
        generalize wr.drew=Ei at HB Ob Vb Ub Tb Rc Dd Cd Bd hHeld ⊢
        refine Nc (i:=0) (N:=some 17) (v:=?_) (a':=?_) #[true,false,false,false,false,false,false,false,false,false] rfl rfl (ud cg.out (by kernel_rfl)) (fun _ _ _ h=>h) (Or.inl ⟨by rfl,?_⟩) ?_ ?_
        rotate_left
        ·intro w'
         go_simp
         with_reducible rfl
        rotate_left
        ·simp only [Act.put,List.setIfInBounds_toArray,List.set_cons_zero,List.set_cons_succ,Bb,Cb]
         rfl
        refine Nc (i:=1) (N:=some 18) (v:=?_) (a':=?_) #[true,true,false,false,false,false,false,false,false,false] rfl rfl (ud cg.out (by kernel_rfl)) (fun _ _ _ h=>h) (Or.inl ⟨by rfl,?_⟩) ?_ ?_
        rotate_left
        ·intro w'
         go_simp
         with_reducible rfl
        rotate_left
        ·simp only [Act.put,List.setIfInBounds_toArray,List.set_cons_zero,List.set_cons_succ,Bb,Cb]
         rfl
        refine Nc (i:=2) (N:=some 19) (v:=?_) (a':=?_) #[true,true,true,false,false,false,false,false,false,false] rfl rfl (ud cg.out (by kernel_rfl)) (fun _ _ _ h=>h) (Or.inl ⟨by rfl,?_⟩) ?_ ?_
        rotate_left
        ·intro w'
         go_simp
         with_reducible rfl
        rotate_left
        ·simp only [Act.put,List.setIfInBounds_toArray,List.set_cons_zero,List.set_cons_succ,Bb,Cb]
         rfl
        refine Nc (i:=4) (N:=some 21) (v:=?_) (a':=?_) #[true,true,true,false,true,false,false,false,false,false] rfl rfl (ud cg.out (by kernel_rfl)) (fun _ _ _ h=>h) (Or.inl ⟨by rfl,?_⟩) ?_ ?_
        rotate_left
        ·intro w'
         go_simp
         with_reducible rfl
        rotate_left
        ·simp only [Act.put,List.setIfInBounds_toArray,List.set_cons_zero,List.set_cons_succ,Bb,Cb]
         rfl
        refine Nc (i:=5) (N:=some 22) (v:=?_) (a':=?_) #[true,true,true,false,true,true,false,false,false,false] rfl rfl (ud cg.out (by kernel_rfl)) (fun _ _ _ h=>h) (Or.inl ⟨by rfl,?_⟩) ?_ ?_
        rotate_left
        ·intro w'
         go_simp
         with_reducible rfl
        rotate_left
        ·simp only [Act.put,List.setIfInBounds_toArray,List.set_cons_zero,List.set_cons_succ,Bb,Cb]
         rfl
        refine Nc (i:=6) (N:=some 23) (v:=?_) (a':=?_) #[true,true,true,false,true,true,true,false,false,false] rfl rfl (ud cg.out (by kernel_rfl)) (fun _ _ _ h=>h) (Or.inl ⟨by rfl,?_⟩) ?_ ?_
        rotate_left
        ·intro w'
         go_simp
         with_reducible rfl
        rotate_left
        ·simp only [Act.put,List.setIfInBounds_toArray,List.set_cons_zero,List.set_cons_succ,Bb,Cb]
         rfl
        refine Lf (i:=3) (N:=some 20) (v:=?_) (a':=?_) #[true,true,true,true,true,true,true,false,false,false] rfl rfl (Pf cg.out Vr.out (by kernel_rfl)) (fun _ _ _ h=>h) (Or.inl ⟨by rfl,?_⟩) hHeld ?_ ?_
        rotate_left
        ·rintro w' ⟨s0,s1,s2,s3,s4,s5,s6,s7⟩
         go_simp
         with_reducible rfl
        rotate_left
        ·simp only [Act.put,List.setIfInBounds_toArray,List.set_cons_zero,List.set_cons_succ,Bb,Cb]
         rfl
        refine Lf (i:=7) (N:=some 24) (v:=?_) (a':=?_) #[true,true,true,true,true,true,true,true,false,false] rfl rfl (Pf cg.out Vr.out (by kernel_rfl)) (fun _ _ _ h=>h) (Or.inl ⟨by rfl,?_⟩) hHeld ?_ ?_
        rotate_left
        ·rintro w' ⟨s0,s1,s2,s3,s4,s5,s6,s7⟩
         go_simp
         with_reducible rfl
        rotate_left
        ·simp only [Act.put,List.setIfInBounds_toArray,List.set_cons_zero,List.set_cons_succ,Bb,Cb]
         rfl
        refine gm (i:=8) (N:=some 25) #[true,true,true,true,true,true,true,true,true,false] rfl rfl (Pm cg.out (by kernel_rfl)) (by decide) (fun K hK=>?_)
        refine Qm Try.func80 (by kernel_rfl) rfl #[.agg #[.int .i64 ((gb l0 Ca).f0),.int .i64 ((gb l0 Ca).f1),.int .i64 ((gb l0 Ca).f2),.int .i64 ((gb l0 Ca).f3)],.agg #[.int .i64 ((gb l1 Ca).f0),.int .i64 ((gb l1 Ca).f1),.int .i64 ((gb l1 Ca).f2),.int .i64 ((gb l1 Ca).f3)]] (by rfl) rfl rfl (by (try simp only [List.map_toArray,List.map_cons,List.map_nil]);first|done|rfl|(simp only [List.length_drop,List.length_take];rfl)) ?_
        with_reducible refine (bk.calls ((gb l0 Ca).f0) ((gb l0 Ca).f1) ((gb l0 Ca).f2) ((gb l0 Ca).f3) ((gb l1 Ca).f0) ((gb l1 Ca).f1) ((gb l1 Ca).f2) ((gb l1 Ca).f3) false _ A7.out).mono ?_
        rintro e sA ⟨rfl,hb⟩
        refine ⟨_,rfl,?_⟩
        have Qb:=ja.mk (Na (by repeat (first|(with_reducible first|exact HB.out|apply qa|apply ia|apply ua)|exact HB.out)) hb)
        clear HB
        have HB:=Qb
        clear Qb
        (try clear hb)
        (try clear hb2)
        (try clear hk)
        (try clear hi)
        refine hK.out _ _ ⟨((HB.out.cell (World.block_lt_of_cell? w _ Ag)).trans Ag),((HB.out.cell (World.block_lt_of_cell? w _ zg)).trans zg),((HB.out.cell (World.block_lt_of_cell? w _ yg)).trans yg),((HB.out.cell (World.block_lt_of_cell? w _ xg)).trans xg),((HB.out.cell (World.block_lt_of_cell? w _ wg)).trans wg),((HB.out.cell (World.block_lt_of_cell? w _ ug)).trans ug),((HB.out.cell (World.block_lt_of_cell? w _ sg)).trans sg),((HB.out.cell (World.block_lt_of_cell? w _ qg)).trans qg)⟩ (fun hHeld=>?_)
        clear hK K
        refine Mg (a':=?_) ?_ ?_
        rotate_left
        ·show Act.put _ (some 25) _=_
         simp only [Act.put,List.setIfInBounds_toArray,List.set_cons_zero,List.set_cons_succ,Bb,Cb]
         rfl
        refine Nc (i:=9) (N:=some 26) (v:=?_) (a':=?_) #[true,true,true,true,true,true,true,true,true,true] rfl rfl (ud cg.out (by kernel_rfl)) (fun _ _ _ h=>h) (Or.inl ⟨by rfl,?_⟩) ?_ ?_
        rotate_left
        ·intro w'
         go_simp
         with_reducible rfl
        rotate_left
        ·simp only [Act.put,List.setIfInBounds_toArray,List.set_cons_zero,List.set_cons_succ,Bb,Cb]
         rfl
        refine Mk (Bk cg.out (by kernel_rfl)) ?_
        try go_wp2
        go_ret
        exact ⟨by first|rfl|(simp [La,Ka] <;> rfl)|(simp [*,La,Ka] <;> rfl),by repeat (first|(with_reducible first|exact HB.out|apply qa|apply ia|apply ua)|exact HB.out)⟩
      ·rw [if_neg c6] at H
       exact absurd H (by simp)
     ·rw [if_neg c5] at H
      exact absurd H (by simp)
    ·rw [if_neg c4] at H
     have si:decide (Ca < (l0.length:Int))=false:=decide_eq_false c4
     clear c4
     obtain rfl:=Option.some.inj H
     go_wp2
     go_ret
     exact ⟨by first|rfl|(simp [La,Ka] <;> rfl)|(simp [*,La,Ka] <;> rfl),by repeat (first|(with_reducible first|exact HB.out|apply qa|apply ia|apply ua)|exact HB.out)⟩
 ·rw [if_neg c3] at H
  have Jh:((l0.length:Int) == (l1.length:Int))=false:=beq_eq_false_iff_ne.mpr c3
  have Zp:((l0.length:Int) != (l1.length:Int))=true:=bne_iff_ne.mpr c3
  have Bz:(l0.length == l1.length)=false:=by first|simpa using c3|(simp at c3 ⊢;omega)
  obtain rfl:=Option.some.inj H
  go_enter Try.func36,Try.ntmps36
  go_wp2
  go_ret
  exact ⟨by first|rfl|(simp [La,Ka] <;> rfl)|(simp [*,La,Ka] <;> rfl),by repeat (first|(with_reducible first|exact HB.out|apply qa|apply ia|apply ua)|exact HB.out)⟩
def Oc.l0:Nat→List (af)→Int→Int→Option (Int × (List (af)))
 | 0,_,_,_=>none
 | k + 1,x0,x1,x5=>if x5 < (x0.length:Int) then (if 0 ≤ x5 then ((some (x0.set (x5:Int).toNat (⟨x1,(gb x0 x5).f1,(gb x0 x5).f2,(gb x0 x5).f3⟩:af):List (af))).bind fun ef=>((some (ef.set (x5:Int).toNat (⟨(gb ef x5).f0,wrap64 (x1 + 1),(gb ef x5).f2,(gb ef x5).f3⟩:af):List (af))).bind fun bf=>((some (bf.set (x5:Int).toNat (⟨(gb bf x5).f0,(gb bf x5).f1,wrap64 ((wrap64 (x1 + 1)) + 1),(gb bf x5).f3⟩:af):List (af))).bind fun lf=>(Oc.l0 k (lf.set (x5:Int).toNat (⟨(gb lf x5).f0,(gb lf x5).f1,(gb lf x5).f2,wrap64 ((wrap64 ((wrap64 (x1 + 1)) + 1)) + 1)⟩:af)) (wrap64 ((wrap64 ((wrap64 ((wrap64 (x1 + 1)) + 1)) + 1)) + 1)) (wrap64 (x5 + 1)))))) else (none)) else (some (x1,x0))
def Oc.f (k:Nat) (l0:List (af)) (a1:Int):Option (Int × (List (af))):=Oc.l0 k l0 a1 0
theorem Oc.Qd:∀ k,(∀ y0 y1 y2,Nb (Oc.l0 k y0 y1 y2) (Oc.l0 (k + 1) y0 y1 y2))
 | 0=>fun _ _ _ r h=>by simp [Oc.l0] at h
 | k + 1=>by
  have Ff:=Oc.Qd k
  ·intro y0 y1 y2
   unfold Oc.l0
   repeat' first
   | (with_reducible exact Ff _ _ _)
   | (with_reducible exact Nb.refl _)
   | (with_reducible exact Nb.none _)
   | (with_reducible refine Nb.ite ?_ ?_)
   | (with_reducible refine Nb.bind ?_ (fun _=>?_))
   | exact Ff _ _ _
   | exact Nb.none _
   | refine Nb.ite ?_ ?_
   | refine Nb.bind ?_ (fun _=>?_)
theorem Oc.mono:∀ a0 a1 k,Nb (Oc.f k a0 a1) (Oc.f (k + 1) a0 a1):=by
 intro a0 a1 k
 have Ff:=Oc.Qd k
 unfold Oc.f
 repeat' first
   | (with_reducible exact Ff _ _ _)
   | (with_reducible exact Nb.refl _)
   | (with_reducible exact Nb.none _)
   | (with_reducible refine Nb.ite ?_ ?_)
   | (with_reducible refine Nb.bind ?_ (fun _=>?_))
   | exact Ff _ _ _
   | exact Nb.none _
   | refine Nb.ite ?_ ?_
   | refine Nb.bind ?_ (fun _=>?_)
theorem Oc.calls (k:Nat) (Zj:Nat→Prop) (bh:Value) (l0:List (af)) (a1:Int) (r1:Int) (r2:List (af)) (w0 w:World) (hB:Below w0.heap.size w0 w) (Am:Kd.R Dj 103 w w0.heap.size Zj bh l0) (h:Oc.f k l0 a1=some (r1,r2)) :
  Calls Try.prog 37 #[bh,.int .i64 a1] w fun e w'=>e = .returned (.int .i64 r1)∧Kd.R Dj 103 w' w0.heap.size (fun k_=>(Zj k_ ∨ w.heap.size ≤ k_)) bh r2∧Below w0.heap.size w0 w'∧Kept w w' (fun k_=>Zj k_):=by
 have S3:=ja.mk (show Kd.R Dj 103 w w0.heap.size (fun k_=>(Zj k_ ∨ w.heap.size ≤ k_)) bh l0 from Kd.Hg Am (fun k_ hk=>(.inl hk)))
 have HK:=ja.mk (Kept.refl w (fun k_=>Zj k_))
 have HW0:=ja.mk hB.size
 have HB:=ja.mk hB
 clear hB
 have H:(Oc.l0 k l0 a1 0)=some (r1,r2):=h
 clear h
 have H':=ja.mk H
 clear H
 go_enter Try.func37,Try.ntmps37
 go_wp2
 go_loopg [1,5] k (fun kq v1 v5 w'=>∃ (qe:List (af)) (Gc:Int) (Ca:Int),v1 = .int .i64 Gc∧v5 = .int .i64 Ca∧ja (Oc.l0 kq qe Gc Ca=some (r1,r2))∧ja (kq ≤ k)∧ja (Kd.R Dj 103 w' w0.heap.size (fun k_=>(Zj k_ ∨ w.heap.size ≤ k_)) bh qe)∧ja (Kept w w' (fun k_=>Zj k_))∧ja (Below w0.heap.size w0 w'))
 case atStart=>exact ⟨(l0),(a1),(0),(by first|rfl|(simp;done)|(simp [*];done)),(by first|rfl|(simp;done)|(simp [*];done)),H',⟨Nat.le_refl _⟩,⟨by (with_reducible repeat (first|apply Kd.Sd|apply Kd.ee|apply Kd.Ie));exact S3.out⟩,⟨by repeat (first|(with_reducible first|exact HK.out|apply Kept.alloc|apply Kept.drewN|apply Kept.drew)|exact HK.out)⟩,⟨by repeat (first|(with_reducible first|exact HB.out|apply qa|apply ia|apply ua)|exact HB.out)⟩⟩
 case round =>
  clear H'
  try clear p2
  (try clear HA)
  (try clear Ig)
  (try clear Ye)
  (try clear HK)
  (try clear HB)
  obtain ⟨qe,Gc,Ca,rfl,rfl,HA,Ig,Ye,HK,HB⟩:=hrel
  cases gk with
  | zero=>exact absurd HA.out (by simp [Oc.l0])
  | succ k1 =>
   have H:=HA.out
   clear HA
   simp only [Oc.l0] at H
   by_cases c3:Ca < (qe.length:Int)
   ·rw [if_pos c3] at H
    have Jh:decide (Ca < (qe.length:Int))=true:=decide_eq_true c3
    clear c3
    by_cases c4:0 ≤ Ca
    ·rw [if_pos c4] at H
     have si:decide (0 ≤ Ca)=true:=decide_eq_true c4
     clear c4
     obtain ⟨ef,hy101⟩:∃ y_:List (af),y_=(qe.set (Ca:Int).toNat (⟨Gc,(gb qe Ca).f1,(gb qe Ca).f2,(gb qe Ca).f3⟩:af)):=⟨_,rfl⟩
     replace H:((some (ef.set (Ca:Int).toNat (⟨(gb ef Ca).f0,wrap64 (Gc + 1),(gb ef Ca).f2,(gb ef Ca).f3⟩:af):List (af))).bind fun bf=>((some (bf.set (Ca:Int).toNat (⟨(gb bf Ca).f0,(gb bf Ca).f1,wrap64 ((wrap64 (Gc + 1)) + 1),(gb bf Ca).f3⟩:af):List (af))).bind fun lf=>(Oc.l0 k1 (lf.set (Ca:Int).toNat (⟨(gb lf Ca).f0,(gb lf Ca).f1,(gb lf Ca).f2,wrap64 ((wrap64 ((wrap64 (Gc + 1)) + 1)) + 1)⟩:af)) (wrap64 ((wrap64 ((wrap64 ((wrap64 (Gc + 1)) + 1)) + 1)) + 1)) (wrap64 (Ca + 1)))))=some (r1,r2):=by first|(rw [hy101];with_reducible exact H)|(have Vh:=(Option.bind_some _ _).symm.trans H;rw [hy101];with_reducible exact Vh)|(have Vh:=(Option.bind_some _ _).symm.trans H;with_reducible exact Vh)|with_reducible exact H|(rw [hy101];exact H)|exact H
     have Yj:=ja.mk hy101
     clear hy101
     obtain ⟨bf,hy102⟩:∃ y_:List (af),y_=(ef.set (Ca:Int).toNat (⟨(gb ef Ca).f0,wrap64 (Gc + 1),(gb ef Ca).f2,(gb ef Ca).f3⟩:af)):=⟨_,rfl⟩
     replace H:((some (bf.set (Ca:Int).toNat (⟨(gb bf Ca).f0,(gb bf Ca).f1,wrap64 ((wrap64 (Gc + 1)) + 1),(gb bf Ca).f3⟩:af):List (af))).bind fun lf=>(Oc.l0 k1 (lf.set (Ca:Int).toNat (⟨(gb lf Ca).f0,(gb lf Ca).f1,(gb lf Ca).f2,wrap64 ((wrap64 ((wrap64 (Gc + 1)) + 1)) + 1)⟩:af)) (wrap64 ((wrap64 ((wrap64 ((wrap64 (Gc + 1)) + 1)) + 1)) + 1)) (wrap64 (Ca + 1))))=some (r1,r2):=by first|(rw [hy102];with_reducible exact H)|(have Vh:=(Option.bind_some _ _).symm.trans H;rw [hy102];with_reducible exact Vh)|(have Vh:=(Option.bind_some _ _).symm.trans H;with_reducible exact Vh)|with_reducible exact H|(rw [hy102];exact H)|exact H
     have KA:=ja.mk hy102
     clear hy102
     obtain ⟨lf,hy103⟩:∃ y_:List (af),y_=(bf.set (Ca:Int).toNat (⟨(gb bf Ca).f0,(gb bf Ca).f1,wrap64 ((wrap64 (Gc + 1)) + 1),(gb bf Ca).f3⟩:af)):=⟨_,rfl⟩
     replace H:(Oc.l0 k1 (lf.set (Ca:Int).toNat (⟨(gb lf Ca).f0,(gb lf Ca).f1,(gb lf Ca).f2,wrap64 ((wrap64 ((wrap64 (Gc + 1)) + 1)) + 1)⟩:af)) (wrap64 ((wrap64 ((wrap64 ((wrap64 (Gc + 1)) + 1)) + 1)) + 1)) (wrap64 (Ca + 1)))=some (r1,r2):=by first|(rw [hy103];with_reducible exact H)|(have Vh:=(Option.bind_some _ _).symm.trans H;rw [hy103];with_reducible exact Vh)|(have Vh:=(Option.bind_some _ _).symm.trans H;with_reducible exact Vh)|with_reducible exact H|(rw [hy103];exact H)|exact H
     have wM:=ja.mk hy103
     clear hy103
     obtain ⟨lg,hy104⟩:∃ y_:List (af),y_=(lf.set (Ca:Int).toNat (⟨(gb lf Ca).f0,(gb lf Ca).f1,(gb lf Ca).f2,wrap64 ((wrap64 ((wrap64 (Gc + 1)) + 1)) + 1)⟩:af)):=⟨_,rfl⟩
     replace H:(Oc.l0 k1 lg (wrap64 ((wrap64 ((wrap64 ((wrap64 (Gc + 1)) + 1)) + 1)) + 1)) (wrap64 (Ca + 1)))=some (r1,r2):=by first|(rw [hy104];with_reducible exact H)|(have Vh:=(Option.bind_some _ _).symm.trans H;rw [hy104];with_reducible exact Vh)|(have Vh:=(Option.bind_some _ _).symm.trans H;with_reducible exact Vh)|with_reducible exact H|(rw [hy104];exact H)|exact H
     have rE:=ja.mk hy104
     clear hy104
     have H':=ja.mk H
     clear H
     obtain ⟨Ao9,ZL,nV⟩:=Kd.Mf Ye.out
     subst nV
     have p5:0 ≤ (Ca:Int):=of_decide_eq_true (by first|(with_reducible assumption)|assumption)
     have q5:(Ca:Int) < ((qe.length:Int):Int):=of_decide_eq_true (by first|(with_reducible assumption)|assumption)
     obtain ⟨tf,co5,YM,qR,Y0,cl5,JM⟩:=Kd.Mw Ye.out (by omega)
     (first|cases YM|(injection YM with Lk en_ ec_;(first|subst Lk|(injection Lk with Lk;subst Lk));subst ec_;clear en_))
     have yJ:=ja.mk qR
     have GG5:=ja.mk JM
     clear qR Y0 JM
     have eS:=ja.mk (show (Zj tf ∨ w.heap.size ≤ tf) from (Ye.out.1 _ rfl))
     obtain ⟨ce5,MT,Q0,Zv,Av⟩:=Kd.Xg Ye.out ox (Ca:Int) p5 q5
     obtain rfl:=Vj Q0
     have JQ:wr.cell? ⟨tf,(Ca:Int).toNat * 4,none⟩=some (.int .i64 ((gb qe Ca).f0)):=Zv 0 _ rfl
     have eW:wr.cell? ⟨tf,(Ca:Int).toNat * 4 + 1,none⟩=some (.int .i64 ((gb qe Ca).f1)):=Zv 1 _ rfl
     have dW:wr.cell? ⟨tf,(Ca:Int).toNat * 4 + 2,none⟩=some (.int .i64 ((gb qe Ca).f2)):=Zv 2 _ rfl
     have cW:wr.cell? ⟨tf,(Ca:Int).toNat * 4 + 3,none⟩=some (.int .i64 ((gb qe Ca).f3)):=Zv 3 _ rfl
     have jR:wr.frozen? ⟨tf,(Ca:Int).toNat * 4,none⟩=false:=Av 0
     have HY:wr.frozen? ⟨tf,(Ca:Int).toNat * 4 + 1,none⟩=false:=Av 1
     have GY:wr.frozen? ⟨tf,(Ca:Int).toNat * 4 + 2,none⟩=false:=Av 2
     have FY:wr.frozen? ⟨tf,(Ca:Int).toNat * 4 + 3,none⟩=false:=Av 3
     clear MT Zv Av Q0
     replace p5:=eq_true p5
     replace q5:=eq_true q5
     have qA:=ja.mk (show Kd.R Dj 103 wr w0.heap.size (fun k_=>(Zj k_ ∨ w.heap.size ≤ k_)) (.slice (some ⟨tf,0,none⟩) qe.length ZL) qe from (by (with_reducible repeat (first|apply Kd.Sd|apply Kd.ee|apply Kd.Ie));exact Ye.out))
     obtain ⟨ZT,Yw,qz,Si,fj⟩:=Kd.Xg qA.out ox (Ca:Int) (of_decide_eq_true (by first|(with_reducible assumption)|assumption)) (by have h_:(Ca:Int) < ((qe.length:Int):Int):=of_decide_eq_true (by first|(with_reducible assumption)|assumption);first|exact h_|(have e_:=(Kd.Fc Ye.out).1;omega)|simpa using h_)
     obtain rfl:=Vj qz
     have oG:=Kd.cm qA.out (Ca:Int) (of_decide_eq_true (by first|(with_reducible assumption)|assumption)) (by have h_:(Ca:Int) < ((qe.length:Int):Int):=of_decide_eq_true (by first|(with_reducible assumption)|assumption);first|exact h_|(have e_:=(Kd.Fc Ye.out).1;omega)|simpa using h_) (seg:=[.int .i64 Gc]) (j:=0) Yw Si (show 1 ≤ 4 from by decide) (x':=(⟨Gc,(gb qe Ca).f1,(gb qe Ca).f2,(gb qe Ca).f3⟩:af)) (oq _ _ _ (⟨Gc,(gb qe Ca).f1,(gb qe Ca).f2,(gb qe Ca).f3⟩:af) ) (fun _ hk=>hk)
     have uB:=Si 0 _ rfl
     (try simp only [show (Dj).sz=4 from rfl,Nat.mul_one,Nat.add_zero] at uB)
     have kC:=fj 0
     (try simp only [show (Dj).sz=4 from rfl,Nat.mul_one,Nat.add_zero] at kC)
     clear Yw Si fj qz
     go_wp2_with (first|((with_reducible refine Vg (t:=3) (p:=16) rfl ?_);refine Gg (t:=3) (p:=16) (v:=?vo_w11) (w1:=(wr.setCell ⟨tf,(Ca:Int).toNat * 4,none⟩ (.int .i64 Gc))) ?hg ?ho ?hn ?hr ?_;(case ho=>rfl);(case hg=>rfl);(case hn=>rfl);(case hr=>first|(go_simp;done)|(go_simp;rfl));intro Ei hw;have hg:wr.grownBy Ei (some tf):=(by rw [hw];exact oG.2);have bp:Kd.R Dj 103 Ei w0.heap.size (fun k_=>(Zj k_ ∨ w.heap.size ≤ k_)) (.slice (some ⟨tf,0,none⟩) qe.length ZL) ef:=(by rw [hw,Yj.out];exact oG.1);clear oG;have Qb:=ja.mk (bp);have uc:=ja.mk ((by rw [hw];exact Aa (HB.out) yJ.out:Below w0.heap.size w0 Ei));have Qc:=ja.mk (Kept.ji (S:=(fun k_=>Zj k_)) hg (by repeat (first|(with_reducible first|exact HK.out|apply Kept.alloc|apply Kept.drewN|apply Kept.drew)|exact HK.out)) (fun k_ e_=>(Ye.out.1 k_ e_)));clear Ye HB HK;have Ye:=Qb;have HB:=uc;have HK:=Qc;clear Qb uc Qc hg hw bp;have p6:0 ≤ (Ca:Int):=of_decide_eq_true (by first|(with_reducible assumption)|assumption);have q6:(Ca:Int) < ((qe.length:Int):Int):=of_decide_eq_true (by first|(with_reducible assumption)|assumption);obtain ⟨ce6,JT,P0,Yv,wv⟩:=Kd.Xg Ye.out ox (Ca:Int) p6 q6;obtain rfl:=Vj P0;have bW:Ei.cell? ⟨tf,(Ca:Int).toNat * 4,none⟩=some (.int .i64 ((gb ef Ca).f0)):=Yv 0 _ rfl;have aW:Ei.cell? ⟨tf,(Ca:Int).toNat * 4 + 1,none⟩=some (.int .i64 ((gb ef Ca).f1)):=Yv 1 _ rfl;have ZV:Ei.cell? ⟨tf,(Ca:Int).toNat * 4 + 2,none⟩=some (.int .i64 ((gb ef Ca).f2)):=Yv 2 _ rfl;have YV:Ei.cell? ⟨tf,(Ca:Int).toNat * 4 + 3,none⟩=some (.int .i64 ((gb ef Ca).f3)):=Yv 3 _ rfl;have EY:Ei.frozen? ⟨tf,(Ca:Int).toNat * 4,none⟩=false:=wv 0;have DY:Ei.frozen? ⟨tf,(Ca:Int).toNat * 4 + 1,none⟩=false:=wv 1;have CY:Ei.frozen? ⟨tf,(Ca:Int).toNat * 4 + 2,none⟩=false:=wv 2;have AY:Ei.frozen? ⟨tf,(Ca:Int).toNat * 4 + 3,none⟩=false:=wv 3;clear JT Yv wv P0;replace p6:=eq_true p6;replace q6:=eq_true q6;have jG:=ja.mk (show Kd.R Dj 103 Ei w0.heap.size (fun k_=>(Zj k_ ∨ w.heap.size ≤ k_)) (.slice (some ⟨tf,0,none⟩) qe.length ZL) ef from (by (with_reducible repeat (first|apply Kd.Sd|apply Kd.ee|apply Kd.Ie));exact Ye.out));obtain ⟨YT,Vv,pz,Ki,ej⟩:=Kd.Xg jG.out ox (Ca:Int) (of_decide_eq_true (by first|(with_reducible assumption)|assumption)) (by have h_:(Ca:Int) < ((qe.length:Int):Int):=of_decide_eq_true (by first|(with_reducible assumption)|assumption);first|exact h_|(have e_:=(Kd.Fc Ye.out).1;omega)|simpa using h_);obtain rfl:=Vj pz;have Nz:=Kd.cm jG.out (Ca:Int) (of_decide_eq_true (by first|(with_reducible assumption)|assumption)) (by have h_:(Ca:Int) < ((qe.length:Int):Int):=of_decide_eq_true (by first|(with_reducible assumption)|assumption);first|exact h_|(have e_:=(Kd.Fc Ye.out).1;omega)|simpa using h_) (seg:=[.int .i64 (wrap64 (Gc + 1))]) (j:=1) Vv Ki (show 2 ≤ 4 from by decide) (x':=(⟨(gb ef Ca).f0,wrap64 (Gc + 1),(gb ef Ca).f2,(gb ef Ca).f3⟩:af)) (oq _ _ _ (⟨(gb ef Ca).f0,wrap64 (Gc + 1),(gb ef Ca).f2,(gb ef Ca).f3⟩:af) ) (fun _ hk=>hk);have Cw:=Ki 1 _ rfl;(try simp only [show (Dj).sz=4 from rfl,Nat.mul_one,Nat.add_zero] at Cw);have Dw:=ej 1;(try simp only [show (Dj).sz=4 from rfl,Nat.mul_one,Nat.add_zero] at Dw);clear Vv Ki ej pz)|((with_reducible refine Vg (t:=3) (p:=23) rfl ?_);refine Gg (t:=3) (p:=23) (v:=?vo_w13) (w1:=(Ei.setCell ⟨tf,(Ca:Int).toNat * 4 + 1,none⟩ (.int .i64 (wrap64 (Gc + 1))))) ?hg ?ho ?hn ?hr ?_;(case ho=>rfl);(case hg=>rfl);(case hn=>rfl);(case hr=>first|(go_simp;done)|(go_simp;rfl));intro mo hw;have hg:Ei.grownBy mo (some tf):=(by rw [hw];exact Nz.2);have bp:Kd.R Dj 103 mo w0.heap.size (fun k_=>(Zj k_ ∨ w.heap.size ≤ k_)) (.slice (some ⟨tf,0,none⟩) qe.length ZL) bf:=(by rw [hw,KA.out];exact Nz.1);clear Nz;have Qb:=ja.mk (bp);have uc:=ja.mk ((by rw [hw];exact Aa (HB.out) yJ.out:Below w0.heap.size w0 mo));have Qc:=ja.mk (Kept.ji (S:=(fun k_=>Zj k_)) hg (by repeat (first|(with_reducible first|exact HK.out|apply Kept.alloc|apply Kept.drewN|apply Kept.drew)|exact HK.out)) (fun k_ e_=>(Ye.out.1 k_ e_)));clear Ye HB HK;have Ye:=Qb;have HB:=uc;have HK:=Qc;clear Qb uc Qc hg hw bp;have p7:0 ≤ (Ca:Int):=of_decide_eq_true (by first|(with_reducible assumption)|assumption);have q7:(Ca:Int) < ((qe.length:Int):Int):=of_decide_eq_true (by first|(with_reducible assumption)|assumption);obtain ⟨ce7,FT,O0,Xv,vv⟩:=Kd.Xg Ye.out ox (Ca:Int) p7 q7;obtain rfl:=Vj O0;have XV:mo.cell? ⟨tf,(Ca:Int).toNat * 4,none⟩=some (.int .i64 ((gb bf Ca).f0)):=Xv 0 _ rfl;have WV:mo.cell? ⟨tf,(Ca:Int).toNat * 4 + 1,none⟩=some (.int .i64 ((gb bf Ca).f1)):=Xv 1 _ rfl;have VV:mo.cell? ⟨tf,(Ca:Int).toNat * 4 + 2,none⟩=some (.int .i64 ((gb bf Ca).f2)):=Xv 2 _ rfl;have TV:mo.cell? ⟨tf,(Ca:Int).toNat * 4 + 3,none⟩=some (.int .i64 ((gb bf Ca).f3)):=Xv 3 _ rfl;have zY:mo.frozen? ⟨tf,(Ca:Int).toNat * 4,none⟩=false:=vv 0;have yY:mo.frozen? ⟨tf,(Ca:Int).toNat * 4 + 1,none⟩=false:=vv 1;have xY:mo.frozen? ⟨tf,(Ca:Int).toNat * 4 + 2,none⟩=false:=vv 2;have wY:mo.frozen? ⟨tf,(Ca:Int).toNat * 4 + 3,none⟩=false:=vv 3;clear FT Xv vv O0;replace p7:=eq_true p7;replace q7:=eq_true q7;have zM:=ja.mk (show Kd.R Dj 103 mo w0.heap.size (fun k_=>(Zj k_ ∨ w.heap.size ≤ k_)) (.slice (some ⟨tf,0,none⟩) qe.length ZL) bf from (by (with_reducible repeat (first|apply Kd.Sd|apply Kd.ee|apply Kd.Ie));exact Ye.out));obtain ⟨Baf,SD,RL,oz,QD⟩:=Kd.Xg zM.out ox (Ca:Int) (of_decide_eq_true (by first|(with_reducible assumption)|assumption)) (by have h_:(Ca:Int) < ((qe.length:Int):Int):=of_decide_eq_true (by first|(with_reducible assumption)|assumption);first|exact h_|(have e_:=(Kd.Fc Ye.out).1;omega)|simpa using h_);obtain rfl:=Vj RL;have nG:=Kd.cm zM.out (Ca:Int) (of_decide_eq_true (by first|(with_reducible assumption)|assumption)) (by have h_:(Ca:Int) < ((qe.length:Int):Int):=of_decide_eq_true (by first|(with_reducible assumption)|assumption);first|exact h_|(have e_:=(Kd.Fc Ye.out).1;omega)|simpa using h_) (seg:=[.int .i64 (wrap64 ((wrap64 (Gc + 1)) + 1))]) (j:=2) SD oz (show 3 ≤ 4 from by decide) (x':=(⟨(gb bf Ca).f0,(gb bf Ca).f1,wrap64 ((wrap64 (Gc + 1)) + 1),(gb bf Ca).f3⟩:af)) (oq _ _ _ (⟨(gb bf Ca).f0,(gb bf Ca).f1,wrap64 ((wrap64 (Gc + 1)) + 1),(gb bf Ca).f3⟩:af) ) (fun _ hk=>hk);have ZS:=oz 2 _ rfl;(try simp only [show (Dj).sz=4 from rfl,Nat.mul_one,Nat.add_zero] at ZS);have wT:=QD 2;(try simp only [show (Dj).sz=4 from rfl,Nat.mul_one,Nat.add_zero] at wT);clear SD oz QD RL)|((with_reducible refine Vg (t:=3) (p:=30) rfl ?_);refine Gg (t:=3) (p:=30) (v:=?vo_w15) (w1:=(mo.setCell ⟨tf,(Ca:Int).toNat * 4 + 2,none⟩ (.int .i64 (wrap64 ((wrap64 (Gc + 1)) + 1))))) ?hg ?ho ?hn ?hr ?_;(case ho=>rfl);(case hg=>rfl);(case hn=>rfl);(case hr=>first|(go_simp;done)|(go_simp;rfl));intro Fl hw;have hg:mo.grownBy Fl (some tf):=(by rw [hw];exact nG.2);have bp:Kd.R Dj 103 Fl w0.heap.size (fun k_=>(Zj k_ ∨ w.heap.size ≤ k_)) (.slice (some ⟨tf,0,none⟩) qe.length ZL) lf:=(by rw [hw,wM.out];exact nG.1);clear nG;have Qb:=ja.mk (bp);have uc:=ja.mk ((by rw [hw];exact Aa (HB.out) yJ.out:Below w0.heap.size w0 Fl));have Qc:=ja.mk (Kept.ji (S:=(fun k_=>Zj k_)) hg (by repeat (first|(with_reducible first|exact HK.out|apply Kept.alloc|apply Kept.drewN|apply Kept.drew)|exact HK.out)) (fun k_ e_=>(Ye.out.1 k_ e_)));clear Ye HB HK;have Ye:=Qb;have HB:=uc;have HK:=Qc;clear Qb uc Qc hg hw bp;have p8:0 ≤ (Ca:Int):=of_decide_eq_true (by first|(with_reducible assumption)|assumption);have q8:(Ca:Int) < ((qe.length:Int):Int):=of_decide_eq_true (by first|(with_reducible assumption)|assumption);obtain ⟨ce8,ET,N0,Wv,tv⟩:=Kd.Xg Ye.out ox (Ca:Int) p8 q8;obtain rfl:=Vj N0;have SV:Fl.cell? ⟨tf,(Ca:Int).toNat * 4,none⟩=some (.int .i64 ((gb lf Ca).f0)):=Wv 0 _ rfl;have RV:Fl.cell? ⟨tf,(Ca:Int).toNat * 4 + 1,none⟩=some (.int .i64 ((gb lf Ca).f1)):=Wv 1 _ rfl;have QV:Fl.cell? ⟨tf,(Ca:Int).toNat * 4 + 2,none⟩=some (.int .i64 ((gb lf Ca).f2)):=Wv 2 _ rfl;have PV:Fl.cell? ⟨tf,(Ca:Int).toNat * 4 + 3,none⟩=some (.int .i64 ((gb lf Ca).f3)):=Wv 3 _ rfl;have vY:Fl.frozen? ⟨tf,(Ca:Int).toNat * 4,none⟩=false:=tv 0;have uY:Fl.frozen? ⟨tf,(Ca:Int).toNat * 4 + 1,none⟩=false:=tv 1;have sY:Fl.frozen? ⟨tf,(Ca:Int).toNat * 4 + 2,none⟩=false:=tv 2;have rY:Fl.frozen? ⟨tf,(Ca:Int).toNat * 4 + 3,none⟩=false:=tv 3;clear ET Wv tv N0;replace p8:=eq_true p8;replace q8:=eq_true q8;have yM:=ja.mk (show Kd.R Dj 103 Fl w0.heap.size (fun k_=>(Zj k_ ∨ w.heap.size ≤ k_)) (.slice (some ⟨tf,0,none⟩) qe.length ZL) lf from (by (with_reducible repeat (first|apply Kd.Sd|apply Kd.ee|apply Kd.Ie));exact Ye.out));obtain ⟨Aaf,RD,QL,mz,PD⟩:=Kd.Xg yM.out ox (Ca:Int) (of_decide_eq_true (by first|(with_reducible assumption)|assumption)) (by have h_:(Ca:Int) < ((qe.length:Int):Int):=of_decide_eq_true (by first|(with_reducible assumption)|assumption);first|exact h_|(have e_:=(Kd.Fc Ye.out).1;omega)|simpa using h_);obtain rfl:=Vj QL;have mG:=Kd.cm yM.out (Ca:Int) (of_decide_eq_true (by first|(with_reducible assumption)|assumption)) (by have h_:(Ca:Int) < ((qe.length:Int):Int):=of_decide_eq_true (by first|(with_reducible assumption)|assumption);first|exact h_|(have e_:=(Kd.Fc Ye.out).1;omega)|simpa using h_) (seg:=[.int .i64 (wrap64 ((wrap64 ((wrap64 (Gc + 1)) + 1)) + 1))]) (j:=3) RD mz (show 4 ≤ 4 from by decide) (x':=(⟨(gb lf Ca).f0,(gb lf Ca).f1,(gb lf Ca).f2,wrap64 ((wrap64 ((wrap64 (Gc + 1)) + 1)) + 1)⟩:af)) (oq _ _ _ (⟨(gb lf Ca).f0,(gb lf Ca).f1,(gb lf Ca).f2,wrap64 ((wrap64 ((wrap64 (Gc + 1)) + 1)) + 1)⟩:af) ) (fun _ hk=>hk);have XS:=mz 3 _ rfl;(try simp only [show (Dj).sz=4 from rfl,Nat.mul_one,Nat.add_zero] at XS);have uT:=PD 3;(try simp only [show (Dj).sz=4 from rfl,Nat.mul_one,Nat.add_zero] at uT);clear RD mz PD QL)|((with_reducible refine Vg (t:=3) (p:=37) rfl ?_);refine Gg (t:=3) (p:=37) (v:=?vo_w17) (w1:=(Fl.setCell ⟨tf,(Ca:Int).toNat * 4 + 3,none⟩ (.int .i64 (wrap64 ((wrap64 ((wrap64 (Gc + 1)) + 1)) + 1))))) ?hg ?ho ?hn ?hr ?_;(case ho=>rfl);(case hg=>rfl);(case hn=>rfl);(case hr=>first|(go_simp;done)|(go_simp;rfl));intro Ro hw;have hg:Fl.grownBy Ro (some tf):=(by rw [hw];exact mG.2);have bp:Kd.R Dj 103 Ro w0.heap.size (fun k_=>(Zj k_ ∨ w.heap.size ≤ k_)) (.slice (some ⟨tf,0,none⟩) qe.length ZL) lg:=(by rw [hw,rE.out];exact mG.1);clear mG;have Qb:=ja.mk (bp);have uc:=ja.mk ((by rw [hw];exact Aa (HB.out) yJ.out:Below w0.heap.size w0 Ro));have Qc:=ja.mk (Kept.ji (S:=(fun k_=>Zj k_)) hg (by repeat (first|(with_reducible first|exact HK.out|apply Kept.alloc|apply Kept.drewN|apply Kept.drew)|exact HK.out)) (fun k_ e_=>(Ye.out.1 k_ e_)));clear Ye HB HK;have Ye:=Qb;have HB:=uc;have HK:=Qc;clear Qb uc Qc hg hw bp))
     go_roundg k1
     case measure=>have:=Ig.out;omega
     case rel=>exact ⟨(lg),(wrap64 ((wrap64 ((wrap64 ((wrap64 (Gc + 1)) + 1)) + 1)) + 1)),(wrap64 (Ca + 1)),(by first|rfl|(simp;done)|(simp [*];done)),(by first|rfl|(simp;done)|(simp [*];done)),H',⟨by have:=Ig.out;omega⟩,⟨by (with_reducible repeat (first|apply Kd.Sd|apply Kd.ee|apply Kd.Ie));exact Ye.out⟩,⟨by repeat (first|(with_reducible first|exact HK.out|apply Kept.alloc|apply Kept.drewN|apply Kept.drew)|exact HK.out)⟩,⟨by repeat (first|(with_reducible first|exact HB.out|apply qa|apply ia|apply ua)|exact HB.out)⟩⟩
    ·rw [if_neg c4] at H
     exact absurd H (by simp)
   ·rw [if_neg c3] at H
    have Jh:decide (Ca < (qe.length:Int))=false:=decide_eq_false c3
    clear c3
    simp only [Option.some.injEq,Prod.mk.injEq] at H
    obtain ⟨rfl,rfl⟩:=H
    obtain ⟨mal,uak,uaf⟩:=Kd.Mf Ye.out
    subst uaf
    go_wp2
    go_ret
    exact ⟨by first|rfl|(simp [La,Ka] <;> rfl)|(simp [*,La,Ka] <;> rfl),by (with_reducible repeat (first|apply Kd.Sd|apply Kd.ee|apply Kd.Ie));exact Ye.out,by repeat (first|(with_reducible first|exact HB.out|apply qa|apply ia|apply ua)|exact HB.out),by repeat (first|(with_reducible first|exact HK.out|apply Kept.alloc|apply Kept.drewN|apply Kept.drew)|exact HK.out)⟩
def jd.l0:Nat→List (af)→Int→Int→Option (Int)
 | 0,_,_,_=>none
 | k + 1,x0,x1,x5=>if x5 < (x0.length:Int) then (if 0 ≤ x5 then (if ((gb x0 x5).f0)=x1 then (if ((gb x0 x5).f1)=(wrap64 (x1 + 1)) then (if ((gb x0 x5).f2)=(wrap64 ((wrap64 (x1 + 1)) + 1)) then (if ((gb x0 x5).f3)=(wrap64 ((wrap64 ((wrap64 (x1 + 1)) + 1)) + 1)) then (jd.l0 k x0 (wrap64 ((wrap64 ((wrap64 ((wrap64 (x1 + 1)) + 1)) + 1)) + 1)) (wrap64 (x5 + 1))) else (some (-1))) else (some (-1))) else (some (-1))) else (some (-1))) else (none)) else (some x1)
def jd.f (k:Nat) (l0:List (af)) (a1:Int):Option (Int):=jd.l0 k l0 a1 0
theorem jd.Qd:∀ k,(∀ y0 y1 y2,Nb (jd.l0 k y0 y1 y2) (jd.l0 (k + 1) y0 y1 y2))
 | 0=>fun _ _ _ r h=>by simp [jd.l0] at h
 | k + 1=>by
  have Ff:=jd.Qd k
  ·intro y0 y1 y2
   unfold jd.l0
   repeat' first
   | (with_reducible exact Ff _ _ _)
   | (with_reducible exact Nb.refl _)
   | (with_reducible exact Nb.none _)
   | (with_reducible refine Nb.ite ?_ ?_)
   | (with_reducible refine Nb.bind ?_ (fun _=>?_))
   | exact Ff _ _ _
   | exact Nb.none _
   | refine Nb.ite ?_ ?_
   | refine Nb.bind ?_ (fun _=>?_)
theorem jd.mono:∀ a0 a1 k,Nb (jd.f k a0 a1) (jd.f (k + 1) a0 a1):=by
 intro a0 a1 k
 have Ff:=jd.Qd k
 unfold jd.f
 repeat' first
   | (with_reducible exact Ff _ _ _)
   | (with_reducible exact Nb.refl _)
   | (with_reducible exact Nb.none _)
   | (with_reducible refine Nb.ite ?_ ?_)
   | (with_reducible refine Nb.bind ?_ (fun _=>?_))
   | exact Ff _ _ _
   | exact Nb.none _
   | refine Nb.ite ?_ ?_
   | refine Nb.bind ?_ (fun _=>?_)
theorem jd.calls (k:Nat) (A0:Option Addr) (c0:Nat) (l0:List (af)) (a1:Int) (r:Int) (w:World) (hr0:Kd.C Dj w A0 l0.length l0) (hc0:l0.length ≤ c0) (h:jd.f k l0 a1=some r) :
  Calls Try.prog 38 #[.slice A0 l0.length c0,.int .i64 a1] w fun e w'=>e = .returned (.int .i64 r)∧jc w w':=by
 have Bh:=ja.mk hr0
 have Rw:=ja.mk hc0
 clear hr0 hc0
 have H:(jd.l0 k l0 a1 0)=some r:=h
 clear h
 have H':=ja.mk H
 clear H
 go_enter Try.func38,Try.ntmps38
 go_wp2
 go_loopg [1,5] k (fun kq v1 v5 w'=>∃ (Gc:Int) (Ca:Int),v1 = .int .i64 Gc∧v5 = .int .i64 Ca∧ja (jd.l0 kq l0 Gc Ca=some r)∧ja (kq ≤ k)∧jc w w')
 case atStart=>exact ⟨(a1),(0),(by first|rfl|(simp;done)|(simp [*];done)),(by first|rfl|(simp;done)|(simp [*];done)),H',⟨Nat.le_refl _⟩,by repeat (first|exact jc.refl _|apply jc.step)⟩
 case round =>
  clear H'
  try clear p2
  (try clear HA)
  (try clear Ig)
  obtain ⟨Gc,Ca,rfl,rfl,HA,Ig,⟨m1,rfl⟩⟩:=hrel
  cases gk with
  | zero=>exact absurd HA.out (by simp [jd.l0])
  | succ k1 =>
   have H:=HA.out
   clear HA
   simp only [jd.l0] at H
   by_cases c3:Ca < (l0.length:Int)
   ·rw [if_pos c3] at H
    have Jh:decide (Ca < (l0.length:Int))=true:=decide_eq_true c3
    clear c3
    by_cases c4:0 ≤ Ca
    ·rw [if_pos c4] at H
     have si:decide (0 ≤ Ca)=true:=decide_eq_true c4
     clear c4
     by_cases c5:((gb l0 Ca).f0)=Gc
     ·rw [if_pos c5] at H
      have Ok:(((gb l0 Ca).f0) == Gc)=true:=beq_iff_eq.mpr c5
      have Yp:(((gb l0 Ca).f0) != Gc)=false:=bne_eq_false_iff_eq.mpr c5
      clear c5
      by_cases c6:((gb l0 Ca).f1)=(wrap64 (Gc + 1))
      ·rw [if_pos c6] at H
       have El:(((gb l0 Ca).f1) == (wrap64 (Gc + 1)))=true:=beq_iff_eq.mpr c6
       have Ts:(((gb l0 Ca).f1) != (wrap64 (Gc + 1)))=false:=bne_eq_false_iff_eq.mpr c6
       clear c6
       by_cases c7:((gb l0 Ca).f2)=(wrap64 ((wrap64 (Gc + 1)) + 1))
       ·rw [if_pos c7] at H
        have Uo:(((gb l0 Ca).f2) == (wrap64 ((wrap64 (Gc + 1)) + 1)))=true:=beq_iff_eq.mpr c7
        have qu:(((gb l0 Ca).f2) != (wrap64 ((wrap64 (Gc + 1)) + 1)))=false:=bne_eq_false_iff_eq.mpr c7
        clear c7
        by_cases c8:((gb l0 Ca).f3)=(wrap64 ((wrap64 ((wrap64 (Gc + 1)) + 1)) + 1))
        ·rw [if_pos c8] at H
         have Yl:(((gb l0 Ca).f3) == (wrap64 ((wrap64 ((wrap64 (Gc + 1)) + 1)) + 1)))=true:=beq_iff_eq.mpr c8
         have sq:(((gb l0 Ca).f3) != (wrap64 ((wrap64 ((wrap64 (Gc + 1)) + 1)) + 1)))=false:=bne_eq_false_iff_eq.mpr c8
         clear c8
         have H':=ja.mk H
         clear H
         have Vd:0 ≤ (Ca:Int):=of_decide_eq_true (by first|(with_reducible assumption)|assumption)
         have Ud:Ca < (l0.length:Int):=of_decide_eq_true (by first|(with_reducible assumption)|assumption)
         obtain ⟨ic,Eg,Ob,Vb,Ub,Tb⟩:=qi Bh.out Ca Vd Ud
         cases Eg
         replace Vd:=eq_true Vd
         replace Ud:=eq_true Ud
         have Jf:0 ≤ (Ca:Int):=of_decide_eq_true (by first|(with_reducible assumption)|assumption)
         have Hf:Ca < (l0.length:Int):=of_decide_eq_true (by first|(with_reducible assumption)|assumption)
         obtain ⟨xe,gj,Rc,Dd,Cd,Bd⟩:=qi Bh.out Ca Jf Hf
         obtain rfl:ic=xe:=(by injection gj)
         replace Jf:=eq_true Jf
         replace Hf:=eq_true Hf
         have Tg:0 ≤ (Ca:Int):=of_decide_eq_true (by first|(with_reducible assumption)|assumption)
         have Sg:Ca < (l0.length:Int):=of_decide_eq_true (by first|(with_reducible assumption)|assumption)
         obtain ⟨Ef,Cl,Ad,Yd,Xd,Wd⟩:=qi Bh.out Ca Tg Sg
         obtain rfl:ic=Ef:=(by injection Cl)
         replace Tg:=eq_true Tg
         replace Sg:=eq_true Sg
         have Gh:0 ≤ (Ca:Int):=of_decide_eq_true (by first|(with_reducible assumption)|assumption)
         have Fh:Ca < (l0.length:Int):=of_decide_eq_true (by first|(with_reducible assumption)|assumption)
         obtain ⟨Rj,rm,ue,Te,Re,Qe⟩:=qi Bh.out Ca Gh Fh
         obtain rfl:ic=Rj:=(by injection rm)
         replace Gh:=eq_true Gh
         replace Fh:=eq_true Fh
         go_wp2
         go_roundg k1
         case measure=>have:=Ig.out;omega
         case rel=>exact ⟨(wrap64 ((wrap64 ((wrap64 ((wrap64 (Gc + 1)) + 1)) + 1)) + 1)),(wrap64 (Ca + 1)),(by first|rfl|(simp;done)|(simp [*];done)),(by first|rfl|(simp;done)|(simp [*];done)),H',⟨by have:=Ig.out;omega⟩,by repeat (first|exact jc.refl _|apply jc.step)⟩
        ·rw [if_neg c8] at H
         have Yl:(((gb l0 Ca).f3) == (wrap64 ((wrap64 ((wrap64 (Gc + 1)) + 1)) + 1)))=false:=beq_eq_false_iff_ne.mpr c8
         have sq:(((gb l0 Ca).f3) != (wrap64 ((wrap64 ((wrap64 (Gc + 1)) + 1)) + 1)))=true:=bne_iff_ne.mpr c8
         obtain rfl:=Option.some.inj H
         have Vd:0 ≤ (Ca:Int):=of_decide_eq_true (by first|(with_reducible assumption)|assumption)
         have Ud:Ca < (l0.length:Int):=of_decide_eq_true (by first|(with_reducible assumption)|assumption)
         obtain ⟨ic,Eg,Ob,Vb,Ub,Tb⟩:=qi Bh.out Ca Vd Ud
         cases Eg
         replace Vd:=eq_true Vd
         replace Ud:=eq_true Ud
         have Jf:0 ≤ (Ca:Int):=of_decide_eq_true (by first|(with_reducible assumption)|assumption)
         have Hf:Ca < (l0.length:Int):=of_decide_eq_true (by first|(with_reducible assumption)|assumption)
         obtain ⟨xe,gj,Rc,Dd,Cd,Bd⟩:=qi Bh.out Ca Jf Hf
         obtain rfl:ic=xe:=(by injection gj)
         replace Jf:=eq_true Jf
         replace Hf:=eq_true Hf
         have Tg:0 ≤ (Ca:Int):=of_decide_eq_true (by first|(with_reducible assumption)|assumption)
         have Sg:Ca < (l0.length:Int):=of_decide_eq_true (by first|(with_reducible assumption)|assumption)
         obtain ⟨Ef,Cl,Ad,Yd,Xd,Wd⟩:=qi Bh.out Ca Tg Sg
         obtain rfl:ic=Ef:=(by injection Cl)
         replace Tg:=eq_true Tg
         replace Sg:=eq_true Sg
         have Gh:0 ≤ (Ca:Int):=of_decide_eq_true (by first|(with_reducible assumption)|assumption)
         have Fh:Ca < (l0.length:Int):=of_decide_eq_true (by first|(with_reducible assumption)|assumption)
         obtain ⟨Rj,rm,ue,Te,Re,Qe⟩:=qi Bh.out Ca Gh Fh
         obtain rfl:ic=Rj:=(by injection rm)
         replace Gh:=eq_true Gh
         replace Fh:=eq_true Fh
         go_wp2
         go_ret
         exact ⟨by first|rfl|(simp;done)|(simp [*];done),by repeat (first|exact jc.refl _|apply jc.step)⟩
       ·rw [if_neg c7] at H
        have Uo:(((gb l0 Ca).f2) == (wrap64 ((wrap64 (Gc + 1)) + 1)))=false:=beq_eq_false_iff_ne.mpr c7
        have qu:(((gb l0 Ca).f2) != (wrap64 ((wrap64 (Gc + 1)) + 1)))=true:=bne_iff_ne.mpr c7
        obtain rfl:=Option.some.inj H
        have Vd:0 ≤ (Ca:Int):=of_decide_eq_true (by first|(with_reducible assumption)|assumption)
        have Ud:Ca < (l0.length:Int):=of_decide_eq_true (by first|(with_reducible assumption)|assumption)
        obtain ⟨ic,Eg,Ob,Vb,Ub,Tb⟩:=qi Bh.out Ca Vd Ud
        cases Eg
        replace Vd:=eq_true Vd
        replace Ud:=eq_true Ud
        have Jf:0 ≤ (Ca:Int):=of_decide_eq_true (by first|(with_reducible assumption)|assumption)
        have Hf:Ca < (l0.length:Int):=of_decide_eq_true (by first|(with_reducible assumption)|assumption)
        obtain ⟨xe,gj,Rc,Dd,Cd,Bd⟩:=qi Bh.out Ca Jf Hf
        obtain rfl:ic=xe:=(by injection gj)
        replace Jf:=eq_true Jf
        replace Hf:=eq_true Hf
        have Tg:0 ≤ (Ca:Int):=of_decide_eq_true (by first|(with_reducible assumption)|assumption)
        have Sg:Ca < (l0.length:Int):=of_decide_eq_true (by first|(with_reducible assumption)|assumption)
        obtain ⟨Ef,Cl,Ad,Yd,Xd,Wd⟩:=qi Bh.out Ca Tg Sg
        obtain rfl:ic=Ef:=(by injection Cl)
        replace Tg:=eq_true Tg
        replace Sg:=eq_true Sg
        go_wp2
        go_ret
        exact ⟨by first|rfl|(simp;done)|(simp [*];done),by repeat (first|exact jc.refl _|apply jc.step)⟩
      ·rw [if_neg c6] at H
       have El:(((gb l0 Ca).f1) == (wrap64 (Gc + 1)))=false:=beq_eq_false_iff_ne.mpr c6
       have Ts:(((gb l0 Ca).f1) != (wrap64 (Gc + 1)))=true:=bne_iff_ne.mpr c6
       obtain rfl:=Option.some.inj H
       have Vd:0 ≤ (Ca:Int):=of_decide_eq_true (by first|(with_reducible assumption)|assumption)
       have Ud:Ca < (l0.length:Int):=of_decide_eq_true (by first|(with_reducible assumption)|assumption)
       obtain ⟨ic,Eg,Ob,Vb,Ub,Tb⟩:=qi Bh.out Ca Vd Ud
       cases Eg
       replace Vd:=eq_true Vd
       replace Ud:=eq_true Ud
       have Jf:0 ≤ (Ca:Int):=of_decide_eq_true (by first|(with_reducible assumption)|assumption)
       have Hf:Ca < (l0.length:Int):=of_decide_eq_true (by first|(with_reducible assumption)|assumption)
       obtain ⟨xe,gj,Rc,Dd,Cd,Bd⟩:=qi Bh.out Ca Jf Hf
       obtain rfl:ic=xe:=(by injection gj)
       replace Jf:=eq_true Jf
       replace Hf:=eq_true Hf
       go_wp2
       go_ret
       exact ⟨by first|rfl|(simp;done)|(simp [*];done),by repeat (first|exact jc.refl _|apply jc.step)⟩
     ·rw [if_neg c5] at H
      have Ok:(((gb l0 Ca).f0) == Gc)=false:=beq_eq_false_iff_ne.mpr c5
      have Yp:(((gb l0 Ca).f0) != Gc)=true:=bne_iff_ne.mpr c5
      obtain rfl:=Option.some.inj H
      have Vd:0 ≤ (Ca:Int):=of_decide_eq_true (by first|(with_reducible assumption)|assumption)
      have Ud:Ca < (l0.length:Int):=of_decide_eq_true (by first|(with_reducible assumption)|assumption)
      obtain ⟨ic,Eg,Ob,Vb,Ub,Tb⟩:=qi Bh.out Ca Vd Ud
      cases Eg
      replace Vd:=eq_true Vd
      replace Ud:=eq_true Ud
      go_wp2
      go_ret
      exact ⟨by first|rfl|(simp;done)|(simp [*];done),by repeat (first|exact jc.refl _|apply jc.step)⟩
    ·rw [if_neg c4] at H
     exact absurd H (by simp)
   ·rw [if_neg c3] at H
    have Jh:decide (Ca < (l0.length:Int))=false:=decide_eq_false c3
    clear c3
    obtain rfl:=Option.some.inj H
    go_wp2
    go_ret
    exact ⟨by first|rfl|(simp;done)|(simp [*];done),by repeat (first|exact jc.refl _|apply jc.step)⟩
theorem Rs (k:Nat) (A:Option Addr) (c n:Nat) (l:List af) (a r:Int) (w:World) (hn:l.length=n) (hr:Kd.C Dj w A l.length l) (hc:n ≤ c) (h:jd.f k l a=some r):Calls Try.prog 38 #[.slice A n c,.int .i64 a] w fun e w'=>e = .returned (.int .i64 r)∧jc w w':=by
 subst hn
 exact jd.calls k A c l a r w hr hc h
def Ug.f (k:Nat) (Ta:List Int) (Pa:Int) (Oa:Int) (Ma:Int) (Ra:List Dl) (a1:Int):Option Bool :=
 (Og.f k Ta Pa Oa Ma Ra 1048576).bind fun s=>if s < 0 then some true else
 (ng.f k Ta Pa Oa Ma Ra).bind fun G =>
 (qc.f k G.1 G.2.1 G.2.2.1 G.2.2.2.1 G.2.2.2.2 a1).bind fun x =>
 (Oh.f k G.1 G.2.1 G.2.2.1 G.2.2.2.1 G.2.2.2.2 a1).bind fun y =>
 (Ac.f k y x).bind fun e1=>if e1=true then
 (gh.f k G.1 G.2.1 G.2.2.1 G.2.2.2.1 G.2.2.2.2 G.1 G.2.1 G.2.2.1 G.2.2.2.1 G.2.2.2.2).bind fun e2=>if e2=true then
 (Xf.f k G.1 G.2.1 G.2.2.1 G.2.2.2.1 G.2.2.2.2 1).bind fun M=>if M.1 < 0 then none else
 (Oc.f k y 1).bind fun m=>(jd.f k m.2 1).bind fun q=>if q < 0 then none else if q=m.1 then some true else none
 else none else none
theorem Ug.calls (k:Nat) (Eb:Option Addr) (Db:Nat) (Ta:List Int) (Pa:Int) (Oa:Int) (Ma:Int) (yc:Option Addr) (Zb:Nat) (Ra:List Dl) (a1:Int) (r:Bool) (w:World) (Kf:Kd.C (Kd.int .i64) w Eb Ta.length Ta) (Gf:Ta.length ≤ Db) (Bg:Kd.C fz w yc Ra.length Ra) (Jg:Ra.length ≤ Zb) (h:Ug.f k Ta Pa Oa Ma Ra a1=some r) :
  Calls Try.prog 9 #[.agg #[.slice Eb Ta.length Db,.int .i64 Pa,.int .i64 Oa,.int .i64 Ma,.slice yc Ra.length Zb],.int .i64 a1] w fun e w'=>e = .returned (.bool r)∧Below w.heap.size w w':=by
 unfold Ug.f at h
 obtain ⟨s,hs,h⟩:=Option.bind_eq_some_iff.mp h
 have kG:=ja.mk hs
 have Bh:=ja.mk Kf
 have qV:=ja.mk Bg
 have uJ:=ja.mk Gf
 have tJ:=ja.mk Jg
 obtain ⟨W1,hW1⟩:∃ W1,W1=w.alloc (.cells #[.slice Eb Ta.length Db,.int .i64 Pa,.int .i64 Oa,.int .i64 Ma,.slice yc Ra.length Zb] 25 (0,0)):=⟨_,rfl⟩
 have HW:=ja.mk hW1
 have Oz:=ja.mk (show Below w.heap.size w W1 by rw [hW1];exact qa (Below.refl _ _) _)
 have mK:=ja.mk (show W1.heap[w.heap.size]? = some (.cells #[.slice Eb Ta.length Db,.int .i64 Pa,.int .i64 Oa,.int .i64 Ma,.slice yc Ra.length Zb] 25 (0,0)) by rw [hW1];exact Me _ _)
 clear hs Kf Bg Gf Jg hW1
 by_cases hneg:s < 0
 ·rw [if_pos hneg] at h
  obtain rfl:=Option.some.inj h
  have hnb:decide (s < 0)=true:=decide_eq_true hneg
  clear h hneg
  have pL:=(ga mK.out 0).trans rfl
  have BA:=(ga mK.out 1).trans rfl
  have AE:=(ga mK.out 2).trans rfl
  have zE:=(ga mK.out 3).trans rfl
  have gF:=(ga mK.out 4).trans rfl
  go_enter Try.func9,Try.ntmps9
  go_upto_region 1 with (fail)
  rw [← HW.out]
  clear HW
  go_wp2_with (first|(go_at_call 13;(with_reducible refine (Og.calls k Eb Db Ta Pa Oa Ma yc Zb Ra 1048576 s W1 (Kd.Mb Bh.out Oz.out) uJ.out (Kd.Mb qV.out Oz.out) tJ.out kG.out).mono ?_);rintro e w2 ⟨rfl,hb⟩;have gq:=ja.mk (Na Oz.out hb);have gS:=ja.mk (Ya mK.out hb);clear hb))
  go_ret
  exact ⟨rfl,gq.out⟩
 ·rw [if_neg hneg] at h
  have hnb:decide (s < 0)=false:=decide_eq_false hneg
  obtain ⟨⟨g1,g2,g3,g4,g5⟩,tG,h⟩:=Option.bind_eq_some_iff.mp h
  obtain ⟨x,tX,h⟩:=Option.bind_eq_some_iff.mp h
  obtain ⟨y,tY,h⟩:=Option.bind_eq_some_iff.mp h
  obtain ⟨e1,tE,h⟩:=Option.bind_eq_some_iff.mp h
  obtain rfl:e1=true:=by cases e1 with|false=>simp at h|true=>rfl
  rw [if_pos rfl] at h
  obtain ⟨e2,tF,h⟩:=Option.bind_eq_some_iff.mp h
  obtain rfl:e2=true:=by cases e2 with|false=>simp at h|true=>rfl
  rw [if_pos rfl] at h
  obtain ⟨⟨M1,M2,M3⟩,tM,h⟩:=Option.bind_eq_some_iff.mp h
  have hM:¬ M1 < 0:=fun hm=>by rw [if_pos hm] at h;cases h
  rw [if_neg hM] at h
  obtain ⟨⟨m1,m2⟩,tm,h⟩:=Option.bind_eq_some_iff.mp h
  obtain ⟨q,tq,h⟩:=Option.bind_eq_some_iff.mp h
  have hq:¬ q < 0:=fun hm=>by rw [if_pos hm] at h;cases h
  rw [if_neg hq] at h
  have hqm:q=m1:=Decidable.byContradiction fun hm=>by rw [if_neg hm] at h;cases h
  rw [if_pos hqm] at h
  obtain rfl:=Option.some.inj h
  subst hqm
  have hMb:decide (M1 < 0)=false:=decide_eq_false hM
  have hqb:decide (q < 0)=false:=decide_eq_false hq
  have TG:=ja.mk tG
  have TX:=ja.mk tX
  have TY:=ja.mk tY
  have TE:=ja.mk tE
  have TF:=ja.mk tF
  have TM:=ja.mk tM
  have Tm:=ja.mk tm
  have Tq:=ja.mk tq
  clear tG tX tY tE tF tM tm tq hM hq hneg h
  have pL:=(ga mK.out 0).trans rfl
  have BA:=(ga mK.out 1).trans rfl
  have AE:=(ga mK.out 2).trans rfl
  have zE:=(ga mK.out 3).trans rfl
  have gF:=(ga mK.out 4).trans rfl
  go_enter Try.func9,Try.ntmps9
  go_upto_region 1 with (fail)
  rw [← HW.out]
  clear HW
  go_upto_region 5 with (first|(go_at_call 13;(with_reducible refine (Og.calls k Eb Db Ta Pa Oa Ma yc Zb Ra 1048576 s W1 (Kd.Mb Bh.out Oz.out) uJ.out (Kd.Mb qV.out Oz.out) tJ.out kG.out).mono ?_);rintro e w2 ⟨rfl,hb⟩;have gq:=ja.mk (Na Oz.out hb);have gS:=ja.mk (Ya mK.out hb);clear hb Oz mK pL BA AE zE gF))
  have pL:=(ga gS.out 0).trans rfl
  have BA:=(ga gS.out 1).trans rfl
  have AE:=(ga gS.out 2).trans rfl
  have zE:=(ga gS.out 3).trans rfl
  have gF:=(ga gS.out 4).trans rfl
  go_upto_region 6 with (first|(go_at_call 15;(with_reducible refine (ng.calls k Eb Db Ta Pa Oa Ma yc Zb Ra g1 g2 g3 g4 g5 w2 (Kd.Mb Bh.out gq.out) uJ.out (Kd.Mb qV.out gq.out) tJ.out TG.out).mono ?_);rintro e w3 ⟨v0,v4,rfl,Am,eA,hb⟩;obtain ⟨B0,d0,rfl⟩:=Kd.Mf Am;obtain ⟨B4,d4,rfl⟩:=Kd.Qt eA;have CM:=ja.mk Am;have BM:=ja.mk eA;have vE:=ja.mk (Na gq.out hb);have HG3:=ja.mk (Ya gS.out hb);have z23:=hb.size;clear Am eA hb gq gS pL BA AE zE gF)|(go_at_call 34;(with_reducible refine (qc.calls k B0 d0 g1 g2 g3 g4 B4 d4 g5 a1 x w3 (Kd.Fc CM.out).2.2 (Kd.Fc CM.out).2.1 (Kd.Ej BM.out).2.2 (Kd.Ej BM.out).2.1 TX.out).mono ?_);rintro e w4 ⟨vx,rfl,ho,hb⟩;have HOW:=ja.mk (IE ho vE.out.size);have jo:=ja.mk (Na vE.out hb);have fS:=ja.mk (Ya HG3.out hb);have z34:=hb.size;obtain ⟨D0,f0,rfl⟩:=Kd.Mf ho;clear ho hb CM BM vE HG3))
  have hzw:=Pc fS.out
  have pL:=(ga fS.out 0).trans rfl
  have BA:=(ga fS.out 1).trans rfl
  have AE:=(ga fS.out 2).trans rfl
  have zE:=(ga fS.out 3).trans rfl
  have gF:=(ga fS.out 4).trans rfl
  go_upto_region 7 with (first|(go_at_call 15;(with_reducible refine (ng.calls k Eb Db Ta Pa Oa Ma yc Zb Ra g1 g2 g3 g4 g5 w4 (Kd.Mb Bh.out jo.out) uJ.out (Kd.Mb qV.out jo.out) tJ.out TG.out).mono ?_);rintro e w5 ⟨v0,v4,rfl,Am,eA,hb⟩;obtain ⟨B0,d0,rfl⟩:=Kd.Mf Am;obtain ⟨B4,d4,rfl⟩:=Kd.Qt eA;have HX0:=ja.mk (IE Am jo.out.size);have lK:=ja.mk (uS eA jo.out.size);have Es:=ja.mk (Na jo.out hb);have JM:=ja.mk (Ya fS.out hb);have P3:=ja.mk (Kd.Ue HOW.out hb);have z45:=hb.size;clear Am eA hb jo fS HOW pL BA AE zE gF))
  have C5:(w5.alloc (.cells #[.slice B0 g1.length d0,.int .i64 g2,.int .i64 g3,.int .i64 g4,.slice B4 g5.length d4] 30 (0,0))).heap.size=w5.heap.size + 1:=by simp
  have QT:=qa (Below.refl w5.heap.size w5) (.cells #[.slice B0 g1.length d0,.int .i64 g2,.int .i64 g3,.int .i64 g4,.slice B4 g5.length d4] 30 (0,0))
  have zm:=Me w5 (.cells #[.slice B0 g1.length d0,.int .i64 g2,.int .i64 g3,.int .i64 g4,.slice B4 g5.length d4] 30 (0,0))
  generalize w5.alloc (.cells #[.slice B0 g1.length d0,.int .i64 g2,.int .i64 g3,.int .i64 g4,.slice B4 g5.length d4] 30 (0,0))=w6 at C5 QT zm ⊢
  have XU:=ja.mk (Na Es.out QT)
  have HG6:=ja.mk (Ya JM.out QT)
  have O3:=ja.mk (Kd.Ue P3.out QT)
  have oQ:=ja.mk (Kd.Ue HX0.out QT)
  have nQ:=ja.mk (Kd.Yn lK.out QT)
  have CU:=ja.mk zm
  have Z56:=ja.mk C5
  clear C5 QT zm Es JM P3 HX0 lK
  have hx0:=(ga CU.out 0).trans rfl
  have hx1:=(ga CU.out 1).trans rfl
  have Ek:=(ga CU.out 2).trans rfl
  have jk:=(ga CU.out 3).trans rfl
  have Dk:=(ga CU.out 4).trans rfl
  go_upto_region 8 with (first|(go_at_call 35;(with_reducible refine (Oh.calls k B0 d0 g1 g2 g3 g4 B4 d4 g5 a1 y w6 (Kd.Fc oQ.out).2.2 (Kd.Fc oQ.out).2.1 (Kd.Ej nQ.out).2.2 (Kd.Ej nQ.out).2.1 TY.out).mono ?_);rintro e w7 ⟨vy,rfl,ho,hb⟩;have HOG:=ja.mk (IE ho XU.out.size);have HB7:=ja.mk (Na XU.out hb);have HG7:=ja.mk (Ya HG6.out hb);have HX7:=ja.mk (Ya CU.out hb);have qQ:=ja.mk (Kd.Ue O3.out hb);have L3:=ja.mk (Kd.Ue oQ.out hb);have D3:=ja.mk (Kd.Yn nQ.out hb);have z67:=hb.size;obtain ⟨E0,q0,rfl⟩:=Kd.Mf ho;clear ho hb XU HG6 CU O3 oQ nQ hx0 hx1 Ek jk Dk))
  have sQ:=HOG
  clear HOG
  go_upto_region 10 with (first|(go_at_call 36;(with_reducible refine (Ac.calls k E0 q0 y D0 f0 x true w7 (Kd.Fc sQ.out).2.2 (Kd.Fc sQ.out).2.1 (Kd.Fc qQ.out).2.2 (Kd.Fc qQ.out).2.1 TE.out).mono ?_);rintro e w8 ⟨rfl,hb0⟩;have hb:Below _ _ _:=hb0;have HB8:=ja.mk (Na HB7.out hb);have RU:=ja.mk (Ya HG7.out hb);have BU:=ja.mk (Ya HX7.out hb);have N3:=ja.mk (Kd.Ue qQ.out hb);have K3:=ja.mk (Kd.Ue L3.out hb);have C3:=ja.mk (Kd.Yn D3.out hb);have Q3:=ja.mk (Kd.Ue sQ.out hb);have z78:=hb.size;clear hb hb0 HB7 HG7 HX7 qQ L3 D3 sQ))
  have KM:=ja.mk (ua HB8.out)
  have tV:=ja.mk (Ia RU.out)
  have HX9:=ja.mk (Ia BU.out)
  have NU:=ja.mk (Kd.Ie N3.out)
  have EU:=ja.mk (Kd.Ie K3.out)
  have DU:=ja.mk (Kd.tu C3.out)
  have OU:=ja.mk (Kd.Ie Q3.out)
  have z89:w8.heap.size ≤ w8.drew.heap.size:=Nat.le_refl _
  refine Oi (n:=5) (S:=fun w'=>w'.cell? ⟨w5.heap.size,0,none⟩=some (.slice B0 g1.length d0)∧w'.cell? ⟨w5.heap.size,1,none⟩=some (.int .i64 g2)∧w'.cell? ⟨w5.heap.size,2,none⟩=some (.int .i64 g3)∧w'.cell? ⟨w5.heap.size,3,none⟩=some (.int .i64 g4)∧w'.cell? ⟨w5.heap.size,4,none⟩=some (.slice B4 g5.length d4)∧w'.cell? ⟨w.heap.size,0,none⟩=some (.slice Eb Ta.length Db)∧w'.cell? ⟨w.heap.size,1,none⟩=some (.int .i64 Pa)∧w'.cell? ⟨w.heap.size,2,none⟩=some (.int .i64 Oa)∧w'.cell? ⟨w.heap.size,3,none⟩=some (.int .i64 Ma)∧w'.cell? ⟨w.heap.size,4,none⟩=some (.slice yc Ra.length Zb)) (ds:=[]) #[false,false,false,false,false] (by kernel_rfl) rfl rfl ⟨(ga BU.out 0).trans rfl,(ga BU.out 1).trans rfl,(ga BU.out 2).trans rfl,(ga BU.out 3).trans rfl,(ga BU.out 4).trans rfl,(ga RU.out 0).trans rfl,(ga RU.out 1).trans rfl,(ga RU.out 2).trans rfl,(ga RU.out 3).trans rfl,(ga RU.out 4).trans rfl⟩ (fun hHeld=>?_)
  generalize w8.drew=w9 at KM tV HX9 NU EU DU OU z89 hHeld ⊢
  refine Lf (i:=0) (N:=some 31) (v:=?_) (a':=?_) #[true,false,false,false,false] rfl rfl (by kernel_rfl) (fun _ _ _ h=>h) (Or.inl ⟨by rfl,?_⟩) hHeld ?_ ?_
  rotate_left
  ·rintro w' ⟨s0,s1,s2,s3,s4,s5,s6,s7,s8,s9⟩
   go_simp
   with_reducible rfl
  rotate_left
  ·simp only [Act.put,List.setIfInBounds_toArray,List.set_cons_zero,List.set_cons_succ,Bb,Cb]
   rfl
  refine Lf (i:=1) (N:=some 32) (v:=?_) (a':=?_) #[true,true,false,false,false] rfl rfl (by kernel_rfl) (fun _ _ _ h=>h) (Or.inl ⟨by rfl,?_⟩) hHeld ?_ ?_
  rotate_left
  ·rintro w' ⟨s0,s1,s2,s3,s4,s5,s6,s7,s8,s9⟩
   go_simp
   with_reducible rfl
  rotate_left
  ·simp only [Act.put,List.setIfInBounds_toArray,List.set_cons_zero,List.set_cons_succ,Bb,Cb]
   rfl
  refine gm (i:=2) (N:=some 33) #[true,true,true,false,false] rfl rfl (by kernel_rfl) (by decide) (fun K hK=>?_)
  refine Qm Try.func15 (by kernel_rfl) rfl #[.agg #[.slice Eb Ta.length Db,.int .i64 Pa,.int .i64 Oa,.int .i64 Ma,.slice yc Ra.length Zb]] (by rfl) rfl rfl (by simp only [List.map_toArray,List.map_cons,List.map_nil];rfl) ?_
  with_reducible refine (ng.calls k Eb Db Ta Pa Oa Ma yc Zb Ra g1 g2 g3 g4 g5 w9 (Kd.Mb Bh.out KM.out) uJ.out (Kd.Mb qV.out KM.out) tJ.out TG.out).mono ?_
  rintro e jq ⟨v0,v4,rfl,Am,eA,hb⟩
  refine ⟨_,rfl,?_⟩
  have I4:=ja.mk (Na KM.out hb)
  have Qw:=ja.mk (Ya tV.out hb)
  have qA:=ja.mk (Ya HX9.out hb)
  have VR:=ja.mk (Kd.Ue NU.out hb)
  have mJ:=ja.mk (Kd.Ue EU.out hb)
  have lJ:=ja.mk (Kd.Yn DU.out hb)
  have dS:=ja.mk (Kd.Ue OU.out hb)
  have taj:=hb.size
  obtain ⟨F0,i0,rfl⟩:=Kd.Mf Am
  obtain ⟨F4,i4,rfl⟩:=Kd.Qt eA
  have CM:=ja.mk Am
  have BM:=ja.mk eA
  clear Am eA hb KM tV HX9 NU EU DU OU
  refine hK.out _ _ ⟨(ga qA.out 0).trans rfl,(ga qA.out 1).trans rfl,(ga qA.out 2).trans rfl,(ga qA.out 3).trans rfl,(ga qA.out 4).trans rfl,(ga Qw.out 0).trans rfl,(ga Qw.out 1).trans rfl,(ga Qw.out 2).trans rfl,(ga Qw.out 3).trans rfl,(ga Qw.out 4).trans rfl⟩ (fun hHeld=>?_)
  clear hK K
  refine Mg (a':=?_) ?_ ?_
  rotate_left
  ·show Act.put _ (some 33) _=_
   simp only [Act.put,List.setIfInBounds_toArray,List.set_cons_zero,List.set_cons_succ,Bb,Cb]
   rfl
  refine gm (i:=3) (N:=some 34) #[true,true,true,true,false] rfl rfl (by kernel_rfl) (by decide) (fun K hK=>?_)
  refine Qm Try.func17 (by kernel_rfl) rfl #[.agg #[.slice B0 g1.length d0,.int .i64 g2,.int .i64 g3,.int .i64 g4,.slice B4 g5.length d4],.agg #[.slice F0 g1.length i0,.int .i64 g2,.int .i64 g3,.int .i64 g4,.slice F4 g5.length i4]] (by rfl) rfl rfl (by simp only [List.map_toArray,List.map_cons,List.map_nil];rfl) ?_
  with_reducible refine (gh.calls k B0 d0 g1 g2 g3 g4 B4 d4 g5 F0 i0 g1 g2 g3 g4 F4 i4 g5 true jq (Kd.Fc mJ.out).2.2 (Kd.Fc mJ.out).2.1 (Kd.Ej lJ.out).2.2 (Kd.Ej lJ.out).2.1 (Kd.Fc CM.out).2.2 (Kd.Fc CM.out).2.1 (Kd.Ej BM.out).2.2 (Kd.Ej BM.out).2.1 TF.out).mono ?_
  rintro e Ei ⟨rfl,hb⟩
  refine ⟨_,rfl,?_⟩
  have G4:=ja.mk (Na I4.out hb)
  have qG:=ja.mk (Ya Qw.out hb)
  have Lz:=ja.mk (Ya qA.out hb)
  have UR:=ja.mk (Kd.Ue VR.out hb)
  have LR:=ja.mk (Kd.Ue mJ.out hb)
  have KR:=ja.mk (Kd.Yn lJ.out hb)
  have cS:=ja.mk (Kd.Ue dS.out hb)
  have dag:=hb.size
  clear hb CM BM I4 Qw qA VR mJ lJ dS
  refine hK.out _ _ ⟨(ga Lz.out 0).trans rfl,(ga Lz.out 1).trans rfl,(ga Lz.out 2).trans rfl,(ga Lz.out 3).trans rfl,(ga Lz.out 4).trans rfl,(ga qG.out 0).trans rfl,(ga qG.out 1).trans rfl,(ga qG.out 2).trans rfl,(ga qG.out 3).trans rfl,(ga qG.out 4).trans rfl⟩ (fun hHeld=>?_)
  clear hK K
  refine Mg (a':=?_) ?_ ?_
  rotate_left
  ·show Act.put _ (some 34) _=_
   simp only [Act.put,List.setIfInBounds_toArray,List.set_cons_zero,List.set_cons_succ,Bb,Cb]
   rfl
  refine Nc (i:=4) (N:=some 35) (v:=?_) (a':=?_) #[true,true,true,true,true] rfl rfl (by kernel_rfl) (fun _ _ _ h=>h) (Or.inl ⟨by rfl,?_⟩) ?_ ?_
  rotate_left
  ·intro w'
   go_simp
   with_reducible rfl
  rotate_left
  ·simp only [Act.put,List.setIfInBounds_toArray,List.set_cons_zero,List.set_cons_succ,Bb,Cb]
   rfl
  refine Mk (by kernel_rfl) ?_
  clear HB8 RU BU N3 K3 C3 Q3
  have hx0:=(ga Lz.out 0).trans rfl
  have hx1:=(ga Lz.out 1).trans rfl
  have Ek:=(ga Lz.out 2).trans rfl
  have jk:=(ga Lz.out 3).trans rfl
  have Dk:=(ga Lz.out 4).trans rfl
  go_upto_region 14 with (first|(go_at_call 21;(with_reducible refine (Xf.calls k _ _ g1 g2 g3 g4 _ _ g5 1 M1 M2 M3 w Ei G4.out LR.out KR.out TM.out).mono ?_);rintro e sA ⟨rfl,_,_,hb,hk⟩;have E4:=ja.mk hb;have vQ:=ja.mk (Kept.mono hk (fun k_ lV=>(Or.elim lV id id:w4.heap.size ≤ k_∧k_ < w5.heap.size)));have cag:=hk.1;clear hb hk hx0 hx1 Ek jk Dk))
  have m4:=ja.mk (Yf qG.out vQ.out (by omega))
  have pJ:=ja.mk (Kd.dm UR.out vQ.out (by intro k_ h1 h2;omega))
  have qJ:=ja.mk (Kd.dm cS.out vQ.out (by have:=Z56.out;intro k_ h1 h2;omega))
  clear qG UR cS Lz LR KR G4 vQ
  go_upto_region 17 with (first|(go_at_call 36;(with_reducible refine (Ac.calls k E0 q0 y D0 f0 x true sA (Kd.Fc qJ.out).2.2 (Kd.Fc qJ.out).2.1 (Kd.Fc pJ.out).2.2 (Kd.Fc pJ.out).2.1 TE.out).mono ?_);rintro e mo ⟨rfl,hb0⟩;have hb:Below _ _ _:=hb0;have D4:=ja.mk (Na E4.out hb);have j4:=ja.mk (Ya m4.out hb);have TR:=ja.mk (Kd.Ue pJ.out hb);have bS:=ja.mk (Kd.Ue qJ.out hb);have bag:=hb.size;clear hb hb0 E4 m4 pJ qJ))
  go_upto_region 19 with (first|(go_at_call 37;(with_reducible refine (Oc.calls k _ _ y 1 q m2 w mo D4.out bS.out Tm.out).mono ?_);rintro e rA ⟨rfl,ho,hb,hk⟩;have C4:=ja.mk hb;have QU:=ja.mk hk;have uE:=ja.mk ho;have aag:=hk.1;clear hb hk ho))
  have Z3:=ja.mk (Yf j4.out QU.out (by have:=Z56.out;omega))
  have SR:=ja.mk (Kd.dm TR.out QU.out (by have:=Z56.out;intro k_ h1 h2;omega))
  have hlm:m2.length=y.length:=(Kd.Fc uE.out).1.symm
  have HLM:=ja.mk hlm
  clear j4 TR bS D4 QU hlm
  go_upto_region 24 with (first|(go_at_call 38;(with_reducible refine (Rs k E0 q0 y.length m2 1 q rA HLM.out (Kd.Fc uE.out).2.2 (Kd.Fc uE.out).2.1 Tq.out).mono ?_);rintro e Fl ⟨rfl,hb0⟩;have hb:Below _ _ _:=hb0.below;have AQ:=ja.mk (Na C4.out hb);have pG:=ja.mk (Ya Z3.out hb);have RR:=ja.mk (Kd.Ue SR.out hb);have ZR:=ja.mk (Kd.Ue uE.out hb);have Zaf:=hb.size;clear hb hb0 C4 Z3 SR uE))
  have pL:=(ga pG.out 0).trans rfl
  have BA:=(ga pG.out 1).trans rfl
  have AE:=(ga pG.out 2).trans rfl
  have zE:=(ga pG.out 3).trans rfl
  have gF:=(ga pG.out 4).trans rfl
  go_upto_region 25 with (first|(go_at_call 15;(with_reducible refine (ng.calls k Eb Db Ta Pa Oa Ma yc Zb Ra g1 g2 g3 g4 g5 Fl (Kd.Mb Bh.out AQ.out) uJ.out (Kd.Mb qV.out AQ.out) tJ.out TG.out).mono ?_);rintro e Xz ⟨v0,v4,rfl,Am,eA,hb⟩;obtain ⟨F0,i0,rfl⟩:=Kd.Mf Am;obtain ⟨F4,i4,rfl⟩:=Kd.Qt eA;have CM:=ja.mk Am;have BM:=ja.mk eA;have q4:=ja.mk (Na AQ.out hb);have Y3:=ja.mk (Ya pG.out hb);have PR:=ja.mk (Kd.Ue RR.out hb);have YR:=ja.mk (Kd.Ue ZR.out hb);have Yaf:=hb.size;clear Am eA hb AQ pG RR ZR pL BA AE zE gF)|(go_at_call 35;(with_reducible refine (Oh.calls k F0 i0 g1 g2 g3 g4 F4 i4 g5 a1 y Xz (Kd.Fc CM.out).2.2 (Kd.Fc CM.out).2.1 (Kd.Ej BM.out).2.2 (Kd.Ej BM.out).2.1 TY.out).mono ?_);rintro e Ro ⟨vz,rfl,ho,hb⟩;have DM:=ja.mk ho;have p4:=ja.mk (Na q4.out hb);have X3:=ja.mk (Ya Y3.out hb);have oJ:=ja.mk (Kd.Ue PR.out hb);have XR:=ja.mk (Kd.Ue YR.out hb);have Xaf:=hb.size;obtain ⟨J0,j0,rfl⟩:=Kd.Mf ho;clear ho hb CM BM q4 Y3 PR YR))
  go_upto_region 28 with (first|(go_at_call 36;(with_reducible refine (Ac.calls k J0 j0 y D0 f0 x true Ro (Kd.Fc DM.out).2.2 (Kd.Fc DM.out).2.1 (Kd.Fc oJ.out).2.2 (Kd.Fc oJ.out).2.1 TE.out).mono ?_);rintro e Wz ⟨rfl,hb0⟩;have hb:Below _ _ _:=hb0;have Saf:=ja.mk (Na p4.out hb);have cal:=ja.mk (Ya X3.out hb);have caj:=ja.mk (Kd.Ue oJ.out hb);have WR:=ja.mk (Kd.Ue XR.out hb);have Waf:=hb.size;clear hb hb0 p4 X3 oJ XR DM))
  go_wp2_with (first|(go_at_call 38;(with_reducible refine (Rs k E0 q0 y.length m2 1 q Wz HLM.out (Kd.Fc WR.out).2.2 (Kd.Fc WR.out).2.1 Tq.out).mono ?_);rintro e Rz ⟨rfl,hb0⟩;have hb:Below _ _ _:=hb0.below;have Raf:=ja.mk (Na Saf.out hb);clear hb hb0))
  go_ret
  exact ⟨rfl,Raf.out⟩
def Qh (m:Int) (n:Nat):List af:=(List.range n).map fun (j:Nat)=>(⟨m + 4 * (j:Int),m + 4 * (j:Int) + 1,m + 4 * (j:Int) + 2,m + 4 * (j:Int) + 3⟩:af)
theorem Hh (m:Int) (n:Nat):(Qh m n).length=n:=by simp [Qh]
theorem Ms {m:Int} {n j:Nat} (h:j < n):(Qh m n).getD j ox=(⟨m + 4 * (j:Int),m + 4 * (j:Int) + 1,m + 4 * (j:Int) + 2,m + 4 * (j:Int) + 3⟩:af):=by simp [Qh,List.getD_eq_getElem?_getD,h]
theorem QA {x:List af} {i:Nat} (h:i < x.length) (a:af):gb (x.set i a) (i:Int)=a:=by
 simp [gb,List.getD_eq_getElem?_getD,h]
theorem jA (l:List af) (m:Int) (hm:0 ≤ m) (hl:m + 4 * l.length ≤ 4611686018427387904):Ev (fun k=>Oc.f k l m) (m + 4 * l.length,Qh m l.length):=by
 have key:=ni (r:=(m + 4 * (l.length:Int),Qh m l.length)) (n:=l.length) (fun i=>Ev (fun k=>Oc.l0 k ((Qh m l.length).take i ++ l.drop i) (m + 4 * i) (i:Int)) (m + 4 * (l.length:Int),Qh m l.length)) ?_ ?_ 0 (by omega)
 ·refine Ev.congr (fun k=>?_) key
  unfold Oc.f
  simp
 ·refine Ev.step (fun k=>by rw [Oc.l0]) ?_
  refine Ev.neg (by simp [Hh]) ?_
  rw [List.drop_length,List.append_nil,List.take_of_length_le (by rw [Hh];omega)]
  exact Ev.now _
 ·intro i hi h
  have hlen:((Qh m l.length).take i ++ l.drop i).length=l.length:=by simp [Hh];omega
  have hset:=Ty (m:=Qh m l.length) (l:=l) (z:=ox) (i:=i) (by rw [Hh]) (by rw [Hh];exact hi)
  rw [Ms hi] at hset
  generalize hx:(Qh m l.length).take i ++ l.drop i=x at hlen hset ⊢
  refine Ev.step (fun k=>by rw [Oc.l0]) ?_
  refine Ev.pos (by omega) (Ev.pos (by omega) ?_)
  simp only [Int.toNat_natCast,Option.bind_some]
  have hi1:i < x.length:=by omega
  simp only [QA hi1,List.set_set]
  rw [bg hi (by omega)]
  rw [ag (x:=m + 4 * (i:Int) + 1) (by omega) (by omega),ag (x:=m + 4 * (i:Int) + 1 + 1) (by omega) (by omega),ag (x:=m + 4 * (i:Int) + 1 + 1 + 1) (by omega) (by omega),ag (x:=m + 4 * (i:Int) + 1 + 1 + 1 + 1) (by omega) (by omega)]
  rw [show m + 4 * (i:Int) + 1 + 1 + 1 + 1=m + 4 * ((i + 1:Nat):Int) from by omega]
  have e:=hset ▸ h
  refine Ev.congr (fun k=>?_) e
  congr 3
  all_goals omega
theorem mA (m:Int) (n:Nat) (hm:0 ≤ m) (hl:m + 4 * n ≤ 4611686018427387904):Ev (fun k=>jd.f k (Qh m n) m) (m + 4 * n):=by
 have key:=ni (r:=m + 4 * (n:Int)) (n:=n) (fun i=>Ev (fun k=>jd.l0 k (Qh m n) (m + 4 * i) (i:Int)) (m + 4 * (n:Int))) ?_ ?_ 0 (by omega)
 ·refine Ev.congr (fun k=>?_) key
  unfold jd.f
  simp
 ·refine Ev.step (fun k=>by rw [jd.l0]) ?_
  exact Ev.neg (by rw [Hh];omega) (Ev.now _)
 ·intro i hi h
  have hr:gb (Qh m n) (i:Int)=(⟨m + 4 * (i:Int),m + 4 * (i:Int) + 1,m + 4 * (i:Int) + 2,m + 4 * (i:Int) + 3⟩:af):=Ms hi
  refine Ev.step (fun k=>by rw [jd.l0]) ?_
  refine Ev.pos (by rw [Hh];omega) (Ev.pos (by omega) ?_)
  rw [ag (x:=m + 4 * (i:Int) + 1) (by omega) (by omega),ag (x:=m + 4 * (i:Int) + 1 + 1) (by omega) (by omega),ag (x:=m + 4 * (i:Int) + 1 + 1 + 1) (by omega) (by omega),ag (x:=m + 4 * (i:Int) + 1 + 1 + 1 + 1) (by omega) (by omega),hr]
  refine (Ev.pos (by first|(simp;done)|(simp;omega)) (Ev.pos (by first|(simp;done)|(simp;omega)) (Ev.pos (by first|(simp;done)|(simp;omega)) (Ev.pos (by first|(simp;done)|(simp;omega)) ?_))))
  rw [bg hi (by omega)]
  rw [show m + 4 * (i:Int) + 1 + 1 + 1 + 1=m + 4 * ((i + 1:Nat):Int) from by omega]
  exact h
theorem Ww {n0:Nat} {s:Int} {x:yf} (h:Ui n0 s x=true) (hs:0 ≤ s):Im s x=true:=by
 unfold Ui ek at h
 unfold Im
 by_cases o3:x.f0=3
 ·simp [o3,Tj] at h ⊢;omega
 by_cases o4:x.f0=4
 ·simp [o4,Tj] at h ⊢;omega
 simp [o3,o4]
def Fu (p:af):Int × Int × Int × Int:=(p.f0,p.f1,p.f2,p.f3)
theorem cE (x:yf) (xs:List mm) (h:Im (xs.length:Int) x=true) :
  Ev (fun k=>qf.f k x.f0 x.f1 x.f2 x.f3 x.f4 x.f5 x.f6 (xs.map Gi)) (Fu (Il xs x)):=by
 have hI:=Eu (n:=xs.length) rfl h
 refine Ev.congr (fun k=>?_) (Ev.now _)
 unfold qf.f Il
 by_cases ho:x.f0=3 ∨ x.f0=4
 ·obtain ⟨⟨b0,b1⟩,a1⟩:=hI ho
  rw [if_pos ho,if_pos ho,List.length_map,if_pos ⟨⟨b0,b1⟩,a1⟩,Js xs x.f3 b0 b1]
  by_cases ha:0 ≤ x.f2
  ·rw [if_pos ha,if_pos ha,Js xs x.f2 ha a1]
   by_cases hc:(Gi (jb xs x.f2)).f0 > (Gi (jb xs x.f3)).f0
   ·rw [if_pos hc]
    simp only [Gi] at hc ⊢
    unfold Fu
    simp only [Int.min_eq_right (Int.le_of_lt hc),Int.max_eq_left (Int.le_of_lt hc),Int.add_comm (jb xs x.f3).f1]
   ·rw [if_neg hc]
    simp only [Gi] at hc ⊢
    unfold Fu
    simp only [Int.min_eq_left (Int.not_lt.mp hc),Int.max_eq_right (Int.not_lt.mp hc)]
  ·rw [if_neg ha,if_neg ha]
   by_cases hc:(-1:Int) > (Gi (jb xs x.f3)).f0
   ·rw [if_pos hc]
    simp only [Gi] at hc ⊢
    unfold Fu
    simp only [Int.min_eq_right (Int.le_of_lt hc),Int.max_eq_left (Int.le_of_lt hc)]
   ·rw [if_neg hc]
    simp only [Gi] at hc ⊢
    unfold Fu
    simp only [Int.min_eq_left (Int.not_lt.mp hc),Int.max_eq_right (Int.not_lt.mp hc)]
 ·rw [if_neg ho,if_neg ho]
  rfl
theorem LF {code:List yf} {n n0:Nat} (hn:n ≤ 1000) (hc:code.length ≤ 1048576) (hok:∀ x ∈ code,Ui n0 (n:Int) x=true) :
  Ev (fun k=>qc.l0 k [] ((idents n).map Gi) (n:Int) code 0) (ei code n code.length):=by
 have key:=ni (r:=ei code n code.length) (n:=code.length) (fun i=>Ev (fun k=>qc.l0 k (ei code n i) ((Rg (idents n) (n:Int) (code.take i)).1.map Gi) (Rg (idents n) (n:Int) (code.take i)).2 code (i:Int)) (ei code n code.length)) ?_ ?_ 0 (by omega)
 ·exact key
 ·exact Ev.step (fun k=>by rw [qc.l0]) (Ev.neg (by omega) (Ev.now _))
 ·intro i hi ih
  have h:=Cq (code.take i) (idents n) (n:Int)
  rw [Lh] at h
  have hl:(code.take i).length ≤ code.length:=by rw [List.length_take];omega
  have hr:Ea code (i:Int)=code[i]:=Yz hi
  have hs:=bu code n i
  have hpl:=Om code n i
  rw [hr] at hs
  refine Ev.step (fun k=>by rw [qc.l0]) (Ev.pos (by omega) (Ev.pos (by omega) ?_))
  rw [hr]
  refine Ev.bind (cE code[i] (Rg (idents n) (n:Int) (code.take i)).1 (by rw [h.2.2];exact Ww (hok _ (List.getElem_mem hi)) (by omega))) (Ev.pos (by omega) ?_)
  refine Ev.bind (MF n0 code[i] (Rg (idents n) (n:Int) (code.take i)).1 (Rg (idents n) (n:Int) (code.take i)).2 (by omega) (by omega) (n:Int) (by omega) (hok _ (List.getElem_mem hi))) ?_
  rw [← Bq code (idents n) (n:Int) i hi,bg hi (by omega)]
  have e:ei code n i ++ [(⟨(Fu (Il (Rg (idents n) (n:Int) (code.take i)).1 code[i])).1,(Fu (Il (Rg (idents n) (n:Int) (code.take i)).1 code[i])).2.1,(Fu (Il (Rg (idents n) (n:Int) (code.take i)).1 code[i])).2.2.1,(Fu (Il (Rg (idents n) (n:Int) (code.take i)).1 code[i])).2.2.2⟩:af)]=ei code n (i + 1):=hs.symm
  rw [e]
  exact ih
theorem dK (l0:List Int) (p v s:Int) (l4:List Dh) (b:Int) (h0:l0.length ≤ 1048576) (kV:l4.length ≤ 1048576) (ht:Ze l4 ≤ 1048576):∃ r:List af,Ev (fun k=>qc.f k l0 p v s l4 b) r∧Ev (fun k=>Oh.f k l0 p v s l4 b) r∧r.length ≤ 1048576:=by
 unfold qc.f Oh.f
 have hi:=NF (l0:=l0) (p:=p) (v:=v) (s:=s) (l4:=l4) h0 kV ht
 have hs:=SF (l0:=l0) (p:=p) (v:=v) (s:=s) (l4:=l4) h0 kV ht
 simp only [Option.bind_some]
 cases hg:Mp l0 p v s l4 with
 | false =>
  rw [hg] at hi hs
  exact ⟨[],Ev.bind hs (Ev.neg (by simp) (Ev.step (fun k=>by rw [qc.j0]) (Ev.pos rfl (Ev.now _)))),Ev.bind hi (Ev.neg (by simp) (Ev.now _)),by simp⟩
 | true =>
  rw [hg] at hi hs
  have hw:wrap64 ((l4.length:Int) - 1)=(l4.length:Int) - 1:=ag (by omega) (by omega)
  rw [hw]
  clear hw
  cases hb:fk b 0 ((l4.length:Int) - 1) with
  | false=>exact ⟨[],Ev.bind hs (Ev.pos rfl (Ev.bind (jg _ _ _) (by rw [hb];exact Ev.step (fun k=>by rw [qc.j0]) (Ev.pos (show (!false)=true from rfl) (Ev.now _))))),Ev.bind hi (Ev.pos rfl (Ev.bind (Ev.here (Gu _ _ _)) (by rw [hb];exact Ev.neg (by simp) (Ev.now _)))),by simp⟩
  | true =>
   obtain ⟨g1,g2,g3⟩:=UC hg
   have g4:=ZJ g1
   obtain ⟨n,rfl⟩:∃ n:Nat,s=(n:Int):=⟨s.toNat,by omega⟩
   have hb':0 ≤ b∧b < (l4.length:Int):=by simp [fk] at hb;omega
   obtain ⟨i,rfl⟩:∃ i:Nat,b=(i:Int):=⟨b.toNat,by omega⟩
   have hil:i < l4.length:=by omega
   have hr:Ua l4 (i:Int)=l4[i]:=wm hil
   have hin:=YF (g2 _ (List.getElem_mem hil))
   have nu:=aJ l4 _ (List.getElem_mem hil)
   have hk:(xo (n:Int) l4[i].f0 && l4[i].f0.all (Im (n:Int)))=true:=by
    unfold xo
    simp only [Bool.and_eq_true,decide_eq_true_eq,List.all_eq_true]
    exact ⟨⟨⟨⟨by omega,by omega⟩,by omega⟩,fun x hx=>KD (hin x hx) (by omega)⟩,fun x hx=>Ww (hin x hx) (by omega)⟩
   refine ⟨ei l4[i].f0 n l4[i].f0.length,Ev.bind hs (Ev.pos rfl (Ev.bind (jg _ _ _) ?_)),Ev.bind hi (Ev.pos rfl (Ev.bind (Ev.here (Gu _ _ _)) (Ev.pos hb (Ev.bind ?_ (Ev.now _))))),by rw [Om];omega⟩
   ·rw [hb]
    refine Ev.step (fun k=>by rw [qc.j0]) (Ev.neg (by simp) (Ev.bind (aE n (by omega)) (Ev.pos hb'.1 (Ev.pos hb'.2 ?_))))
    rw [hr]
    exact LF (by omega) (by omega) hin
   ·unfold dg.f
    rw [hr,if_pos hb',if_pos hk,Int.toNat_natCast]
    exact Ev.now _
theorem gE (l:List af) (hl:l.length ≤ 9223372036854775807):Ev (fun k=>Ac.f k l l) true:=by
 refine Ev.congr (f:=fun k=>Ac.l0 k l l 0) (fun k=>?_) ?_
 ·unfold Ac.f
  rw [if_pos rfl]
 ·refine ni (r:=true) (n:=l.length) (fun i=>Ev (fun k=>Ac.l0 k l l (i:Int)) true) ?_ ?_ 0 (by omega)
  ·refine Ev.step (fun k=>by rw [Ac.l0]) ?_
   exact Ev.neg (by omega) (Ev.now _)
  ·intro i hi h
   refine Ev.step (fun k=>by rw [Ac.l0]) ?_
   refine Ev.pos (by omega) (Ev.pos (by omega) (Ev.pos (by omega) ?_))
   unfold bk.f
   simp only [if_true]
   refine Ev.val (Ev.pos rfl ?_)
   rw [bg hi hl]
   exact h
theorem vu (x:oV) (b0:Int) (hf:UL x) (hb0:Tr b0):∃ k,Ug.f k x.f0 x.f1 x.f2 x.f3 x.f4 b0=some true:=by
 obtain ⟨t,e1,e2⟩:=EF x hf
 refine Ev.rounds (g:=fun k=>Ug.f k x.f0 x.f1 x.f2 x.f3 x.f4 b0) ?_
 unfold Ug.f
 refine Ev.bind e1 ?_
 by_cases ht:t < 0
 ·exact Ev.pos ht (Ev.now _)
 refine Ev.neg ht ?_
 obtain ⟨h0,hl,hst,hT,hq,⟨M1,M2,M3⟩,hM,hM0,_⟩:=e2 ht
 obtain ⟨r,r1,r2,r3⟩:=dK x.f0 x.f1 x.f2 x.f3 (x.f4.map Ng) b0 h0 hl hst
 have hE:=gE r (by omega)
 have hm:=jA r 1 (by omega) (by omega)
 have hh:=mA 1 r.length (by omega) (by omega)
 refine Ev.bind hT (Ev.bind r1 (Ev.bind r2 (Ev.bind hE (Ev.pos rfl (Ev.bind hq (Ev.pos rfl (Ev.bind hM (Ev.neg (by simp only at hM0 ⊢;omega) (Ev.bind hm (Ev.bind hh (Ev.neg (by omega) (Ev.pos rfl (Ev.now _)))))))))))))
end Go.Proofs.Ytmifdccaajngcaa.P
end
