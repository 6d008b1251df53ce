import Derived.Shelf.Abstract
import Derived.Outline
import Derived.Test.YtoomcmaifgkkfaaQRuler1
import Derived.Test.YtoomcmaifgkkfaaQRuler10
import Derived.Test.YtoomcmaifgkkfaaQRuler9
import Derived.Test.YtoomcmaifgkkfaaQRuler8
import Derived.Test.YtoomcmaifgkkfaaQRuler5
import Derived.RegionTactic
import Derived.Deep.QuietTactic
import Derived.BigQuiet
import Derived.Test.YtoomcmaifgkkfaaQRuler6
set_option maxHeartbeats 8000000
set_option maxRecDepth 100000
section
namespace Go.Proofs.Ytoomcmaifgkkfaa.P
open Go.RowKit Go.Proofs.Ia.Pb Go.Proofs.Ia.Ld Go.Proofs.Ia.De
set_option linter.unusedVariables false
set_option linter.unusedSimpArgs false
def Jf.f (k:Nat):List jf→Int→Option (Int × List jf)
 | [],a=>some (a,[])
 | x :: l,a=>(Sc.f k x.f0 a).bind fun t=>(Jf.f k l (wrap64 (wrap64 (wrap64 (wrap64 (t.1 + 1) + 1) + 1) + 1))).bind fun u=>some (u.1,⟨t.2,t.1,wrap64 (t.1 + 1),wrap64 (wrap64 (t.1 + 1) + 1),wrap64 (wrap64 (wrap64 (t.1 + 1) + 1) + 1)⟩ :: u.2)
theorem pT {α:Type} {done l:List α} {j:Nat} (x y:α) (h:done.length=j):(done ++ x :: l).set j y=(done ++ [y]) ++ l:=by
 subst h;rw [List.set_append_right _ _ (Nat.le_refl _),Nat.sub_self,List.set_cons_zero,List.append_assoc]
 rfl
theorem Jf.calls (k:Nat) (Vk:Nat→Prop) (Bg:Value) (l0:List jf) (a1:Int) (r1:Int) (r2:List jf) (w0 w:World) (hB:Below w0.heap.size w0 w) (Ri:Kd.S Gp 83 w w0.heap.size Vk Bg l0) (h:Jf.f k l0 a1=some (r1,r2)) :
  Calls Try.prog 84 #[Bg,.int .i64 a1] w fun e w'=>e = .returned (.int .i64 r1)∧Kd.S Gp 83 w' w0.heap.size (fun k_=>(Vk k_ ∨ w.heap.size ≤ k_)) Bg r2∧Below w0.heap.size w0 w'∧Kept w w' (fun k_=>Vk k_):=by
 obtain ⟨A,c,rfl,NC,hC⟩:=Kd.fX Ri;have hm:=hC.2.1;have HS:=ga.mk (Kd.Gf Ri (vp:=fun k_=>Vk k_ ∨ w.heap.size ≤ k_) (fun k_ hk=>.inl hk));have HB:=ga.mk hB;have HK:=ga.mk (Kept.refl w (fun k_=>Vk k_));have HH:=ga.mk h;clear Ri hC hB h;go_enter Try.func84,Try.ntmps84;go_wp2
 go_loopg [1,5] l0.length (fun gg v1 v5 wr=>∃ (j:Nat) (a:Int) (done rest:List jf),j ≤ l0.length∧l0.length - j ≤ gg∧v1 = .int .i64 a∧v5 = .int .i64 j∧ga (done.length=j∧Jf.f k (l0.drop j) a=some (r1,rest)∧r2=done ++ rest)∧ga (Kd.S Gp 83 wr w0.heap.size (fun k_=>Vk k_ ∨ w.heap.size ≤ k_) (.slice A l0.length c) (done ++ l0.drop j))∧ga (Below w0.heap.size w0 wr)∧ga (Kept w wr (fun k_=>Vk k_)))
 case atStart=>exact ⟨0,a1,[],r2,Nat.zero_le _,by omega,rfl,rfl,⟨rfl,by simpa using HH.out,rfl⟩,⟨by simpa using HS.out⟩,HB,HK⟩
 case round =>
  clear HS HB HK HH;(try clear HD);(try clear HS);(try clear HB);(try clear HK);obtain ⟨j,a,done,rest,hj,hg,rfl,rfl,HD,HS,HB,HK⟩:=hrel
  by_cases hlt:j < l0.length
  ·have dK:decide ((j:Int) < (l0.length:Int))=true:=decide_eq_true (by omega);obtain ⟨d1,d2,d3⟩:=HD.out;have IM:l0.drop j=l0[j] :: l0.drop (j + 1):=List.drop_eq_getElem_cons hlt;rw [IM] at d2;unfold Jf.f at d2;obtain ⟨⟨a2,DI⟩,t1,d2⟩:=Option.bind_eq_some_iff.mp d2;obtain ⟨⟨r1',rest'⟩,u1,d2⟩:=Option.bind_eq_some_iff.mp d2
   obtain ⟨rfl,rfl⟩:r1' = r1∧(⟨DI,a2,wrap64 (a2 + 1),wrap64 (wrap64 (a2 + 1) + 1),wrap64 (wrap64 (wrap64 (a2 + 1) + 1) + 1)⟩:jf) :: rest' = rest:=by
    have:=Option.some.inj d2;exact ⟨congrArg Prod.fst this,congrArg Prod.snd this⟩
   have hlen:(done ++ l0.drop j).length=l0.length:=by rw [List.length_append,List.length_drop,d1];omega
   obtain ⟨g,cap,e1,hbg,Yaw,cells,Qt⟩:=Kd.QK HS.out (by rw [hlen];omega);obtain rfl:A=some ⟨g,0,none⟩:=by injection e1
   clear e1;have Q8:=(Kd.pS HS.out).1 g rfl;obtain ⟨Vo,cs,hcs,hM,xC,hcf,MO,hH⟩:=Kd.lC HS.out dH (j:Int) (by omega) (by omega)
   have hx:(done ++ l0.drop j).getD (Int.toNat (j:Int)) dH=l0[j]:=by
    rw [IM,Int.toNat_natCast,List.getD_eq_getElem?_getD,List.getElem?_append_right (by omega),d1];simp [List.getElem?_eq_getElem hlt]
   rw [hx] at hM;obtain ⟨v0,rfl,hR⟩:=Sy hM;obtain ⟨A5,c5,rfl⟩:=Kd.Nd hR;have y0:=xC 0 _ rfl;have W7:=ga.mk (xC 1 _ rfl);have V7:=ga.mk (xC 2 _ rfl);have EZ:=ga.mk (xC 3 _ rfl);have HC4:=ga.mk (xC 4 _ rfl);have HH:=ga.mk hH;have HR:=ga.mk hR;have HT:=ga.mk t1;have HU:=ga.mk u1;have HOK:=ga.mk MO;have HG:=ga.mk Q8;have HX:=ga.mk Qt;have HD:=ga.mk (And.intro d1 d3);have HDR:=ga.mk IM;simp only [Int.toNat_natCast,show Gp.sz=5 from rfl,Nat.add_zero] at y0 W7 V7 EZ HC4;clear hH hR xC hcf hM hx MO Q8 Qt t1 u1 d1 d2 d3 IM hcs;go_wp2_with (first|(go_at_call 111;(with_reducible refine (Sc.calls k Vo _ l0[j].f0 a a2 DI w0 wr HB.out HR.out HT.out).mono ?_);rintro e w1 ⟨rfl,hr,hb,hk⟩;have eT:=ga.mk hr;have ZC:=ga.mk hb;have uf:=ga.mk hk;have ZX:¬ Vo g:=fun h=>(HOK.out g h).2 rfl;have hblk:=Fi HX.out hk ZX;have z1:=Wu W7.out hk ZX;have z2:=Wu V7.out hk ZX;have z3:=Wu EZ.out hk ZX;have z4:=Wu HC4.out hk ZX;have z5:=aa hblk (j * 5 + 1);have z6:=aa hblk (j * 5 + 2);have z7:=aa hblk (j * 5 + 3);have z8:=aa hblk (j * 5 + 4);clear hr hb hk ZX hblk));have HH1:=ga.mk (Kd.E6 (Kd.QN HH.out) uf.out (fun k_ _ hn hs=>hn (.inl hs)));obtain ⟨HS1,hgr⟩:=Kd.eZ HH1.out (by omega) (by omega) (seg:=[.int .i64 a2,.int .i64 (wrap64 (a2 + 1)),.int .i64 (wrap64 (wrap64 (a2 + 1) + 1)),.int .i64 (wrap64 (wrap64 (wrap64 (a2 + 1) + 1) + 1))]) (j:=1) (show 1 + 4 ≤ 5 from by decide) (by intro q hq;simp at hq;rcases hq with rfl|rfl|rfl|rfl <;> rfl)
   go_roundg (l0.length - (j + 1))
   case measure=>omega
   case rel =>
    have hle:w.heap.size ≤ wr.heap.size:=HK.out.1;have ZX:∀ k_,(Vo k_ ∨ wr.heap.size ≤ k_)→k_ ≠ g:=fun k_ hk=>hk.elim (fun h=>(HOK.out k_ h).2) (fun h=>by omega)
    have hin:=Kd.kX eT.out hgr (fun k_ hk e=>ZX k_ hk (by injection e));have hfin:=Kd.BS HS1 (x':=⟨DI,a2,wrap64 (a2 + 1),wrap64 (wrap64 (a2 + 1) + 1),wrap64 (wrap64 (wrap64 (a2 + 1) + 1) + 1)⟩) (bE _ _ _ _ hin) (fun k_ hk=>hk.elim .inl (fun h=>.inr ⟨.inr (by omega),h⟩))
    have mE:(done ++ l0.drop j).set (Int.toNat (j:Int)) (⟨DI,a2,wrap64 (a2 + 1),wrap64 (wrap64 (a2 + 1) + 1),wrap64 (wrap64 (wrap64 (a2 + 1) + 1) + 1)⟩:jf)=(done ++ [⟨DI,a2,wrap64 (a2 + 1),wrap64 (wrap64 (a2 + 1) + 1),wrap64 (wrap64 (wrap64 (a2 + 1) + 1) + 1)⟩]) ++ l0.drop (j + 1):=by
     rw [HDR.out,Int.toNat_natCast];exact pT _ _ HD.out.1
    rw [mE] at hfin;have hb4:=ZC.out.grown hgr ZC.out.size (fun k_ e=>by injection e with e;omega);have hk4:=Kept.Sg hgr (HK.out.cD uf.out (fun k_ hk=>(HOK.out k_ hk).1)) (fun k_ e=>by injection e with e;subst e;exact HG.out);exact ⟨j + 1,_,_,rest',by omega,by omega,rfl,by go_num,⟨by simp [HD.out.1],HU.out,by rw [HD.out.2];simp⟩,⟨hfin⟩,⟨hb4⟩,⟨hk4⟩⟩
  ·have dK:decide ((j:Int) < (l0.length:Int))=false:=decide_eq_false (by omega);obtain rfl:j=l0.length:=by omega
   obtain ⟨d1,d2,d3⟩:=HD.out;rw [List.drop_length] at d2;unfold Jf.f at d2
   obtain ⟨rfl,rfl⟩:a=r1∧[]=rest:=by
    have:=Option.some.inj d2;exact ⟨congrArg Prod.fst this,congrArg Prod.snd this⟩
   have HD:=ga.mk d3;clear d1 d2 d3;go_wp2;go_ret;refine ⟨rfl,?_,HB.out,HK.out⟩;have:=HS.out;rw [List.drop_length] at this;rw [HD.out];exact this
def ah.f (k:Nat) (Ma:List Int) (La:Int) (Na:Int) (Ka:Int) (Fa:List jf) (a1:Int):Option (Int × List Int × List jf):=(fe.f k Ma a1).bind fun t=>(Jf.f k Fa t.1).bind fun u=>some (u.1,t.2,u.2)
theorem ah.calls (k:Nat) (ZI:Nat→Prop) (Bg:Value) (Ma:List Int) (La:Int) (Na:Int) (Ka:Int) (YI:Nat→Prop) (AJ:Value) (Fa:List jf) (a1:Int) (r1:Int) (r2:List Int) (r3:List jf) (w0 w:World) (hB:Below w0.heap.size w0 w) (OQ:Kd.R (Kd.int .i64) 3 w w0.heap.size ZI Bg Ma) (NQ:Kd.S Gp 83 w w0.heap.size YI AJ Fa) (h:ah.f k Ma La Na Ka Fa a1=some (r1,r2,r3)) :
  Calls Try.prog 32 #[.agg #[Bg,.int .i64 La,.int .i64 Na,.int .i64 Ka,AJ],.int .i64 a1] w fun e w'=>e = .returned (.int .i64 r1)∧Kd.R (Kd.int .i64) 3 w' w0.heap.size (fun k_=>((ZI k_ ∨ YI k_) ∨ w.heap.size ≤ k_)) Bg r2∧Kd.S Gp 83 w' w0.heap.size (fun k_=>((ZI k_ ∨ YI k_) ∨ w.heap.size ≤ k_)) AJ r3∧Below w0.heap.size w0 w'∧Kept w w' (fun k_=>ZI k_ ∨ YI k_):=by
 obtain ⟨A0,c0,rfl⟩:=Kd.Nd OQ;obtain ⟨A4,c4,rfl⟩:=Kd.mm NQ;unfold ah.f at h;obtain ⟨⟨b1,b2⟩,t1,h⟩:=Option.bind_eq_some_iff.mp h;obtain ⟨⟨b3,b4⟩,t2,h⟩:=Option.bind_eq_some_iff.mp h
 obtain ⟨rfl,rfl,rfl⟩:b3=r1∧b2=r2∧b4=r3:=by
  have:=Option.some.inj h;exact ⟨congrArg Prod.fst this,congrArg (fun x=>x.2.1) this,congrArg (fun x=>x.2.2) this⟩
 obtain ⟨W1,Ag⟩:∃ W1,W1=w.alloc (.cells #[.slice A0 Ma.length c0,.int .i64 La,.int .i64 Na,.int .i64 Ka,.slice A4 Fa.length c4] 45 (0,0)):=⟨_,rfl⟩;have HW:=ga.mk Ag;have hbW:Below w.heap.size w W1:=by rw [Ag];exact oa (Below.refl _ _) _
 have hX1:W1.heap[w.heap.size]? = some (.cells #[.slice A0 Ma.length c0,.int .i64 La,.int .i64 Na,.int .i64 Ka,.slice A4 Fa.length c4] 45 (0,0)):=by rw [Ag];exact qq _ _
 have H0:=ga.mk (Kd.Gi (Kd.Dd OQ hbW));have H4:=ga.mk (Kd.Zu (Kd.Ji NQ hbW));have HB:=ga.mk (hB.trans (hbW.mono hB.size));have HK:=ga.mk (Kept.Wo hbW (fun k_=>ZI k_ ∨ YI k_));have HT1:=ga.mk t1;have HT2:=ga.mk t2;have HX:=ga.mk hX1;have hx0:=(ja hX1 0).trans rfl;clear Ag hbW OQ NQ hB t1 t2 h hX1;go_enter Try.func32,Try.ntmps32
 go_upto_region 1 with (fail)
 rw [← HW.out];clear HW;go_wp2_with (first|(go_at_call 20;(with_reducible refine (fe.calls k _ _ Ma a1 b1 b2 w0 W1 HB.out H0.out HT1.out).mono ?_);rintro e w2 ⟨rfl,hr,hb,hk⟩;have HR2:=ga.mk hr;have vt:=ga.mk hb;have Pj:=ga.mk hk;have HX2:=ga.mk (Fi HX.out hk (by rintro ⟨_,_,_,q,hq,cells,hc⟩;rw [HX.out] at hc;injection hc with hc;injection hc with _ hc;rw [← hc] at hq;simp [Kd.int,Kd.scalar] at hq));have hy4:=(ja HX2.out 4).trans rfl;have HS2:=ga.mk (Kd.PK H4.out Pj.out (by rintro k_ ⟨_,_,_,q,hq,cells,hc⟩ ⟨_,_,_,q2,ZS,k5,tJ⟩;rw [hc] at tJ;injection tJ with tJ;injection tJ with _ tJ;rw [← tJ] at ZS;simp [Kd.int,Kd.scalar] at ZS;rw [ZS] at hq;revert hq;decide));clear hr hb hk)|(go_at_call 84;(with_reducible refine (Jf.calls k _ _ Fa b1 b3 b4 w0 w2 vt.out HS2.out HT2.out).mono ?_);rintro e w3 ⟨rfl,hr,hb,hk⟩;have HR3:=ga.mk hr;have tP:=ga.mk hb;have T7:=ga.mk hk;clear hr hb hk));go_ret;refine ⟨rfl,?_,?_,tP.out,?_⟩
 ·refine Kd.Mc (Kd.Zt HR2.out T7.out ?_) (fun k_ hk=>hk.elim (fun h=>.inl (.inl h.1)) (fun h=>.inr (Nat.le_trans HK.out.1 h)));rintro k_ hk ⟨_,_,hlt,q2,ZS,k5,tJ⟩
  rcases hk with ⟨_,_,_,q,hq,cells,hc⟩|hk
  ·rw [hc] at tJ;injection tJ with tJ
   injection tJ with _ tJ
   rw [← tJ] at ZS;simp [Kd.int,Kd.scalar] at hq;rw [hq] at ZS;revert ZS
   decide
  ·omega
 ·exact Kd.Gf HR3.out (fun k_ hk=>hk.elim (fun h=>.inl (.inr h.1)) (fun h=>.inr (Nat.le_trans HK.out.1 (Nat.le_trans Pj.out.1 h))))
 ·exact (HK.out.cD Pj.out (fun k_ hk=>.inl (.inl hk.1))).cD T7.out (fun k_ hk=>.inl (.inr hk.1))
attribute [local go_sem] Bi zi Fj Ej mh jh Ai si
def Ce.l0:Nat→List Int→Int→Int→Option (Int)
 | 0,_,_,_=>none
 | k + 1,x0,x1,x5=>if x5 < (x0.length:Int) then (if 0 ≤ x5 then (if (rd x0 x5)=x1 then (Ce.l0 k x0 (wrap64 (x1 + 1)) (wrap64 (x5 + 1))) else (some (-1))) else (none)) else (some x1)
def Ce.f (k:Nat) (l0:List Int) (a1:Int):Option (Int):=Ce.l0 k l0 a1 0
theorem Ce.calls (k:Nat) (A0:Option Addr) (c0:Nat) (l0:List Int) (a1:Int) (r:Int) (w:World) (Zj:Kd.C (Kd.int .i64) w A0 l0.length l0) (hc0:l0.length ≤ c0) (h:Ce.f k l0 a1=some r) :
  Calls Try.prog 21 #[.slice A0 l0.length c0,.int .i64 a1] w fun e w'=>e = .returned (.int .i64 r)∧Nc w w':=by
 have Dn:=ga.mk Zj;have bH:=ga.mk hc0;clear Zj hc0;have H:(Ce.l0 k l0 a1 0)=some r:=h;clear h;have H':=ga.mk H;clear H;go_enter Try.func21,Try.ntmps21;go_wp2
 go_loopg [1,5] k (fun kq v1 v5 w'=>∃ (ze:Int) (Aa:Int),v1 = .int .i64 ze∧v5 = .int .i64 Aa∧ga (Ce.l0 kq l0 ze Aa=some r)∧ga (kq ≤ k)∧Nc w w')
 case atStart=>exact ⟨(a1),(0),(by first|rfl|(simp;done)|(simp [*];done)),(by first|rfl|(simp;done)|(simp [*];done)),H',⟨Nat.le_refl _⟩,by repeat (first|exact Nc.refl _|apply Nc.step)⟩
 case round =>
  clear H'
  try clear c2
  try clear p2
  (try clear HA);(try clear uf);obtain ⟨ze,Aa,rfl,rfl,HA,uf,⟨m1,rfl⟩⟩:=hrel;cases gk with
  | zero=>exact absurd HA.out (by simp [Ce.l0])
  | succ k1 =>
   have H:=HA.out;clear HA;simp only [Ce.l0] at H
   by_cases c3:Aa < (l0.length:Int)
   ·rw [if_pos c3] at H;have dh:decide (Aa < (l0.length:Int))=true:=decide_eq_true c3;clear c3
    by_cases c4:0 ≤ Aa
    ·rw [if_pos c4] at H;have Dk:decide (0 ≤ Aa)=true:=decide_eq_true c4;clear c4
     by_cases c5:(rd l0 Aa)=ze
     ·rw [if_pos c5] at H;have qn:((rd l0 Aa) == ze)=true:=beq_iff_eq.mpr c5;have gz:((rd l0 Aa) != ze)=false:=bne_eq_false_iff_eq.mpr c5;clear c5;have H':=ga.mk H;clear H;have Nf:0 ≤ (Aa:Int):=of_decide_eq_true (by first|(with_reducible assumption)|assumption);have Mf:Aa < (l0.length:Int):=of_decide_eq_true (by first|(with_reducible assumption)|assumption);obtain ⟨Ge,Aj,Ud⟩:=Kd.Te Dn.out Aa Nf Mf;cases Aj;replace Nf:=eq_true Nf;replace Mf:=eq_true Mf;go_wp2
      go_roundg k1
      case measure=>have:=uf.out;omega
      case rel=>exact ⟨(wrap64 (ze + 1)),(wrap64 (Aa + 1)),(by first|rfl|(simp;done)|(simp [*];done)),(by first|rfl|(simp;done)|(simp [*];done)),H',⟨by have:=uf.out;omega⟩,by repeat (first|exact Nc.refl _|apply Nc.step)⟩
     ·rw [if_neg c5] at H;have qn:((rd l0 Aa) == ze)=false:=beq_eq_false_iff_ne.mpr c5;have gz:((rd l0 Aa) != ze)=true:=bne_iff_ne.mpr c5;obtain rfl:=Option.some.inj H;have Nf:0 ≤ (Aa:Int):=of_decide_eq_true (by first|(with_reducible assumption)|assumption);have Mf:Aa < (l0.length:Int):=of_decide_eq_true (by first|(with_reducible assumption)|assumption);obtain ⟨Ge,Aj,Ud⟩:=Kd.Te Dn.out Aa Nf Mf;cases Aj;replace Nf:=eq_true Nf;replace Mf:=eq_true Mf;go_wp2;go_ret;exact ⟨by first|rfl|(simp;done)|(simp [*];done),by repeat (first|exact Nc.refl _|apply Nc.step)⟩
    ·rw [if_neg c4] at H;exact absurd H (by simp)
   ·rw [if_neg c3] at H;have dh:decide (Aa < (l0.length:Int))=false:=decide_eq_false c3;clear c3;obtain rfl:=Option.some.inj H;go_wp2;go_ret;exact ⟨by first|rfl|(simp;done)|(simp [*];done),by repeat (first|exact Nc.refl _|apply Nc.step)⟩
theorem Bz (l:List Int) (m:Int) (hm:0 ≤ m) (hl:m + l.length ≤ 4611686018427387904):Ev (fun k=>fe.f k l m) (m + l.length,iota m l.length):=by
 have key:=Qg (r:=(m + (l.length:Int),iota m l.length)) (n:=l.length) (fun i=>Ev (fun k=>fe.l0 k ((iota m l.length).take i ++ l.drop i) (m + i) (i:Int)) (m + (l.length:Int),iota m l.length)) ?_ ?_ 0 (by omega)
 ·refine Ev.congr (fun k=>?_) key;unfold fe.f;simp
 ·refine Ev.step (fun k=>by rw [fe.l0]) ?_;refine Ev.neg (by simp [Wj]) ?_;rw [List.drop_length,List.append_nil,List.take_of_length_le (by rw [Wj];omega)];exact Ev.now _
 ·intro i hi h;refine Ev.step (fun k=>by rw [fe.l0]) ?_;refine Ev.pos (by simp [Wj];omega) (Ev.pos (by omega) ?_);have h1:m + (i:Int)=(iota m l.length).getD i 0:=(jD hi).symm;rw [xe hi (by omega),Cg (by omega) (by omega),Int.toNat_natCast];rw [show ((iota m l.length).take i ++ l.drop i).set i (m + (i:Int))=(iota m l.length).take (i + 1) ++ l.drop (i + 1) from by rw [h1];exact rH (by rw [Wj]) (by rw [Wj];exact hi)];rw [show m + (i:Int) + 1=m + ((i + 1:Nat):Int) from by omega];exact h
theorem sI (m:Int) (n:Nat) (hm:0 ≤ m) (hl:m + n ≤ 4611686018427387904):Ev (fun k=>Ce.f k (iota m n) m) (m + n):=by
 have key:=Qg (r:=m + (n:Int)) (n:=n) (fun i=>Ev (fun k=>Ce.l0 k (iota m n) (m + i) (i:Int)) (m + (n:Int))) ?_ ?_ 0 (by omega)
 ·refine Ev.congr (fun k=>?_) key;unfold Ce.f;simp
 ·refine Ev.step (fun k=>by rw [Ce.l0]) ?_;exact Ev.neg (by rw [Wj];omega) (Ev.now _)
 ·intro i hi h;refine Ev.step (fun k=>by rw [Ce.l0]) ?_;refine Ev.pos (by rw [Wj];omega) (Ev.pos (by omega) (Ev.pos (by rw [TD,jD hi]) ?_));rw [xe hi (by omega),Cg (by omega) (by omega)];rw [show m + (i:Int) + 1=m + ((i + 1:Nat):Int) from by omega];exact h
theorem Av (a:Int):(strOfNums [a]).size=1:=by
 simp [strOfNums]
 rfl
theorem XD (n:Int) (hn:n ≤ 4611686018427387904):∃ t,Ev (fun k=>ud.f k n) t:=by
 have key:∀ (d:Nat) (x:Int) (s:ByteArray),0 ≤ x→x < (10 ^ d:Nat)→x ≤ 4611686018427387904→s.size + d ≤ 1000000→∃ t,Ev (fun k=>ud.l0 k x s) t:=by
  intro d
  induction d with
  | zero =>
   intro x s h0 h1 _ hs;have h1':x < 1:=h1;refine ⟨_,Ev.step (fun k=>by rw [ud.l0]) (Ev.neg (by omega) (Ev.pos (by omega) (Ev.now _)))⟩
  | succ d ih =>
   intro x s h0 h1 h2 hs
   by_cases hx:x > 0
   ·have e1:Int.tdiv x 10=x / 10:=Int.tdiv_eq_ediv_of_nonneg h0;have e2:wrap64 (x / 10)=x / 10:=Cg (by omega) (by omega)
    have h1':x / 10 < (10 ^ d:Nat):=by
     have:((10 ^ (d + 1):Nat):Int)=(10 ^ d:Nat) * 10:=by rw [Nat.pow_succ];simp
     rw [this] at h1;omega
    obtain ⟨t,ht⟩:=ih (x / 10) (strOfNums [(wrap64 (48 + (Int.tmod x 10))) % 256] ++ s) (by omega) h1' (by omega) (by rw [ByteArray.size_append,Av];omega);refine ⟨t,Ev.step (fun k=>by rw [ud.l0]) (Ev.pos hx ?_)⟩;simp only [Option.bind_some];refine Ev.pos (by rw [Av];omega) ?_;rw [e1,e2];exact ht
   ·exact ⟨_,Ev.step (fun k=>by rw [ud.l0]) (Ev.neg hx (Ev.pos (by omega) (Ev.now _)))⟩
 unfold ud.f
 by_cases h:n ≤ 0
 ·exact ⟨_,Ev.pos h (Ev.now _)⟩
 ·obtain ⟨t,ht⟩:=key 19 n ⟨#[]⟩ (by omega) (by omega) hn (by decide);exact ⟨t,Ev.neg h ht⟩
def Li (T:Nat→ByteArray) (m:Int) (n:Nat):List jd:=(List.range n).map fun (j:Nat)=>(⟨m + 7 * (j:Int),m + 7 * (j:Int) + 1,m + 7 * (j:Int) + 2,m + 7 * (j:Int) + 3,m + 7 * (j:Int) + 4,m + 7 * (j:Int) + 5,T j⟩:jd)
theorem Ki (T:Nat→ByteArray) (m:Int) (n:Nat):(Li T m n).length=n:=by simp [Li]
theorem zB {T:Nat→ByteArray} {m:Int} {n j:Nat} (h:j < n):(Li T m n).getD j bk=(⟨m + 7 * (j:Int),m + 7 * (j:Int) + 1,m + 7 * (j:Int) + 2,m + 7 * (j:Int) + 3,m + 7 * (j:Int) + 4,m + 7 * (j:Int) + 5,T j⟩:jd):=by simp [Li,List.getD_eq_getElem?_getD,h]
theorem SD {x:List jd} {i:Nat} (h:i < x.length) (a:jd):Ba (x.set i a) (i:Int)=a:=by
 simp [Ba,List.getD_eq_getElem?_getD,h]
theorem k8 {a:Int} (h0:0 ≤ a) (h1:a + 7 ≤ 4611686018427387904):wrap64 (a + 1)=a + 1∧wrap64 (a + 1 + 1)=a + 2∧wrap64 (a + 2 + 1)=a + 3∧wrap64 (a + 3 + 1)=a + 4∧wrap64 (a + 4 + 1)=a + 5∧wrap64 (a + 5 + 1)=a + 6∧wrap64 (a + 6 + 1)=a + 7:=by
 refine ⟨?_,?_,?_,?_,?_,?_,?_⟩
 all_goals
  rw [Cg (by omega) (by omega)]
  try omega
def oP (l:List jf):Nat:=(l.map fun x=>7 * x.f0.length + 4).sum
theorem vB (x:jf) (l:List jf):oP (x :: l)=7 * x.f0.length + 4 + oP l:=by simp [oP]
theorem l8 {a:Int} (h0:0 ≤ a) (h1:a + 4 ≤ 4611686018427387904):wrap64 (a + 1)=a + 1∧wrap64 (a + 1 + 1)=a + 2∧wrap64 (a + 2 + 1)=a + 3∧wrap64 (a + 3 + 1)=a + 4:=by
 refine ⟨?_,?_,?_,?_⟩
 all_goals
  rw [Cg (by omega) (by omega)]
  try omega
theorem RC (l:List jd) (m:Int) (hm:0 ≤ m) (hl:m + 7 * l.length ≤ 4611686018427387904):∃ ms:List jd,Ev (fun k=>Sc.f k l m) (m + 7 * l.length,ms):=by
 have hT:∀ j:Nat,∃ t,j < l.length→Ev (fun k=>ud.f k (m + 7 * (j:Int) + 6)) t:=by
  intro j
  by_cases hj:j < l.length
  ·obtain ⟨t,ht⟩:=XD (m + 7 * (j:Int) + 6) (by omega);exact ⟨t,fun _=>ht⟩
  ·exact ⟨⟨#[]⟩,fun h=>absurd h hj⟩
 obtain ⟨T,hT⟩:=Classical.axiomOfChoice hT;refine ⟨Li T m l.length,?_⟩
 ·have key:=Qg (r:=(m + 7 * (l.length:Int),Li T m l.length)) (n:=l.length) (fun i=>Ev (fun k=>Sc.l0 k ((Li T m l.length).take i ++ l.drop i) (m + 7 * i) (i:Int)) (m + 7 * (l.length:Int),Li T m l.length)) ?_ ?_ 0 (by omega)
  ·refine Ev.congr (fun k=>?_) key;unfold Sc.f;simp
  ·refine Ev.step (fun k=>by rw [Sc.l0]) ?_;refine Ev.neg (by simp [Ki]) ?_;rw [List.drop_length,List.append_nil,List.take_of_length_le (by rw [Ki];omega)];exact Ev.now _
  ·intro i hi h;have hlen:((Li T m l.length).take i ++ l.drop i).length=l.length:=by simp [Ki];omega
   have mE:=rH (m:=Li T m l.length) (l:=l) (z:=bk) (i:=i) (by rw [Ki]) (by rw [Ki];exact hi);rw [zB hi] at mE;generalize hx:(Li T m l.length).take i ++ l.drop i=x at hlen mE ⊢;refine Ev.step (fun k=>by rw [Sc.l0]) ?_;refine Ev.pos (by omega) (Ev.pos (by omega) ?_);simp only [Int.toNat_natCast,Option.bind_some];have hi1:i < x.length:=by omega
   simp only [SD hi1,List.set_set];obtain ⟨w1,w2,w3,w4,w5,w6,w7⟩:=k8 (a:=m + 7 * (i:Int)) (by omega) (by omega);simp only [w1,w2,w3,w4,w5,w6,w7];refine Ev.bind (hT i hi) ?_;rw [xe hi (by omega),show m + 7 * (i:Int) + 7=m + 7 * ((i + 1:Nat):Int) from by omega,mE];exact h
theorem TC (l:List jf):∀ (m:Int),0 ≤ m→m + oP l ≤ 4611686018427387904→∃ ms:List jf,Ev (fun k=>Jf.f k l m) (m + oP l,ms):=by
 induction l with
 | nil =>
  intro m hm hl;refine ⟨[],?_⟩;unfold Jf.f;simp only [oP,List.map_nil,List.sum_nil,Int.natCast_zero,Int.add_zero];exact Ev.now _
 | cons x l ih =>
  intro m hm hl;rw [vB] at hl;obtain ⟨c,c1⟩:=RC x.f0 m hm (by omega);obtain ⟨ms,m1⟩:=ih (m + 7 * x.f0.length + 4) (by omega) (by omega);obtain ⟨w1,w2,w3,w4⟩:=l8 (a:=m + 7 * (x.f0.length:Int)) (by omega) (by omega);have hv:m + ((7 * x.f0.length + 4 + oP l:Nat):Int)=m + 7 * (x.f0.length:Int) + 4 + oP l:=by omega
  rw [vB,hv];refine ⟨⟨c,m + 7 * x.f0.length,m + 7 * x.f0.length + 1,m + 7 * x.f0.length + 2,m + 7 * x.f0.length + 3⟩ :: ms,?_⟩;unfold Jf.f;refine Ev.bind c1 ?_;simp only [w1,w2,w3,w4];exact Ev.bind m1 (Ev.now _)
theorem SC (l0:List Int) (p v s:Int) (l4:List jf) (m:Int) (hm:0 ≤ m) (hl:m + l0.length + oP l4 ≤ 4611686018427387904):∃ ms:List jf,Ev (fun k=>ah.f k l0 p v s l4 m) (m + l0.length + oP l4,iota m l0.length,ms):=by
 obtain ⟨ms,m1⟩:=TC l4 (m + l0.length) (by omega) (by omega);refine ⟨ms,?_⟩;unfold ah.f;exact Ev.bind (Bz l0 m hm (by omega)) (Ev.bind m1 (Ev.now _))
theorem V0 (l:List jf):oP l ≤ 7 * ee l + 4 * l.length:=by
 induction l with
 | nil=>simp [oP]
 | cons x l ih =>
  have:ee (x :: l)=x.f0.length + ee l:=by simp [ee]
  rw [vB,this,List.length_cons];omega
theorem DJ (l:List Tk):ee (l.map Dg) ≤ WZ l:=by
 unfold ee WZ;rw [List.map_map]
 have:∀ l:List Tk,(l.map ((fun (x:jf)=>x.f0.length) ∘ Dg)).sum ≤ (l.map fun x=>dO x.f0).sum:=by
  intro l
  induction l with
  | nil=>simp
  | cons a l ih =>
   rw [List.map_cons,List.map_cons,List.sum_cons,List.sum_cons]
   have:((fun (x:jf)=>x.f0.length) ∘ Dg) a ≤ dO a.f0:=by
    simp [Dg,dO]
   omega
 have:=this l;omega
theorem kK (x:O7) (hf:ER x):∃ t:Int,Ev (fun k=>Di.f k x.f0 x.f1 x.f2 x.f3 x.f4 1048576) t∧(¬ t < 0→x.f0.length ≤ 1048576∧(x.f4.map Dg).length ≤ 1048576∧ee (x.f4.map Dg) ≤ 1048576 ∧
  Ev (fun k=>Xg.f k x.f0 x.f1 x.f2 x.f3 x.f4) (x.f0,x.f1,x.f2,x.f3,x.f4.map Dg)∧Ev (fun k=>Wi.f k x.f0 x.f1 x.f2 x.f3 (x.f4.map Dg) x.f0 x.f1 x.f2 x.f3 (x.f4.map Dg)) true ∧
  ∃ M:Int × List Int × List jf,Ev (fun k=>ah.f k x.f0 x.f1 x.f2 x.f3 (x.f4.map Dg) 1) M∧0 ≤ M.1∧M.1 ≤ 4398046511104):=by
 obtain ⟨h0,_,_,_,h4⟩:=hf;obtain ⟨t,e1,e2,e3⟩:=pK x.f0 x.f1 x.f2 x.f3 x.f4 1048576 (by omega) (by omega) h0.1 h4.1 (fun y hy=>⟨(h4.2 y hy).1.1,fun z hz=>((h4.2 y hy).1.2 z hz).2.2.2.2.2.2⟩);refine ⟨t,e1,fun ht=>?_⟩;have e:=e3 (by omega);obtain ⟨hb4,hbc⟩:=oH (l:=x.f4) (n:=1048576) (by omega);have hl:(x.f4.map Dg).length ≤ 1048576:=by rw [List.length_map];exact hb4
 have hst:=DJ x.f4;have hm:=V0 (x.f4.map Dg);obtain ⟨ms,m1⟩:=SC x.f0 x.f1 x.f2 x.f3 (x.f4.map Dg) 1 (by omega) (by omega)
 exact ⟨by omega,hl,by omega,oK x.f0 x.f1 x.f2 x.f3 x.f4 (by omega) hb4 hbc,qK x.f0 x.f1 x.f2 x.f3 (x.f4.map Dg) (by omega) (by omega) (fun y hy=>by
  have:=WW _ _ hy
  omega),_,m1,by simp only;omega,by simp only;omega⟩
theorem Ox (k:Nat) (A:Option Addr) (c n:Nat) (l:List Int) (a r:Int) (w:World) (hn:l.length=n) (hr:Kd.C (Kd.int .i64) w A l.length l) (hc:n ≤ c) (h:Ce.f k l a=some r):Calls Try.prog 21 #[.slice A n c,.int .i64 a] w fun e w'=>e = .returned (.int .i64 r)∧Nc w w':=by
 subst hn;exact Ce.calls k A c l a r w hr hc h
def J3 (x5 x7:Bool) (o:Int) (x98:Bool) (N3 r v:Int):Bool:=bif x98 then x5 && (x7 && (v == 0)) else if o=8 then (r == 0) && (x7 && nk v 0 N3) else if o=9 then x5 && (x7 && nk v 0 N3) else false
def J2 (x5 x6 x7:Bool) (o:Int) (x61:Bool) (N0 N3 r q v:Int):Bool:=bif x61 then x5 && (x6 && ((q == 0) && nk v 0 N0)) else if o=11 then x5 && (x6 && ((q == 0) && (v == 0))) else if o=6 then J3 x5 x7 o (o == 6) N3 r v else if o=7 then J3 x5 x7 o (o == 7) N3 r v else J3 x5 x7 o (o == 10) N3 r v
def J1 (x5 x6 x7:Bool) (o:Int) (x30:Bool) (N2 N0 N3 r q v:Int):Bool:=bif x30 then x5 && (x7 && nk v 0 N2) else if o=3 then x5 && (x6 && (nk q 0 15 && nk v 0 5)) else if o=4 then J2 x5 x6 x7 o (o == 4) N0 N3 r q v else J2 x5 x6 x7 o (o == 5) N0 N3 r q v
def J0 (x5 x6 x7:Bool) (o N2 N0 N3 r q v:Int):Bool:=if o=0 then x5 && x7 else if o=1 then J1 x5 x6 x7 o (o == 1) N2 N0 N3 r q v else J1 x5 x6 x7 o (o == 2) N2 N0 N3 r q v
noncomputable def Ig.f (k:Nat) (Ma:List Int) (La:Int) (Na:Int) (Ka:Int) (Fa:List Tk):Option Bool :=
 (Di.f k Ma La Na Ka Fa 1048576).bind fun s=>if s < 0 then some true else
 (Xg.f k Ma La Na Ka Fa).bind fun G =>
 (qd.f k G.1 G.2.1 G.2.2.1 G.2.2.2.1 G.2.2.2.2).bind fun x =>
 (ld.f k G.1 G.2.1 G.2.2.1 G.2.2.2.1 G.2.2.2.2).bind fun y =>
 (Jd.f k y x).bind fun e1=>if e1=true then
 (Wi.f k G.1 G.2.1 G.2.2.1 G.2.2.2.1 G.2.2.2.2 G.1 G.2.1 G.2.2.1 G.2.2.2.1 G.2.2.2.2).bind fun e2=>if e2=true then
 (ah.f k G.1 G.2.1 G.2.2.1 G.2.2.2.1 G.2.2.2.2 1).bind fun M=>if M.1 < 0 then none else
 (fe.f k y 1).bind fun m=>(Ce.f k m.2 1).bind fun q=>if q < 0 then none else if q=m.1 then some true else none
 else none else none
theorem Ig.calls (k:Nat) (qb:Option Addr) (mb:Nat) (Ma:List Int) (La:Int) (Na:Int) (Ka:Int) (Lb:Option Addr) (Fb:Nat) (Fa:List Tk) (r:Bool) (w:World) (Ae:Kd.C (Kd.int .i64) w qb Ma.length Ma) (we:Ma.length ≤ mb) (Uf:Kd.C yB w Lb Fa.length Fa) (Lf:Fa.length ≤ Fb) (h:Ig.f k Ma La Na Ka Fa=some r) :
  Calls Try.prog 7 #[.agg #[.slice qb Ma.length mb,.int .i64 La,.int .i64 Na,.int .i64 Ka,.slice Lb Fa.length Fb]] w fun e w'=>e = .returned (.bool r)∧Below w.heap.size w w':=by
 unfold Ig.f at h;obtain ⟨s,hs,h⟩:=Option.bind_eq_some_iff.mp h;have HSZ:=ga.mk hs;have Dn:=ga.mk Ae;have wX:=ga.mk Uf;have AZ:=ga.mk we;have zZ:=ga.mk Lf;obtain ⟨W1,Ag⟩:∃ W1,W1=w.alloc (.cells #[.slice qb Ma.length mb,.int .i64 La,.int .i64 Na,.int .i64 Ka,.slice Lb Fa.length Fb] 40 (0,0)):=⟨_,rfl⟩;have HW:=ga.mk Ag;have ZC:=ga.mk (show Below w.heap.size w W1 by rw [Ag];exact oa (Below.refl _ _) _);have bL:=ga.mk (show W1.heap[w.heap.size]? = some (.cells #[.slice qb Ma.length mb,.int .i64 La,.int .i64 Na,.int .i64 Ka,.slice Lb Fa.length Fb] 40 (0,0)) by rw [Ag];exact qq _ _);clear hs Ae Uf we Lf Ag
 by_cases hneg:s < 0
 ·rw [if_pos hneg] at h;obtain rfl:=Option.some.inj h;have hnb:decide (s < 0)=true:=decide_eq_true hneg;clear h hneg;have PO:=(ja bL.out 0).trans rfl;have wC:=(ja bL.out 1).trans rfl;have hg2:=(ja bL.out 2).trans rfl;have sJ:=(ja bL.out 3).trans rfl;have rJ:=(ja bL.out 4).trans rfl;go_enter Try.func7,Try.ntmps7
  go_upto_region 1 with (fail)
  rw [← HW.out];clear HW;go_wp2_with (first|(go_at_call 25;(with_reducible refine (Di.calls k qb mb Ma La Na Ka Lb Fb Fa 1048576 s W1 (Kd.Nb Dn.out ZC.out) AZ.out (Kd.Nb wX.out ZC.out) zZ.out HSZ.out).mono ?_);rintro e w2 ⟨rfl,hb⟩;have vt:=ga.mk (Qa ZC.out hb);have DZ:=ga.mk (Wa bL.out hb);clear hb));go_ret;exact ⟨rfl,vt.out⟩
 ·rw [if_neg hneg] at h;have hnb:decide (s < 0)=false:=decide_eq_false hneg;obtain ⟨⟨g1,g2,g3,g4,g5⟩,tG,h⟩:=Option.bind_eq_some_iff.mp h;obtain ⟨x,tX,h⟩:=Option.bind_eq_some_iff.mp h;obtain ⟨y,tY,h⟩:=Option.bind_eq_some_iff.mp h;obtain ⟨e1,tE,h⟩:=Option.bind_eq_some_iff.mp h;obtain rfl:e1=true:=by cases e1 with|false=>simp at h|true=>rfl
  rw [if_pos rfl] at h;obtain ⟨e2,tF,h⟩:=Option.bind_eq_some_iff.mp h;obtain rfl:e2=true:=by cases e2 with|false=>simp at h|true=>rfl
  rw [if_pos rfl] at h;obtain ⟨⟨M1,M2,M3⟩,tM,h⟩:=Option.bind_eq_some_iff.mp h;have hM:¬ M1 < 0:=fun hm=>by rw [if_pos hm] at h;cases h
  rw [if_neg hM] at h;obtain ⟨⟨m1,m2⟩,tm,h⟩:=Option.bind_eq_some_iff.mp h;obtain ⟨q,tq,h⟩:=Option.bind_eq_some_iff.mp h;have hq:¬ q < 0:=fun hm=>by rw [if_pos hm] at h;cases h
  rw [if_neg hq] at h;have hqm:q=m1:=Decidable.byContradiction fun hm=>by rw [if_neg hm] at h;cases h
  rw [if_pos hqm] at h;obtain rfl:=Option.some.inj h;subst hqm;have hMb:decide (M1 < 0)=false:=decide_eq_false hM;have hqb:decide (q < 0)=false:=decide_eq_false hq;have TG:=ga.mk tG;have TX:=ga.mk tX;have TY:=ga.mk tY;have TE:=ga.mk tE;have TF:=ga.mk tF;have TM:=ga.mk tM;have Tm:=ga.mk tm;have Tq:=ga.mk tq;clear tG tX tY tE tF tM tm tq hM hq hneg h;have PO:=(ja bL.out 0).trans rfl;have wC:=(ja bL.out 1).trans rfl;have hg2:=(ja bL.out 2).trans rfl;have sJ:=(ja bL.out 3).trans rfl;have rJ:=(ja bL.out 4).trans rfl;go_enter Try.func7,Try.ntmps7
  go_upto_region 1 with (fail)
  rw [← HW.out];clear HW
  go_upto_region 5 with (first|(go_at_call 25;(with_reducible refine (Di.calls k qb mb Ma La Na Ka Lb Fb Fa 1048576 s W1 (Kd.Nb Dn.out ZC.out) AZ.out (Kd.Nb wX.out ZC.out) zZ.out HSZ.out).mono ?_);rintro e w2 ⟨rfl,hb⟩;have vt:=ga.mk (Qa ZC.out hb);have DZ:=ga.mk (Wa bL.out hb);clear hb ZC bL PO wC hg2 sJ rJ))
  have PO:=(ja DZ.out 0).trans rfl;have wC:=(ja DZ.out 1).trans rfl;have hg2:=(ja DZ.out 2).trans rfl;have sJ:=(ja DZ.out 3).trans rfl;have rJ:=(ja DZ.out 4).trans rfl
  go_upto_region 6 with (first|(go_at_call 27;(with_reducible refine (Xg.calls k qb mb Ma La Na Ka Lb Fb Fa g1 g2 g3 g4 g5 w2 (Kd.Nb Dn.out vt.out) AZ.out (Kd.Nb wX.out vt.out) zZ.out TG.out).mono ?_);rintro e w3 ⟨v0,v4,rfl,Ri,MC,hb⟩;obtain ⟨B0,d0,rfl⟩:=Kd.Nd Ri;obtain ⟨B4,d4,rfl⟩:=Kd.mm MC;have DS:=ga.mk Ri;have CS:=ga.mk MC;have tP:=ga.mk (Qa vt.out hb);have HG3:=ga.mk (Wa DZ.out hb);have z23:=hb.size;clear Ri MC hb vt DZ PO wC hg2 sJ rJ)|(go_at_call 33;(with_reducible refine (qd.calls k B0 d0 g1 g2 g3 g4 B4 d4 g5 x w3 (Kd.Jb DS.out).2.2 (Kd.Jb DS.out).2.1 (Kd.od CS.out).2.2 (Kd.od CS.out).2.1 TX.out).mono ?_);rintro e w4 ⟨vx,rfl,ho,hb⟩;have HOW:=ga.mk (BJ ho tP.out.size);have GZ:=ga.mk (Qa tP.out hb);have KS:=ga.mk (Wa HG3.out hb);have z34:=hb.size;obtain ⟨D0,f0,rfl⟩:=Kd.Nd ho;clear ho hb DS CS tP HG3))
  have hzw:=Vc KS.out;have PO:=(ja KS.out 0).trans rfl;have wC:=(ja KS.out 1).trans rfl;have hg2:=(ja KS.out 2).trans rfl;have sJ:=(ja KS.out 3).trans rfl;have rJ:=(ja KS.out 4).trans rfl
  go_upto_region 7 with (first|(go_at_call 27;(with_reducible refine (Xg.calls k qb mb Ma La Na Ka Lb Fb Fa g1 g2 g3 g4 g5 w4 (Kd.Nb Dn.out GZ.out) AZ.out (Kd.Nb wX.out GZ.out) zZ.out TG.out).mono ?_);rintro e w5 ⟨v0,v4,rfl,Ri,MC,hb⟩;obtain ⟨B0,d0,rfl⟩:=Kd.Nd Ri;obtain ⟨B4,d4,rfl⟩:=Kd.mm MC;have HX0:=ga.mk (BJ Ri GZ.out.size);have HX4:=ga.mk (VZ MC GZ.out.size);have HB5:=ga.mk (Qa GZ.out hb);have CZ:=ga.mk (Wa KS.out hb);have iae:=ga.mk (Kd.Dd HOW.out hb);have z45:=hb.size;clear Ri MC hb GZ KS HOW PO wC hg2 sJ rJ))
  have hz6:(w5.alloc (.cells #[.slice B0 g1.length d0,.int .i64 g2,.int .i64 g3,.int .i64 g4,.slice B4 g5.length d4] 45 (0,0))).heap.size=w5.heap.size + 1:=by simp
  have Y3:=oa (Below.refl w5.heap.size w5) (.cells #[.slice B0 g1.length d0,.int .i64 g2,.int .i64 g3,.int .i64 g4,.slice B4 g5.length d4] 45 (0,0));have fE:=qq w5 (.cells #[.slice B0 g1.length d0,.int .i64 g2,.int .i64 g3,.int .i64 g4,.slice B4 g5.length d4] 45 (0,0));generalize w5.alloc (.cells #[.slice B0 g1.length d0,.int .i64 g2,.int .i64 g3,.int .i64 g4,.slice B4 g5.length d4] 45 (0,0))=w6 at hz6 Y3 fE ⊢;have HB6:=ga.mk (Qa HB5.out Y3);have HG6:=ga.mk (Wa CZ.out Y3);have hae:=ga.mk (Kd.Dd iae.out Y3);have uX:=ga.mk (Kd.Dd HX0.out Y3);have rX:=ga.mk (Kd.Ji HX4.out Y3);have G6:=ga.mk fE;have Z56:=ga.mk hz6;clear hz6 Y3 fE HB5 CZ iae HX0 HX4;have hx0:=(ja G6.out 0).trans rfl;have hx1:=(ja G6.out 1).trans rfl;have hx2:=(ja G6.out 2).trans rfl;have Nz:=(ja G6.out 3).trans rfl;have Hy:=(ja G6.out 4).trans rfl
  go_upto_region 8 with (first|(go_at_call 34;(with_reducible refine (ld.calls k B0 d0 g1 g2 g3 g4 B4 d4 g5 y w6 (Kd.Jb uX.out).2.2 (Kd.Jb uX.out).2.1 (Kd.od rX.out).2.2 (Kd.od rX.out).2.1 TY.out).mono ?_);rintro e w7 ⟨vy,rfl,ho,hb⟩;have HOG:=ga.mk (BJ ho HB6.out.size);have X7:=ga.mk (Qa HB6.out hb);have HG7:=ga.mk (Wa HG6.out hb);have HX7:=ga.mk (Wa G6.out hb);have zX:=ga.mk (Kd.Dd hae.out hb);have Zad:=ga.mk (Kd.Dd uX.out hb);have Qad:=ga.mk (Kd.Ji rX.out hb);have z67:=hb.size;obtain ⟨E0,q0,rfl⟩:=Kd.Nd ho;clear ho hb HB6 HG6 G6 hae uX rX hx0 hx1 hx2 Nz Hy))
  have AX:=HOG;clear HOG
  go_upto_region 10 with (first|(go_at_call 17;(with_reducible refine (Jd.calls k E0 q0 y D0 f0 x true w7 (Kd.Jb AX.out).2.2 (Kd.Jb AX.out).2.1 (Kd.Jb zX.out).2.2 (Kd.Jb zX.out).2.1 TE.out).mono ?_);rintro e w8 ⟨rfl,hb0⟩;have hb:Below _ _ _:=hb0.below;have HB8:=ga.mk (Qa X7.out hb);have fT:=ga.mk (Wa HG7.out hb);have F6:=ga.mk (Wa HX7.out hb);have gae:=ga.mk (Kd.Dd zX.out hb);have Yad:=ga.mk (Kd.Dd Zad.out hb);have Pad:=ga.mk (Kd.Ji Qad.out hb);have kae:=ga.mk (Kd.Dd AX.out hb);have z78:=hb.size;clear hb hb0 X7 HG7 HX7 zX Zad Qad AX))
  have HB9:=ga.mk (qa HB8.out);have BZ:=ga.mk (Ea fT.out);have HX9:=ga.mk (Ea F6.out);have j7:=ga.mk (Kd.jb gae.out);have I6:=ga.mk (Kd.jb Yad.out);have H6:=ga.mk (Kd.yd Pad.out);have k7:=ga.mk (Kd.jb kae.out);have z89:w8.heap.size ≤ w8.drew.heap.size:=Nat.le_refl _;refine cl (n:=5) (S:=fun w'=>w'.cell? ⟨w5.heap.size,0,none⟩=some (.slice B0 g1.length d0)∧w'.cell? ⟨w5.heap.size,1,none⟩=some (.int .i64 g2)∧w'.cell? ⟨w5.heap.size,2,none⟩=some (.int .i64 g3)∧w'.cell? ⟨w5.heap.size,3,none⟩=some (.int .i64 g4)∧w'.cell? ⟨w5.heap.size,4,none⟩=some (.slice B4 g5.length d4)∧w'.cell? ⟨w.heap.size,0,none⟩=some (.slice qb Ma.length mb)∧w'.cell? ⟨w.heap.size,1,none⟩=some (.int .i64 La)∧w'.cell? ⟨w.heap.size,2,none⟩=some (.int .i64 Na)∧w'.cell? ⟨w.heap.size,3,none⟩=some (.int .i64 Ka)∧w'.cell? ⟨w.heap.size,4,none⟩=some (.slice Lb Fa.length Fb)) (ds:=[]) #[false,false,false,false,false] (by kernel_rfl) rfl rfl ⟨(ja F6.out 0).trans rfl,(ja F6.out 1).trans rfl,(ja F6.out 2).trans rfl,(ja F6.out 3).trans rfl,(ja F6.out 4).trans rfl,(ja fT.out 0).trans rfl,(ja fT.out 1).trans rfl,(ja fT.out 2).trans rfl,(ja fT.out 3).trans rfl,(ja fT.out 4).trans rfl⟩ (fun hHeld=>?_);generalize w8.drew=w9 at HB9 BZ HX9 j7 I6 H6 k7 z89 hHeld ⊢;refine th (i:=0) (N:=some 27) (v:=?_) (a':=?_) #[true,false,false,false,false] rfl rfl (by kernel_rfl) (fun _ _ _ h=>h) (Or.inl ⟨by rfl,?_⟩) hHeld ?_ ?_;rotate_left
  ·rintro w' ⟨s0,s1,s2,s3,s4,s5,s6,s7,s8,s9⟩;go_simp;with_reducible rfl
  rotate_left
  ·simp only [Act.put,List.setIfInBounds_toArray,List.set_cons_zero,List.set_cons_succ,fc,ic]
   rfl
  refine th (i:=1) (N:=some 28) (v:=?_) (a':=?_) #[true,true,false,false,false] rfl rfl (by kernel_rfl) (fun _ _ _ h=>h) (Or.inl ⟨by rfl,?_⟩) hHeld ?_ ?_;rotate_left
  ·rintro w' ⟨s0,s1,s2,s3,s4,s5,s6,s7,s8,s9⟩;go_simp;with_reducible rfl
  rotate_left
  ·simp only [Act.put,List.setIfInBounds_toArray,List.set_cons_zero,List.set_cons_succ,fc,ic]
   rfl
  refine Dw (i:=2) (N:=some 29) #[true,true,true,false,false] rfl rfl (by kernel_rfl) (by decide) (fun K hK=>?_);refine Ts Try.func27 (by kernel_rfl) rfl #[.agg #[.slice qb Ma.length mb,.int .i64 La,.int .i64 Na,.int .i64 Ka,.slice Lb Fa.length Fb]] (by rfl) rfl rfl (by simp only [List.map_toArray,List.map_cons,List.map_nil];rfl) ?_;with_reducible refine (Xg.calls k qb mb Ma La Na Ka Lb Fb Fa g1 g2 g3 g4 g5 w9 (Kd.Nb Dn.out HB9.out) AZ.out (Kd.Nb wX.out HB9.out) zZ.out TG.out).mono ?_
  rintro e Xq ⟨v0,v4,rfl,Ri,MC,hb⟩;refine ⟨_,rfl,?_⟩;have Pae:=ga.mk (Qa HB9.out hb);have oz:=ga.mk (Wa BZ.out hb);have VK:=ga.mk (Wa HX9.out hb);have pZ:=ga.mk (Kd.Dd j7.out hb);have SN:=ga.mk (Kd.Dd I6.out hb);have RN:=ga.mk (Kd.Ji H6.out hb);have wZ:=ga.mk (Kd.Dd k7.out hb);have Xav:=hb.size;obtain ⟨F0,i0,rfl⟩:=Kd.Nd Ri;obtain ⟨F4,i4,rfl⟩:=Kd.mm MC;have DS:=ga.mk Ri;have CS:=ga.mk MC;clear Ri MC hb HB9 BZ HX9 j7 I6 H6 k7;refine hK.out _ _ ⟨(ja VK.out 0).trans rfl,(ja VK.out 1).trans rfl,(ja VK.out 2).trans rfl,(ja VK.out 3).trans rfl,(ja VK.out 4).trans rfl,(ja oz.out 0).trans rfl,(ja oz.out 1).trans rfl,(ja oz.out 2).trans rfl,(ja oz.out 3).trans rfl,(ja oz.out 4).trans rfl⟩ (fun hHeld=>?_);clear hK K;refine Fp (a':=?_) ?_ ?_;rotate_left
  ·show Act.put _ (some 29) _=_
   simp only [Act.put,List.setIfInBounds_toArray,List.set_cons_zero,List.set_cons_succ,fc,ic]
   rfl
  refine Dw (i:=3) (N:=some 30) #[true,true,true,true,false] rfl rfl (by kernel_rfl) (by decide) (fun K hK=>?_);refine Ts Try.func29 (by kernel_rfl) rfl #[.agg #[.slice B0 g1.length d0,.int .i64 g2,.int .i64 g3,.int .i64 g4,.slice B4 g5.length d4],.agg #[.slice F0 g1.length i0,.int .i64 g2,.int .i64 g3,.int .i64 g4,.slice F4 g5.length i4]] (by rfl) rfl rfl (by simp only [List.map_toArray,List.map_cons,List.map_nil];rfl) ?_;with_reducible refine (Wi.calls k B0 d0 g1 g2 g3 g4 B4 d4 g5 F0 i0 g1 g2 g3 g4 F4 i4 g5 true Xq (Kd.Jb SN.out).2.2 (Kd.Jb SN.out).2.1 (Kd.od RN.out).2.2 (Kd.od RN.out).2.1 (Kd.Jb DS.out).2.2 (Kd.Jb DS.out).2.1 (Kd.od CS.out).2.2 (Kd.od CS.out).2.1 TF.out).mono ?_
  rintro e uj ⟨rfl,hb⟩;refine ⟨_,rfl,?_⟩;have Oae:=ga.mk (Qa Pae.out hb);have ZK:=ga.mk (Wa oz.out hb);have oC:=ga.mk (Wa VK.out hb);have oZ:=ga.mk (Kd.Dd pZ.out hb);have gZ:=ga.mk (Kd.Dd SN.out hb);have fZ:=ga.mk (Kd.Ji RN.out hb);have vZ:=ga.mk (Kd.Dd wZ.out hb);have gar:=hb.size;clear hb DS CS Pae oz VK pZ SN RN wZ;refine hK.out _ _ ⟨(ja oC.out 0).trans rfl,(ja oC.out 1).trans rfl,(ja oC.out 2).trans rfl,(ja oC.out 3).trans rfl,(ja oC.out 4).trans rfl,(ja ZK.out 0).trans rfl,(ja ZK.out 1).trans rfl,(ja ZK.out 2).trans rfl,(ja ZK.out 3).trans rfl,(ja ZK.out 4).trans rfl⟩ (fun hHeld=>?_);clear hK K;refine Fp (a':=?_) ?_ ?_;rotate_left
  ·show Act.put _ (some 30) _=_
   simp only [Act.put,List.setIfInBounds_toArray,List.set_cons_zero,List.set_cons_succ,fc,ic]
   rfl
  refine Bd (i:=4) (N:=some 31) (v:=?_) (a':=?_) #[true,true,true,true,true] rfl rfl (by kernel_rfl) (fun _ _ _ h=>h) (Or.inl ⟨by rfl,?_⟩) ?_ ?_;rotate_left
  ·intro w';go_simp;with_reducible rfl
  rotate_left
  ·simp only [Act.put,List.setIfInBounds_toArray,List.set_cons_zero,List.set_cons_succ,fc,ic]
   rfl
  refine pq (by kernel_rfl) ?_;clear HB8 fT F6 gae Yad Pad kae;have hx0:=(ja oC.out 0).trans rfl;have hx1:=(ja oC.out 1).trans rfl;have hx2:=(ja oC.out 2).trans rfl;have Nz:=(ja oC.out 3).trans rfl;have Hy:=(ja oC.out 4).trans rfl
  go_upto_region 14 with (first|(go_at_call 32;(with_reducible refine (ah.calls k _ _ g1 g2 g3 g4 _ _ g5 1 M1 M2 M3 w uj Oae.out gZ.out fZ.out TM.out).mono ?_);rintro e uz ⟨rfl,_,_,hb,hk⟩;have MS:=ga.mk hb;have CX:=ga.mk (Kept.mono hk (fun k_ sx=>(Or.elim sx id id:w4.heap.size ≤ k_∧k_ < w5.heap.size)));have ear:=hk.1;clear hb hk hx0 hx1 hx2 Nz Hy))
  have Hae:=ga.mk (Fi ZK.out CX.out (by omega));have VN:=ga.mk (Kd.Zt oZ.out CX.out (by intro k_ h1 h2;omega));have WN:=ga.mk (Kd.Zt vZ.out CX.out (by have:=Z56.out;intro k_ h1 h2;omega));clear ZK oZ vZ oC gZ fZ Oae CX
  go_upto_region 17 with (first|(go_at_call 17;(with_reducible refine (Jd.calls k E0 q0 y D0 f0 x true uz (Kd.Jb WN.out).2.2 (Kd.Jb WN.out).2.1 (Kd.Jb VN.out).2.2 (Kd.Jb VN.out).2.1 TE.out).mono ?_);rintro e eH ⟨rfl,hb0⟩;have hb:Below _ _ _:=hb0.below;have Nae:=ga.mk (Qa MS.out hb);have Gae:=ga.mk (Wa Hae.out hb);have nZ:=ga.mk (Kd.Dd VN.out hb);have uZ:=ga.mk (Kd.Dd WN.out hb);have dar:=hb.size;clear hb hb0 MS Hae VN WN))
  go_upto_region 19 with (first|(go_at_call 20;(with_reducible refine (fe.calls k _ _ y 1 q m2 w eH Nae.out uZ.out Tm.out).mono ?_);rintro e jH ⟨rfl,ho,hb,hk⟩;have Mae:=ga.mk hb;have l7:=ga.mk hk;have dJ:=ga.mk ho;have car:=hk.1;clear hb hk ho))
  have Fae:=ga.mk (Fi Gae.out l7.out (by have:=Z56.out;omega));have mZ:=ga.mk (Kd.Zt nZ.out l7.out (by have:=Z56.out;intro k_ h1 h2;omega));have hlm:m2.length=y.length:=(Kd.Jb dJ.out).1.symm;have HLM:=ga.mk hlm;clear Gae nZ uZ Nae l7 hlm
  go_upto_region 24 with (first|(go_at_call 21;(with_reducible refine (Ox k E0 q0 y.length m2 1 q jH HLM.out (Kd.Jb dJ.out).2.2 (Kd.Jb dJ.out).2.1 Tq.out).mono ?_);rintro e Iq ⟨rfl,hb0⟩;have hb:Below _ _ _:=hb0.below;have jJ:=ga.mk (Qa Mae.out hb);have YC:=ga.mk (Wa Fae.out hb);have lZ:=ga.mk (Kd.Dd mZ.out hb);have tZ:=ga.mk (Kd.Dd dJ.out hb);have bar:=hb.size;clear hb hb0 Mae Fae mZ dJ))
  have PO:=(ja YC.out 0).trans rfl;have wC:=(ja YC.out 1).trans rfl;have hg2:=(ja YC.out 2).trans rfl;have sJ:=(ja YC.out 3).trans rfl;have rJ:=(ja YC.out 4).trans rfl
  go_upto_region 25 with (first|(go_at_call 27;(with_reducible refine (Xg.calls k qb mb Ma La Na Ka Lb Fb Fa g1 g2 g3 g4 g5 Iq (Kd.Nb Dn.out jJ.out) AZ.out (Kd.Nb wX.out jJ.out) zZ.out TG.out).mono ?_);rintro e aD ⟨v0,v4,rfl,Ri,MC,hb⟩;obtain ⟨F0,i0,rfl⟩:=Kd.Nd Ri;obtain ⟨F4,i4,rfl⟩:=Kd.mm MC;have DS:=ga.mk Ri;have CS:=ga.mk MC;have Lae:=ga.mk (Qa jJ.out hb);have Eae:=ga.mk (Wa YC.out hb);have kZ:=ga.mk (Kd.Dd lZ.out hb);have sZ:=ga.mk (Kd.Dd tZ.out hb);have aar:=hb.size;clear Ri MC hb jJ YC lZ tZ PO wC hg2 sJ rJ)|(go_at_call 34;(with_reducible refine (ld.calls k F0 i0 g1 g2 g3 g4 F4 i4 g5 y aD (Kd.Jb DS.out).2.2 (Kd.Jb DS.out).2.1 (Kd.od CS.out).2.2 (Kd.od CS.out).2.1 TY.out).mono ?_);rintro e zm ⟨vz,rfl,ho,hb⟩;have ES:=ga.mk ho;have Kae:=ga.mk (Qa Lae.out hb);have Dae:=ga.mk (Wa Eae.out hb);have UN:=ga.mk (Kd.Dd kZ.out hb);have rZ:=ga.mk (Kd.Dd sZ.out hb);have Zaq:=hb.size;obtain ⟨J0,j0,rfl⟩:=Kd.Nd ho;clear ho hb DS CS Lae Eae kZ sZ))
  go_upto_region 28 with (first|(go_at_call 17;(with_reducible refine (Jd.calls k J0 j0 y D0 f0 x true zm (Kd.Jb ES.out).2.2 (Kd.Jb ES.out).2.1 (Kd.Jb UN.out).2.2 (Kd.Jb UN.out).2.1 TE.out).mono ?_);rintro e pJ ⟨rfl,hb0⟩;have hb:Below _ _ _:=hb0.below;have iJ:=ga.mk (Qa Kae.out hb);have cay:=ga.mk (Wa Dae.out hb);have tav:=ga.mk (Kd.Dd UN.out hb);have qZ:=ga.mk (Kd.Dd rZ.out hb);have Yaq:=hb.size;clear hb hb0 Kae Dae UN rZ ES))
  go_wp2_with (first|(go_at_call 21;(with_reducible refine (Ox k E0 q0 y.length m2 1 q pJ HLM.out (Kd.Jb qZ.out).2.2 (Kd.Jb qZ.out).2.1 Tq.out).mono ?_);rintro e Iy ⟨rfl,hb0⟩;have hb:Below _ _ _:=hb0.below;have Naq:=ga.mk (Qa iJ.out hb);clear hb hb0));go_ret;exact ⟨rfl,Naq.out⟩
theorem Fy (x:O7) (hf:ER x):∃ k,Ig.f k x.f0 x.f1 x.f2 x.f3 x.f4=some true:=by
 obtain ⟨t,e1,e2⟩:=kK x hf;refine Ev.rounds (g:=fun k=>Ig.f k x.f0 x.f1 x.f2 x.f3 x.f4) ?_;unfold Ig.f;refine Ev.bind e1 ?_
 by_cases ht:t < 0
 ·exact Ev.pos ht (Ev.now _)
 refine Ev.neg ht ?_;obtain ⟨h0,hl,hst,hT,hq,⟨M1,M2,M3⟩,hM,hM0,_⟩:=e2 ht;obtain ⟨r,r1,r2,r3⟩:=JR x.f0 x.f1 x.f2 x.f3 (x.f4.map Dg) h0 hl hst;have hE:=rD r (by omega);have hm:=Bz r 1 (by omega) (by omega);have hh:=sI 1 r.length (by omega) (by omega);refine Ev.bind hT (Ev.bind r1 (Ev.bind r2 (Ev.bind hE (Ev.pos rfl (Ev.bind hq (Ev.pos rfl (Ev.bind hM (Ev.neg (by simp only at hM0 ⊢;omega) (Ev.bind hm (Ev.bind hh (Ev.neg (by omega) (Ev.pos rfl (Ev.now _)))))))))))))
end Go.Proofs.Ytoomcmaifgkkfaa.P
end
