import Derived.Shelf.Abstract
import Derived.Outline
import Derived.RegionTactic
import Derived.Test.YtkigbdceceeenaaQColorsOk1
import Derived.Test.YtkigbdceceeenaaQColorsOk2
import Derived.Test.YtkigbdceceeenaaQColorsOk8
import Derived.Test.YtkigbdceceeenaaQColorsOk9
import Derived.Test.YtkigbdceceeenaaQColorsOk5
import Derived.StillTailTactics
set_option maxHeartbeats 8000000
set_option maxRecDepth 100000
section
namespace Go.Proofs.Ytkigbdceceeenaa.P
open Go.RowKit Go.Proofs.Pa.Xb Go.Proofs.Pa.Pd Go.Proofs.Pa.Oe
set_option linter.unusedVariables false
set_option linter.unusedSimpArgs false
theorem Mf {S:Nat→Prop} {w0 w W:World} {a:Addr} {v:Value} (hc:w0.cell? a=some v) (hb0:Below w0.heap.size w0 w) (L6:∀ k,S k→w0.heap.size ≤ k) (hk:Kept w W (CY S w)):W.cell? a=some v :=
 ud (ud hc (Kept.Cd hb0 (fun _=>False)) id) hk (fun e=>e.elim (fun h=>by have:=L6 _ h;have:=World.block_lt_of_cell? w0 a hc;omega) (fun h=>by have:=World.block_lt_of_cell? w0 a hc;have:=hb0.size;omega))
theorem kP {S:Nat→Prop} {w0 w:World} (hb0:Below w0.heap.size w0 w) (L6:∀ k,S k→w0.heap.size ≤ k):∀ k,CY S w k→w0.heap.size ≤ k:=fun k h=>h.elim (L6 k) (fun h=>Nat.le_trans hb0.size h)
theorem TH {St:Type} (f:St→lg→List Bool→St) (Inv:St→World→Prop) (S:Nat→Prop) (g:Nat) (lb:Array Value) (eg:∀ args w,(callFunc g args).run Try.prog w = .ok (.enter g args) w)
  (Wa:Option Addr) (Ya:Nat) (Oa:List Int) (Ja:Int) (Fa:Int) (n:Nat) (Ob:Option Addr) (Cb:Nat) (Ca:List (Ke)) (A1:Option Addr) (c1:Nat) (X:List (List Bool)) (F6:St) (w0 w:World)
  (hb0:Below w0.heap.size w0 w) (L6:∀ k,S k→w0.heap.size ≤ k) (hS:∀ k,S k→k < w.heap.size) (Ld:Kd.C (Kd.int .i64) w0 Wa Oa.length Oa) (Gd:Oa.length ≤ Ya) (Ue:Kd.C Gs w0 Ob Ca.length Ca) (Qe:Ca.length ≤ Cb)
  (eo:∀ W,Kept w W (CY S w)→Kd.C (Kd.slice 4 Kd.bool) W A1 X.length X) (Dl:X.length ≤ c1) (hO:Zn Ca n) (hX:X.length=Ca.length) (hr:∀ i,i < Ca.length→(Sd X i).length=n)
  (hI0:Inv F6 w) (hI:∀ st W W',Inv st W→W.heap.size ≤ W'.heap.size→(∀ k,k < w.heap.size→W'.heap[k]? = W.heap[k]?)→Inv st W')
  (hp:∀ (W:World) (st:St) (x:lg) (A:Option Addr) (c:Nat) (s:List Bool),Kept w W (CY S w)→Inv st W→yu n x→s.length=n→(∀ W',Kept W W' S→Kd.C Kd.bool W' A s.length s)→s.length ≤ c →
   Calls Try.prog g (#[.agg #[.int .i64 x.f0,.int .i64 x.f1,.int .i64 x.f2,.int .i64 x.f3,.int .i64 x.f4,.int .i64 x.f5,.string x.f6],.slice A s.length c] ++ lb) W fun e w'=>e = .returned (.tuple #[])∧Inv (f st x s) w'∧Kept W w' S∧Below 0 W w') :
  Calls Try.prog 50 #[.agg #[.slice Wa Oa.length Ya,.int .i64 Ja,.int .i64 Fa,.int .i64 (n:Int),.slice Ob Ca.length Cb],.slice A1 X.length c1,.func (.func g) #[] lb] w fun e w'=>e = .returned (.tuple #[])∧Inv (Eg f Ca X 0 F6) w'∧Kept w w' (CY S w)∧Below 0 w w':=by
 have PD:=ja.mk hb0;have zE:=ja.mk L6;have HSS:=ja.mk hS;have Xp:=ja.mk Ld;have RT:=ja.mk Ue;have G5:=ja.mk Gd;have IZ:=ja.mk Qe;have Vo:=ja.mk eo;have HL1:=ja.mk Dl;have HO:=ja.mk hO;have HX:=ja.mk hX;have xU:=ja.mk hr;have HI:=ja.mk hI;have HP:=ja.mk hp;have hn:n ≤ 1048576:=hO.2.1;have hm1:Ca.length ≤ 1048576:=hO.1.2.1;have M5:=ja.mk (hI F6 w (w.alloc (.cells #[.slice Wa Oa.length Ya,.int .i64 Ja,.int .i64 Fa,.int .i64 (n:Int),.slice Ob Ca.length Cb] 30 (0,0))) hI0 (qa (Below.refl w.heap.size w) _).size (fun k hk=>(qa (Below.refl w.heap.size w) _).block k hk));have HA:=ja.mk (show oR S w (WD Wa Oa.length Ya Ja Fa n Ob Ca.length Cb) (w.alloc (.cells #[.slice Wa Oa.length Ya,.int .i64 Ja,.int .i64 Fa,.int .i64 (n:Int),.slice Ob Ca.length Cb] 30 (0,0))) from ⟨(Kept.refl _ _).alloc _,Vp (qa (Below.refl w.heap.size w) _),Dm _ _⟩);clear hb0 L6 hS Ld Ue Gd Qe eo Dl hO hX hr hI0 hI hp;go_enter Try.func50,Try.ntmps50
 go_upto_region 1 with (fail)
 generalize (w.alloc (.cells #[.slice Wa Oa.length Ya,.int .i64 Ja,.int .i64 Fa,.int .i64 (n:Int),.slice Ob Ca.length Cb] 30 (0,0)))=w1 at M5 HA ⊢;have Hs:w1.cell? ⟨w.heap.size,4,none⟩=some (.slice Ob Ca.length Cb):=(ga HA.out.hx 4).trans rfl;go_wp2;clear Hs
 go_loopg [13] Ca.length (fun gg o7 wr=>∃ (i:Nat) (st:St),o7 = .int .i64 i∧i ≤ Ca.length∧Ca.length - i ≤ gg∧ja (Eg f Ca X i st=Eg f Ca X 0 F6)∧ja (Inv st wr)∧ja (oR S w (WD Wa Oa.length Ya Ja Fa n Ob Ca.length Cb) wr))
 case atStart=>exact ⟨0,F6,rfl,Nat.zero_le _,by omega,⟨rfl⟩,M5,HA⟩
 case round =>
  clear M5 HA;(try clear nY);(try clear dM);(try clear HA);obtain ⟨i,st,rfl,hi,zS,nY,dM,HA⟩:=hrel
  by_cases hlt:i < Ca.length
  ·have Zv:decide ((i:Int) < (Ca.length:Int))=true:=decide_eq_true (by omega);have i1:0 ≤ (i:Int):=by omega
   have i2:(i:Int) < (Ca.length:Int):=by omega
   obtain ⟨ag,Ac,cc,e1,hc0,Dl,iP,XD,gP,Kw,YY⟩:=wj RT.out (i:Int) (by omega) (by omega);subst e1;simp only [Int.toNat_natCast] at hc0 Dl iP XD gP;have LZ:=ja.mk YY;have KZ:=ja.mk Kw;have nR:=ja.mk HA.out.k;replace hc0:=Mf hc0 PD.out zE.out nR.out;replace Dl:=Mf Dl PD.out zE.out nR.out;replace iP:=Mf iP PD.out zE.out nR.out;replace XD:=Mf XD PD.out zE.out nR.out;replace gP:=Mf gP PD.out zE.out nR.out;clear YY Kw
   go_upto_region 4 with (fail)
   have xA:=qa (Below.refl wr.heap.size wr) (.cells #[.slice Ac (Ea Ca (i:Int)).f0.length cc,.int .i64 (Ea Ca (i:Int)).f1,.int .i64 (Ea Ca (i:Int)).f2,.int .i64 (Ea Ca (i:Int)).f3,.int .i64 (Ea Ca (i:Int)).f4] 59 (0,0));have iD:=Dm wr (.cells #[.slice Ac (Ea Ca (i:Int)).f0.length cc,.int .i64 (Ea Ca (i:Int)).f1,.int .i64 (Ea Ca (i:Int)).f2,.int .i64 (Ea Ca (i:Int)).f3,.int .i64 (Ea Ca (i:Int)).f4] 59 (0,0));generalize wr.alloc (.cells #[.slice Ac (Ea Ca (i:Int)).f0.length cc,.int .i64 (Ea Ca (i:Int)).f1,.int .i64 (Ea Ca (i:Int)).f2,.int .i64 (Ea Ca (i:Int)).f3,.int .i64 (Ea Ca (i:Int)).f4] 59 (0,0))=Ks at xA iD ⊢;have Ku:=ja.mk (HA.out.below xA);have NJ:=ja.mk (HI.out st wr Ks dM.out xA.size (fun k hk=>xA.block k (Nat.lt_trans hk HA.out.le)));have Wo:=ja.mk iD;have EZ:=ja.mk HA.out.le;have BU:=ja.mk (vu HO.out hlt);have HE:=ja.mk (ZC HO.out hlt X HX.out (xU.out i hlt) Oa Ja Fa (n:Int));have oY:=ja.mk (And.intro (Kd.YA (Kd.sk .i64) Xp.out PD.out (kP PD.out zE.out) Ks Ku.out.k) (And.intro (Kd.YA eS RT.out PD.out (kP PD.out zE.out) Ks Ku.out.k) (Vo.out Ks Ku.out.k)));clear xA iD HA dM nR hc0 Dl iP XD gP i1 i2 Zv;generalize wr.heap.size=q7 at Wo EZ ⊢;have hx0:Ks.cell? ⟨w.heap.size,0,none⟩=some (.slice Wa Oa.length Ya):=(ga Ku.out.hx 0).trans rfl;have hx1:Ks.cell? ⟨w.heap.size,1,none⟩=some (.int .i64 Ja):=(ga Ku.out.hx 1).trans rfl;have Xw:Ks.cell? ⟨w.heap.size,2,none⟩=some (.int .i64 Fa):=(ga Ku.out.hx 2).trans rfl;have Lr:Ks.cell? ⟨w.heap.size,3,none⟩=some (.int .i64 (n:Int)):=(ga Ku.out.hx 3).trans rfl;have Hs:Ks.cell? ⟨w.heap.size,4,none⟩=some (.slice (some ag) Ca.length Cb):=(ga Ku.out.hx 4).trans rfl
   go_upto_region 5 with (first|(go_at_call 81;(with_reducible refine (Di.calls Wa Ya Oa Ja Fa (n:Int) (some ag) Cb Ca A1 c1 X (i:Int) _ Ks oY.out.1 G5.out oY.out.2.1 IZ.out oY.out.2.2 HL1.out HE.out).mono ?_);rintro e w5 ⟨v5,rfl,ho,hb⟩;obtain ⟨As,cs,rfl⟩:=Kd.ze ho;have Js:=ja.mk ho;have cU:=ja.mk hb;clear ho hb hx0 hx1 Xw Lr Hs))
   have hjl:(Eh (Ea Ca (i:Int)) (Sd X i)).length=n:=by rw [Uk];exact xU.out i hlt
   rw [hjl] at Js ⊢;clear hjl;have KP:=ja.mk (Ku.out.below cU.out);have zU:=ja.mk (HI.out st Ks w5 NJ.out cU.out.size (fun k hk=>cU.out.block k (Nat.lt_trans hk Ku.out.le)));have j5:=ja.mk (Ta Wo.out cU.out);have LJ:=ja.mk (And.intro (Jc Wo.out) (And.intro Ku.out.le cU.out.size));have JP:=ja.mk (show Pp f ((Ea Ca (i:Int)).f0.take (Ea Ca (i:Int)).f0.length).reverse (Zr (Ea Ca (i:Int)).f0 (Ea Ca (i:Int)).f0.length (Eh (Ea Ca (i:Int)) (Sd X i))) st=tw f Ca X st i by rw [List.take_length,Ut];rfl);clear Ku NJ Wo oY cU;generalize Ks.heap.size=N5 at Js LJ;have YD:w5.cell? ⟨q7,0,none⟩=some (.slice Ac (Ea Ca (i:Int)).f0.length cc):=(ga j5.out 0).trans rfl;have Kw:(Ea Ca (i:Int)).f0.length ≤ 1048576:=BU.out.1;have lS:wrap64 (((Ea Ca (i:Int)).f0.length:Int) - 1)=((Ea Ca (i:Int)).f0.length:Int) - 1:=Cj Kw;have R4:=ja.mk lS;clear lS;go_wp2;clear YD
   go_loopg [9] (Ea Ca (i:Int)).f0.length (fun g6 v9 wr=>∃ (z:Int) (q:Nat) (st':St),v9 = .int .i64 z∧z + 1=(q:Int)∧q ≤ (Ea Ca (i:Int)).f0.length∧q ≤ g6∧ja (Pp f ((Ea Ca (i:Int)).f0.take q).reverse (Zr (Ea Ca (i:Int)).f0 q (Eh (Ea Ca (i:Int)) (Sd X i))) st' = tw f Ca X st i)∧ja (Inv st' wr)∧ja (oR S w (WD Wa Oa.length Ya Ja Fa n (some ag) Ca.length Cb) wr)∧ja (Kd.R Kd.bool 4 wr N5 (fun _=>True) (.slice As n cs) (Zr (Ea Ca (i:Int)).f0 q (Eh (Ea Ca (i:Int)) (Sd X i))))∧ja (N5 ≤ wr.heap.size)∧ja (wr.heap[q7]? = some (.cells #[.slice Ac (Ea Ca (i:Int)).f0.length cc,.int .i64 (Ea Ca (i:Int)).f1,.int .i64 (Ea Ca (i:Int)).f2,.int .i64 (Ea Ca (i:Int)).f3,.int .i64 (Ea Ca (i:Int)).f4] 59 (0,0))))
   case atStart=>exact ⟨((Ea Ca (i:Int)).f0.length:Int) - 1,(Ea Ca (i:Int)).f0.length,st,by first|rfl|(go_simp;done)|exact congrArg _ R4.out|go_num,by omega,Nat.le_refl _,Nat.le_refl _,JP,zU,KP,⟨by rw [Ut];exact Js.out⟩,⟨LJ.out.2.2⟩,j5⟩
   case round =>
    clear JP zU KP Js j5;(try clear JP);(try clear zU);(try clear KP);(try clear Js);(try clear aad);(try clear j5);obtain ⟨z,q,st',rfl,hz,hq,hg6,JP,zU,KP,Js,aad,j5⟩:=hrel
    by_cases hz0:0 ≤ z
    ·obtain ⟨p,rfl⟩:∃ p:Nat,z=(p:Int):=⟨z.toNat,(Int.toNat_of_nonneg hz0).symm⟩;obtain rfl:q=p + 1:=by omega
     have mV:p < (Ea Ca (i:Int)).f0.length:=by omega
     have iS:decide ((p:Int) ≥ 0)=true:=decide_eq_true (by omega);have p1:0 ≤ (p:Int):=by omega
     have p2:(p:Int) < ((Ea Ca (i:Int)).f0.length:Int):=by omega
     have YD:wr.cell? ⟨q7,0,none⟩=some (.slice Ac (Ea Ca (i:Int)).f0.length cc):=(ga j5.out 0).trans rfl;obtain ⟨aI,e5,k0,k1,k2,k3,k4,k5,k6⟩:=Xn LZ.out (p:Int) (by omega) (by omega);subst e5;simp only [Int.toNat_natCast] at k0 k1 k2 k3 k4 k5 k6;have HKC:=ja.mk (And.intro k0 (And.intro k1 (And.intro k2 (And.intro k3 (And.intro k4 (And.intro k5 k6))))));replace k0:=Mf k0 PD.out zE.out KP.out.k;replace k1:=Mf k1 PD.out zE.out KP.out.k;replace k2:=Mf k2 PD.out zE.out KP.out.k;replace k3:=Mf k3 PD.out zE.out KP.out.k;replace k4:=Mf k4 PD.out zE.out KP.out.k;replace k5:=Mf k5 PD.out zE.out KP.out.k;replace k6:=Mf k6 PD.out zE.out KP.out.k;have FP:=ja.mk (show (Zr (Ea Ca (i:Int)).f0 (p + 1) (Eh (Ea Ca (i:Int)) (Sd X i))).length=n by rw [Qv,Uk];exact xU.out i hlt);have mY:=ja.mk (YC BU.out mV);have Nr:=HP.out wr st' (Ua (Ea Ca (i:Int)).f0 (p:Int)) As cs (Zr (Ea Ca (i:Int)).f0 (p + 1) (Eh (Ea Ca (i:Int)) (Sd X i))) KP.out.k zU.out mY.out FP.out (fun W' hk=>(Kd.Wc (Kd.JA (Kd.Td (Kd.Kg Js.out) (fun k hk=>hk.2.1)) hk (fun k hk e=>by have:=HSS.out k e;have:=LJ.out;omega))).2.2) (by have:=(Kd.Wc Js.out).2.1;rw [FP.out];exact this);rw [FP.out] at Nr;have P5:=ja.mk Nr;have eg2:=eg;clear Nr hz0
     go_upto_region 9 with (go_at_fn g;refine P5.out.mono ?_;rintro e w6 ⟨rfl,hi6,hk6,hb6⟩;have yU:=ja.mk hi6;have HK6:=ja.mk hk6;have eM:=ja.mk hb6;clear hi6 hk6 hb6 YD k0 k1 k2 k3 k4 k5 k6)
     have CU:=ja.mk (KP.out.kept HSS.out HK6.out eM.out);have bM:=ja.mk (Kd.JA (Kd.Td (Kd.Kg Js.out) (fun k hk=>hk.2.1)) HK6.out (fun k hk e=>by have:=HSS.out k e;have:=LJ.out;omega));have HQ6:=ja.mk (wg j5.out HK6.out (fun e=>by have:=HSS.out _ e;have:=EZ.out;omega));have WA:=ja.mk (show N5 ≤ w6.heap.size by have h1:=HK6.out.1;have:=aad.out;omega);obtain ⟨kb,TY⟩:=Ev.rounds (SH (Zr (Ea Ca (i:Int)).f0 (p + 1) (Eh (Ea Ca (i:Int)) (Sd X i))) (Ua (Ea Ca (i:Int)).f0 (p:Int)) (by rw [FP.out];exact mY.out));have Z6:=ja.mk TY;have HCB:=ja.mk (Qw WA.out);have HSB:=ja.mk (show Kd.R Kd.bool 4 w6 (tE w6 N5).heap.size (fun k=>N5 ≤ k) (.slice As n cs) (Zr (Ea Ca (i:Int)).f0 (p + 1) (Eh (Ea Ca (i:Int)) (Sd X i))) by rw [Mk WA.out];exact bM.out);obtain ⟨k0,k1,k2,k3,k4,k5,k6⟩:=HKC.out;replace k0:=Mf k0 PD.out zE.out CU.out.k;replace k1:=Mf k1 PD.out zE.out CU.out.k;replace k2:=Mf k2 PD.out zE.out CU.out.k;replace k3:=Mf k3 PD.out zE.out CU.out.k;replace k4:=Mf k4 PD.out zE.out CU.out.k;replace k5:=Mf k5 PD.out zE.out CU.out.k;replace k6:=Mf k6 PD.out zE.out CU.out.k;have YD:w6.cell? ⟨q7,0,none⟩=some (.slice (some aI) (Ea Ca (i:Int)).f0.length cc):=(ga HQ6.out 0).trans rfl;have hwp:wrap64 ((p:Int) - 1)=(p:Int) - 1:=Cj (by omega);have R6:=ja.mk hwp;clear TY hwp;go_wp2_with (first|(go_at_call 79;(with_reducible refine (Od.calls kb (fun k=>N5 ≤ k) (.slice As n cs) (Zr (Ea Ca (i:Int)).f0 (p + 1) (Eh (Ea Ca (i:Int)) (Sd X i))) (Ua (Ea Ca (i:Int)).f0 (p:Int)).f0 (Ua (Ea Ca (i:Int)).f0 (p:Int)).f1 (Ua (Ea Ca (i:Int)).f0 (p:Int)).f2 (Ua (Ea Ca (i:Int)).f0 (p:Int)).f3 (Ua (Ea Ca (i:Int)).f0 (p:Int)).f4 (Ua (Ea Ca (i:Int)).f0 (p:Int)).f5 (Ua (Ea Ca (i:Int)).f0 (p:Int)).f6 _ (tE w6 N5) w6 HCB.out HSB.out Z6.out).mono ?_);rintro e w7 ⟨rfl,ho,hb,hk⟩;have HS7:=ja.mk ho;have xY:=ja.mk hb;have b7:=ja.mk hk;clear ho hb hk YD k0 k1 k2 k3 k4 k5 k6))
     have nV:Below w.heap.size w6 w7:=by
      have hb:=xY.out;have hs:=Mk WA.out;have h2:=LJ.out.2.1;refine ⟨hb.os,hb.tape,hb.output,b7.out.1,fun k hk=>b7.out.2 k (by have:=WA.out;omega) (by omega)⟩
     have HA7:=ja.mk (show oR S w _ w7 from ⟨CU.out.k.bu b7.out (fun k hk=>Or.inr (by have:=LJ.out.2.1;omega)),CU.out.b.trans (Vp nV),wg CU.out.hx b7.out (by have:=LJ.out.2.1;omega)⟩);have HI7:=ja.mk (HI.out _ w6 w7 yU.out nV.size nV.block);have HQ7:=ja.mk (wg HQ6.out b7.out (by have:=LJ.out.1;omega));have hs7:=HS7.out;rw [Mk WA.out,← Tp mV] at hs7;have HS8:=ja.mk (Kd.Td hs7 (fun _ _=>trivial:∀ k,_→(fun _:Nat=>True) k));have BS:=JP.out;rw [tD f mV,← Tp mV] at BS;have HF7:=ja.mk BS;clear hs7 BS nV
     go_roundg p
     case measure=>omega
     case rel=>exact ⟨(p:Int) - 1,p,_,by first|rfl|(go_simp;done)|exact congrArg _ R6.out|go_num,by omega,by omega,Nat.le_refl _,HF7,HI7,HA7,HS8,⟨Nat.le_trans WA.out b7.out.1⟩,HQ7⟩
    ·have iS:decide (z ≥ 0)=false:=decide_eq_false (by omega);obtain rfl:q=0:=by omega
     have BS:=JP.out;rw [List.take_zero,List.reverse_nil,show Pp f [] (Zr (Ea Ca (i:Int)).f0 0 (Eh (Ea Ca (i:Int)) (Sd X i))) st' = st' from rfl] at BS;have HEN:=ja.mk (show Eg f Ca X (i + 1) st' = Eg f Ca X 0 F6 by rw [BS,← qn f hlt];exact nY.out);clear BS;go_wp2
     go_roundg (Ca.length - (i + 1))
     case measure=>omega
     case rel=>exact ⟨i + 1,st',by go_num,by omega,by omega,HEN,zU,KP⟩
  ·have Zv:decide ((i:Int) < (Ca.length:Int))=false:=decide_eq_false (by omega);obtain rfl:i=Ca.length:=by omega
   have heq:=nY.out;rw [Po] at heq;have HEE:=ja.mk heq;clear heq;go_wp2;refine bodyPost_end (v:=.tuple #[]) ?_ rfl ?_
   ·exact results_none rfl _ _ _
   exact ⟨rfl,by rw [← HEE.out];exact dM.out,HA.out.k,HA.out.b⟩
attribute [local go_sem] Bi Xi Jj Ik Uh Th Yi Wi
def Vb.l0:Nat→List Bool→List Bool→Int→Int→Option (Bool)
 | 0,_,_,_,_=>none
 | k + 1,x0,x1,x12,VZ=>if VZ < x12 then (if 0 ≤ VZ then (if VZ < (x0.length:Int) then (if VZ < (x1.length:Int) then (if ((Pf false x0 VZ) != (Pf false x1 VZ))=true then (some false) else (Vb.l0 k x0 x1 x12 (wrap64 (VZ + 1)))) else (none)) else (none)) else (none)) else (some true)
def Vb.f (k:Nat) (l0:List Bool) (l1:List Bool):Option (Bool):=if (l0.length:Int)=(l1.length:Int) then (Vb.l0 k l0 l1 (l0.length:Int) 0) else (some false)
theorem Vb.VC:∀ k,(∀ y0 y1 y2 y3,Gm (Vb.l0 k y0 y1 y2 y3) (Vb.l0 (k + 1) y0 y1 y2 y3))
 | 0=>fun _ _ _ _ r h=>by simp [Vb.l0] at h
 | k + 1=>by
  have gS:=Vb.VC k
  ·intro y0 y1 y2 y3;unfold Vb.l0
   repeat' first
   | (with_reducible exact gS _ _ _ _)
   | (with_reducible exact Gm.refl _)
   | (with_reducible exact Gm.none _)
   | (with_reducible refine Gm.ite ?_ ?_)
   | (with_reducible refine Gm.bind ?_ (fun _=>?_))
   | exact gS _ _ _ _
   | exact Gm.none _
   | refine Gm.ite ?_ ?_
   | refine Gm.bind ?_ (fun _=>?_)
theorem Vb.mono:∀ a0 a1 k,Gm (Vb.f k a0 a1) (Vb.f (k + 1) a0 a1):=by
 intro a0 a1 k;have gS:=Vb.VC k;unfold Vb.f
 repeat' first
   | (with_reducible exact gS _ _ _ _)
   | (with_reducible exact Gm.refl _)
   | (with_reducible exact Gm.none _)
   | (with_reducible refine Gm.ite ?_ ?_)
   | (with_reducible refine Gm.bind ?_ (fun _=>?_))
   | exact gS _ _ _ _
   | exact Gm.none _
   | refine Gm.ite ?_ ?_
   | refine Gm.bind ?_ (fun _=>?_)
theorem Vb.calls (k:Nat) (A0:Option Addr) (c0:Nat) (l0:List Bool) (A1:Option Addr) (c1:Nat) (l1:List Bool) (r:Bool) (w:World) (vm:Kd.C Kd.bool w A0 l0.length l0) (hc0:l0.length ≤ c0) (eo:Kd.C Kd.bool w A1 l1.length l1) (Dl:l1.length ≤ c1) (h:Vb.f k l0 l1=some r) :
  Calls Try.prog 80 #[.slice A0 l0.length c0,.slice A1 l1.length c1] w fun e w'=>e = .returned (.bool r)∧Zc w w':=by
 have Xp:=ja.mk vm;have dK:=ja.mk hc0;clear vm hc0;have Vo:=ja.mk eo;have FI:=ja.mk Dl;clear eo Dl;have H:(if (l0.length:Int)=(l1.length:Int) then (Vb.l0 k l0 l1 (l0.length:Int) 0) else (some false))=some r:=h;clear h
 by_cases c3:(l0.length:Int)=(l1.length:Int)
 ·rw [if_pos c3] at H;have uj:((l0.length:Int) == (l1.length:Int))=true:=beq_iff_eq.mpr c3;have Gr:((l0.length:Int) != (l1.length:Int))=false:=bne_eq_false_iff_eq.mpr c3;have xD:(l0.length == l1.length)=true:=by first|simpa using c3|(simp at c3 ⊢;omega)
  clear c3;have H':=ja.mk H;clear H;go_enter Try.func80,Try.ntmps80;go_wp2
  repeat (go_quiet (fail);try go_wp2)
  go_loopg [13] k (fun kq o7 w'=>∃ (ng:Int),o7 = .int .i64 ng∧ja (Vb.l0 kq l0 l1 (l0.length:Int) ng=some r)∧ja (kq ≤ k)∧Zc w w')
  case atStart=>exact ⟨(0),(by first|rfl|(simp;done)|(simp [*];done)),H',⟨Nat.le_refl _⟩,by repeat (first|exact Zc.refl _|apply Zc.step)⟩
  case round =>
   clear H'
   try clear c1
   try clear p2
   try clear c3
   try clear uj
   try clear Gr
   try clear xD
   (try clear HA);(try clear Rh);obtain ⟨ng,rfl,HA,Rh,⟨m1,rfl⟩⟩:=hrel;cases gk with
   | zero=>exact absurd HA.out (by simp [Vb.l0])
   | succ k1 =>
    have H:=HA.out;clear HA;simp only [Vb.l0] at H
    by_cases c4:ng < (l0.length:Int)
    ·rw [if_pos c4] at H;have Fl:decide (ng < (l0.length:Int))=true:=decide_eq_true c4;clear c4
     by_cases c5:0 ≤ ng
     ·rw [if_pos c5] at H;have ak:decide (0 ≤ ng)=true:=decide_eq_true c5;clear c5
      by_cases c6:ng < (l0.length:Int)
      ·rw [if_pos c6] at H;have Mm:decide (ng < (l0.length:Int))=true:=decide_eq_true c6;clear c6
       by_cases c7:ng < (l1.length:Int)
       ·rw [if_pos c7] at H;have Qk:decide (ng < (l1.length:Int))=true:=decide_eq_true c7;clear c7
        by_cases c8:((Pf false l0 ng) != (Pf false l1 ng))=true
        ·rw [if_pos c8] at H;have Tr:((Pf false l0 ng) != (Pf false l1 ng))=true:=c8;(try (have GL:decide ((Pf false l0 ng)=(Pf false l1 ng))=false:=by simpa using c8));(try (have cao:((Pf false l0 ng) == (Pf false l1 ng))=false:=by simpa using c8));(try (have hau:¬ ((Pf false l0 ng)=(Pf false l1 ng)):=by simpa using c8));clear c8;obtain rfl:=Option.some.inj H;have jg:0 ≤ (ng:Int):=Sa;have ig:ng < (l0.length:Int):=Sa;obtain ⟨He,El,me⟩:=Kd.Bh Xp.out ng jg ig;cases El;replace jg:=eq_true jg;replace ig:=eq_true ig;have Vi:0 ≤ (ng:Int):=Sa;have Ui:ng < (l1.length:Int):=Sa;obtain ⟨Xe,Rt,Ze⟩:=Kd.Bh Vo.out ng Vi Ui;cases Rt;replace Vi:=eq_true Vi;replace Ui:=eq_true Ui;go_wp2
         repeat (go_quiet (fail);try go_wp2)
         go_ret;exact ⟨by first|rfl|(simp;done)|(simp [*];done),by repeat (first|exact Zc.refl _|apply Zc.step)⟩
        ·rw [if_neg c8] at H;have Tr:((Pf false l0 ng) != (Pf false l1 ng))=false:=by simpa using c8
         (try (have GL:decide ((Pf false l0 ng)=(Pf false l1 ng))=true:=by simpa using c8));(try (have cao:((Pf false l0 ng) == (Pf false l1 ng))=true:=by simpa using c8));clear c8;have H':=ja.mk H;clear H;have jg:0 ≤ (ng:Int):=Sa;have ig:ng < (l0.length:Int):=Sa;obtain ⟨He,El,me⟩:=Kd.Bh Xp.out ng jg ig;cases El;replace jg:=eq_true jg;replace ig:=eq_true ig;have Vi:0 ≤ (ng:Int):=Sa;have Ui:ng < (l1.length:Int):=Sa;obtain ⟨Xe,Rt,Ze⟩:=Kd.Bh Vo.out ng Vi Ui;cases Rt;replace Vi:=eq_true Vi;replace Ui:=eq_true Ui;go_wp2
         repeat (go_quiet (fail);try go_wp2)
         go_roundg k1
         case measure=>have:=Rh.out;omega
         case rel=>exact ⟨(wrap64 (ng + 1)),(by first|rfl|(simp;done)|(simp [*];done)),H',⟨by have:=Rh.out;omega⟩,by repeat (first|exact Zc.refl _|apply Zc.step)⟩
       ·rw [if_neg c7] at H;exact absurd H (by simp)
      ·rw [if_neg c6] at H;exact absurd H (by simp)
     ·rw [if_neg c5] at H;exact absurd H (by simp)
    ·rw [if_neg c4] at H;have Fl:decide (ng < (l0.length:Int))=false:=decide_eq_false c4;clear c4;obtain rfl:=Option.some.inj H;go_wp2
     repeat (go_quiet (fail);try go_wp2)
     go_ret;exact ⟨by first|rfl|(simp;done)|(simp [*];done),by repeat (first|exact Zc.refl _|apply Zc.step)⟩
 ·rw [if_neg c3] at H;have uj:((l0.length:Int) == (l1.length:Int))=false:=beq_eq_false_iff_ne.mpr c3;have Gr:((l0.length:Int) != (l1.length:Int))=true:=bne_iff_ne.mpr c3;have xD:(l0.length == l1.length)=false:=by first|simpa using c3|(simp at c3 ⊢;omega)
  obtain rfl:=Option.some.inj H;go_enter Try.func80,Try.ntmps80;go_wp2
  repeat (go_quiet (fail);try go_wp2)
  go_ret;exact ⟨by first|rfl|(simp;done)|(simp [*];done),by repeat (first|exact Zc.refl _|apply Zc.step)⟩
theorem JQ (a b:List Bool) (hl:a.length=b.length) (hm:a.length ≤ 1048576):∀ (d i:Nat),i + d=a.length→Ev (fun k=>Vb.l0 k a b (a.length:Int) (i:Int)) (decide (a.drop i=b.drop i)):=by
 intro d
 induction d with
 | zero =>
  intro i hd;rw [List.drop_eq_nil_of_le (by omega),List.drop_eq_nil_of_le (by omega)];refine Ev.step (fun k=>by rw [Vb.l0]) ?_;exact Ev.neg (by omega) (Ev.now _)
 | succ d ih =>
  intro i hd;have h1:i < a.length:=by omega
  have h2:i < b.length:=by omega
  have ea:Pf false a (i:Int)=a[i]:=by simp [Pf,h1]
  have eb:Pf false b (i:Int)=b[i]:=by simp [Pf,h2]
  refine Ev.step (fun k=>by rw [Vb.l0]) ?_;refine Ev.pos (by omega) (Ev.pos (by omega) (Ev.pos (by omega) (Ev.pos (by omega) ?_)));rw [ea,eb,Zd h1 (by omega)]
  by_cases he:a[i]=b[i]
  ·refine Ev.neg (by rw [he];simp) ?_
   have e:decide (a.drop i=b.drop i)=decide (a.drop (i + 1)=b.drop (i + 1)):=by
    rw [List.drop_eq_getElem_cons h1,List.drop_eq_getElem_cons h2,he];exact decide_eq_decide.2 ⟨fun h=>(List.cons.inj h).2,fun h=>by rw [h]⟩
   rw [e];exact ih (i + 1) (by omega)
  ·refine Ev.pos (by simpa using he) ?_
   have e:decide (a.drop i=b.drop i)=false:=decide_eq_false (fun h=>by
    rw [List.drop_eq_getElem_cons h1,List.drop_eq_getElem_cons h2] at h
    exact he (List.cons.inj h).1)
   rw [e];exact Ev.now _
theorem R2 (a b:List Bool) (hm:a.length ≤ 1048576):Ev (fun k=>Vb.f k a b) (decide (a=b)):=by
 unfold Vb.f
 by_cases hl:a.length=b.length
 ·exact Ev.pos (by omega) (JQ a b hl hm a.length 0 (by omega))
 ·rw [decide_eq_false (fun e=>hl (by rw [e]))];exact Ev.neg (by omega) (Ev.now _)
noncomputable def Hl.f (Oa:List Int) (Ja:Int) (Fa:Int) (Ia:Int) (Ca:List (Ke)):Option (List (List Bool)):=open Classical in if 0 ≤ Ia∧Zn Ca Ia.toNat then some (De Ca Ia.toNat) else none
theorem Hl.calls (Wa:Option Addr) (Ya:Nat) (Oa:List Int) (Ja:Int) (Fa:Int) (Ia:Int) (Ob:Option Addr) (Cb:Nat) (Ca:List (Ke)) (r:List (List Bool)) (w:World) (Ld:Kd.C (Kd.int .i64) w Wa Oa.length Oa) (Gd:Oa.length ≤ Ya) (Ue:Kd.C Gs w Ob Ca.length Ca) (Qe:Ca.length ≤ Cb) (h:Hl.f Oa Ja Fa Ia Ca=some r) :
  Calls Try.prog 47 #[.agg #[.slice Wa Oa.length Ya,.int .i64 Ja,.int .i64 Fa,.int .i64 Ia,.slice Ob Ca.length Cb]] w fun e w'=>∃ Bn:Value,e = .returned (Bn)∧Kd.S (Kd.slice 4 Kd.bool) 60 w' w.heap.size (fun _=>True) Bn r∧Below w.heap.size w w':=by
 unfold Hl.f at h
 by_cases hf:0 ≤ Ia∧Zn Ca Ia.toNat
 case neg=>rw [if_neg hf] at h;cases h
 rw [if_pos hf] at h;obtain rfl:=Option.some.inj h;obtain ⟨hn0,hO⟩:=hf;obtain ⟨n,rfl⟩:∃ n:Nat,Ia=(n:Int):=⟨Ia.toNat,(Int.toNat_of_nonneg hn0).symm⟩;have tau:=ja.mk (show De Ca ((n:Int)).toNat=De Ca n from by rw [Int.toNat_natCast]);rw [Int.toNat_natCast] at hO;clear h hn0;have HO:=ja.mk hO;have hn:n ≤ 1048576:=hO.2.1;have hm0:0 < Ca.length:=hO.1.1;have hm1:Ca.length ≤ 1048576:=hO.1.2.1;clear hO;obtain ⟨W1,bg⟩:∃ W1,W1=((w.alloc (.cells #[.slice Wa Oa.length Ya,.int .i64 Ja,.int .i64 Fa,.int .i64 (n:Int),.slice Ob Ca.length Cb] 30 (0,0))).alloc (.cells #[] 60 (0,0))).alloc (.cells #[] 60 (0,0)):=⟨_,rfl⟩;have HW:=ja.mk bg
 have HA:=ja.mk (show aq w (WD Wa Oa.length Ya Ja Fa n Ob Ca.length Cb) (fun k=>k=w.heap.size + 1) (.slice (some ⟨w.heap.size + 1,0,none⟩) 0 0) (.slice (some ⟨w.heap.size + 2,0,none⟩) 0 0) [] [] W1 from by
  have z1:(w.alloc (.cells #[.slice Wa Oa.length Ya,.int .i64 Ja,.int .i64 Fa,.int .i64 (n:Int),.slice Ob Ca.length Cb] 30 (0,0))).heap.size=w.heap.size + 1:=by simp
  have b1:=Dm w (.cells #[.slice Wa Oa.length Ya,.int .i64 Ja,.int .i64 Fa,.int .i64 (n:Int),.slice Ob Ca.length Cb] 30 (0,0));have e1:=qa (Below.refl w.heap.size w) (.cells #[.slice Wa Oa.length Ya,.int .i64 Ja,.int .i64 Fa,.int .i64 (n:Int),.slice Ob Ca.length Cb] 30 (0,0));rw [bg];generalize w.alloc (.cells #[.slice Wa Oa.length Ya,.int .i64 Ja,.int .i64 Fa,.int .i64 (n:Int),.slice Ob Ca.length Cb] 30 (0,0))=u1 at z1 b1 e1 ⊢;have z2:(u1.alloc (.cells #[] 60 (0,0))).heap.size=w.heap.size + 2:=by simp [z1]
  have s1:=zz (Kd.slice 4 Kd.bool) 60 u1 w.heap.size (by omega);have e2:=qa (Below.refl u1.heap.size u1) (.cells #[] 60 (0,0));rw [z1] at s1;generalize u1.alloc (.cells #[] 60 (0,0))=u2 at z2 s1 e2 ⊢;have s2:=zz (Kd.slice 4 Kd.bool) 60 u2 w.heap.size (by omega);have e3:=qa (Below.refl u2.heap.size u2) (.cells #[] 60 (0,0));have z3:(u2.alloc (.cells #[] 60 (0,0))).heap.size=w.heap.size + 3:=by simp [z2]
  rw [z2] at s2
  exact ⟨Na (Na e1 e2) e3,Ta (Ta b1 e2) e3,Kd.Nf s1 e3,Kd.ej s2 (fun k hk=>⟨by omega,by omega⟩),fun k hk=>⟨by omega,by omega⟩⟩)
 have RT:=ja.mk Ue;have IZ:=ja.mk Qe;clear bg Ld Ue Gd Qe;go_enter Try.func47,Try.ntmps47
 go_upto_region 2 with (fail)
 rw [← HW.out];clear HW;have Hs:=WR HA.out;go_wp2;clear Hs
 go_loopg [3,4,19] Ca.length (fun gg v3 v4 v19 wr=>∃ (j:Nat) (PB:Nat→Prop),j ≤ Ca.length∧Ca.length - j ≤ gg∧v19 = .int .i64 j∧ja (aq w (WD Wa Oa.length Ya Ja Fa n Ob Ca.length Cb) PB v3 v4 (List.replicate j (List.replicate n false)) (List.replicate j (List.replicate n false)) wr))
 case atStart=>exact ⟨0,_,Nat.zero_le _,by omega,rfl,HA⟩
 case round =>
  clear HA;(try clear PB);(try clear HA);obtain ⟨j,PB,hj,zS,rfl,HA⟩:=hrel
  by_cases hlt:j < Ca.length
  ·have Zv:decide ((j:Int) < (Ca.length:Int))=true:=decide_eq_true (by omega);have Lr:=QA HA.out;have M6:(0:Int) ≤ (n:Int):=by omega
   have W6:=ja.mk (show ((n:Int)).toNat * 1 ≤ 281474976710656 from by omega);have Y6:=ja.mk (show ((List.replicate j (List.replicate n false)).length + 1) * 24 ≤ 140737488355328 from by rw [List.length_replicate];omega)
   go_upto_region 5 with (first|((with_reducible refine qb (N:=24) rfl ?_);refine Kd.Uw Kd.bool (w0:=wr) wr.heap.size 4 rfl (N:=24) rfl 60 _ _ rfl (n:Int) rfl rfl Try.underlying60 (.bool false) 1 ow rfl (by decide) (by omega) false (ok:=fun k=>wr.heap.size ≤ k) (Sh:=fun k=>wr.heap.size ≤ k) rfl (fun _ hk=>hk) (Nat.le_refl _) M6 W6.out (Below.refl _ _) (Nat.le_refl _) ?_;intro v24 tR ho hb hg hat;rw [Int.toNat_natCast] at ho;obtain ⟨A24,zD,rfl⟩:=Kd.ze ho;have ead:=ja.mk (tM ho HA.out.bl.size);simp only [List.length_replicate] at ead;have V5:=ja.mk hb;have Uac:=ja.mk (Na HA.out.bl hb);clear ho hb hg hat Lr)|((with_reducible refine qb (N:=26) rfl ?_);refine Kd.Cz (Kd.slice 4 Kd.bool) (w0:=w) w.heap.size rfl (.tmp 21) (.tmp 25) 55 60 (.slice none 0 0) 24 rfl Try.underlying55 dD rfl (by decide) (by omega) _ (List.replicate j (List.replicate n false)) (List.replicate n false) _ (fun k=>PB k ∨ wr.heap.size ≤ k) (fun k=>wr.heap.size ≤ k) rfl rfl ead.out HA.out.neX (HA.out.frX V5.out) (HA.out.okX V5.out) Uac.out Uac.out.size Y6.out ?_;intro v26 Pu hs hb hg hat;have zY:=ja.mk (HA.out.z4 V5.out hs hb hg);clear hs hb hg hat))
   have Lr:=QA zY.out
   go_upto_region 6 with (first|((with_reducible refine qb (N:=30) rfl ?_);refine Kd.Uw Kd.bool (w0:=Pu) Pu.heap.size 4 rfl (N:=30) rfl 60 _ _ rfl (n:Int) rfl rfl Try.underlying60 (.bool false) 1 ow rfl (by decide) (by omega) false (ok:=fun k=>Pu.heap.size ≤ k) (Sh:=fun k=>Pu.heap.size ≤ k) rfl (fun _ hk=>hk) (Nat.le_refl _) M6 W6.out (Below.refl _ _) (Nat.le_refl _) ?_;intro v30 gE ho hb hg hat;rw [Int.toNat_natCast] at ho;obtain ⟨cw,Sw,rfl⟩:=Kd.ze ho;have dad:=ja.mk (tM ho zY.out.bl.size);simp only [List.length_replicate] at dad;have U5:=ja.mk hb;have Tac:=ja.mk (Na zY.out.bl hb);clear ho hb hg hat Lr)|((with_reducible refine qb (N:=32) rfl ?_);refine Kd.Cz (Kd.slice 4 Kd.bool) (w0:=w) w.heap.size rfl (.tmp 27) (.tmp 31) 55 60 (.slice none 0 0) 24 rfl Try.underlying55 dD rfl (by decide) (by omega) _ (List.replicate j (List.replicate n false)) (List.replicate n false) _ _ (fun k=>Pu.heap.size ≤ k) rfl rfl dad.out zY.out.neY (zY.out.frY U5.out) (zY.out.okY U5.out) Tac.out Tac.out.size Y6.out ?_;intro v32 tI hs hb hg hat;have HA2:=ja.mk (zY.out.fao U5.out hs hb hg);clear hs hb hg hat))
   go_wp2
   go_roundg (Ca.length - (j + 1))
   case measure=>omega
   case rel =>
    have h2:=HA2.out;rw [← List.replicate_succ'] at h2;exact ⟨j + 1,_,by omega,by omega,by go_num,⟨h2⟩⟩
  ·have Zv:decide ((j:Int) < (Ca.length:Int))=false:=decide_eq_false (by omega);have hje:j=Ca.length:=by omega
   have ha:=HA.out;rw [hje] at ha;obtain ⟨gX,cX,gY,cY,rfl,rfl⟩:=ha.forms hm0;clear HA;have HA:=ja.mk ha;clear ha hje zS hj;have HV:=ja.mk (bE.start Ca n);generalize List.replicate Ca.length (List.replicate n false)=X0 at HA HV;have HM0:=ja.mk HV.out.cnt;go_wp2;clear hlt Zv
   go_loopg [5] (n * Ca.length + 1) (fun gg v5 wr=>∃ (X Y:List (List Bool)) (a:Bool),v5 = .bool a∧n * Ca.length - Rp Y + (if a=true then 1 else 0) ≤ gg∧ja (bE Ca n X Y)∧ja (a=false→∀ i,i < Ca.length→StE Ca X Y i)∧ja (aq w (WD Wa Oa.length Ya Ja Fa n Ob Ca.length Cb) PB (.slice (some ⟨gX,0,none⟩) Ca.length cX) (.slice (some ⟨gY,0,none⟩) Ca.length cY) X Y wr))
   case atStart=>exact ⟨X0,X0,true,rfl,by rw [if_pos rfl];omega,HV,⟨fun e=>by cases e⟩,HA⟩
   case round =>
    clear HV HA HM0;(try clear X);(try clear Y);(try clear HV);(try clear HST);(try clear HA);obtain ⟨X,Y,a,rfl,zS,HV,HST,HA⟩:=hrel;cases a with
    | false =>
     have HDN:=ja.mk (HV.out.done HO.out (HST.out rfl));go_wp2;go_ret;exact ⟨_,rfl,by rw [← HDN.out];exact Kd.ej HA.out.x (fun _ _=>trivial),HA.out.bl⟩
    | true =>
     have O8:=zS;rw [if_pos rfl] at O8;have HS:=ja.mk (show LvS Ca X Y (Rp Y) false Ca.length from ⟨Nat.le_refl _,(fun e=>by cases e),(fun _ k h1 h2=>by omega)⟩);clear HST zS;generalize Rp Y=C at HS O8;have Hs:=WR HA.out;have lS:wrap64 ((Ca.length:Int) - 1)=(Ca.length:Int) - 1:=by unfold wrap64;omega
     have R4:=ja.mk lS;clear lS;go_wp2;clear Hs
     go_loopg [5,6] Ca.length (fun g3 v5 v6 wr=>∃ (z:Int) (q:Nat) (X Y:List (List Bool)) (a:Bool),v5 = .bool a∧v6 = .int .i64 z∧z + 1=(q:Int)∧q ≤ Ca.length∧q ≤ g3∧ja (bE Ca n X Y)∧ja (LvS Ca X Y C a q)∧ja (aq w (WD Wa Oa.length Ya Ja Fa n Ob Ca.length Cb) PB (.slice (some ⟨gX,0,none⟩) Ca.length cX) (.slice (some ⟨gY,0,none⟩) Ca.length cY) X Y wr))
     case atStart=>exact ⟨(Ca.length:Int) - 1,Ca.length,X,Y,false,rfl,by first|rfl|(go_simp;done)|exact congrArg _ R4.out|go_num,by omega,Nat.le_refl _,Nat.le_refl _,HV,HS,HA⟩
     case round =>
      clear HV HS HA;(try clear X);(try clear Y);(try clear HV);(try clear HS);(try clear HA);obtain ⟨z,q,X,Y,a,rfl,rfl,hz,hq,K1,HV,HS,HA⟩:=hrel
      by_cases hz0:0 ≤ z
      ·obtain ⟨i,rfl⟩:∃ i:Nat,z=(i:Int):=⟨z.toNat,(Int.toNat_of_nonneg hz0).symm⟩;obtain rfl:q=i + 1:=by omega
       have hi:i < Ca.length:=by omega
       have iS:decide ((i:Int) ≥ 0)=true:=decide_eq_true (by omega);obtain ⟨ag,Ac,cc,e1,hc0,Dl,iP,XD,gP,Kw,YY⟩:=wj RT.out (i:Int) (by omega) (by omega);subst e1;have Hs:=WR HA.out;simp only [Int.toNat_natCast] at hc0 Dl iP XD gP;have LZ:=ja.mk YY;have KZ:=ja.mk Kw;replace hc0:=ud hc0 (Kept.Cd HA.out.bl (fun _=>False)) id;replace Dl:=ud Dl (Kept.Cd HA.out.bl (fun _=>False)) id;replace iP:=ud iP (Kept.Cd HA.out.bl (fun _=>False)) id;replace XD:=ud XD (Kept.Cd HA.out.bl (fun _=>False)) id;replace gP:=ud gP (Kept.Cd HA.out.bl (fun _=>False)) id;have q1:0 ≤ (i:Int):=by omega
       have q2:(i:Int) < (Ca.length:Int):=by omega
       have Zac:=ja.mk (show Gl.f (Ea Ca (i:Int)).f0 (Ea Ca (i:Int)).f1 (Ea Ca (i:Int)).f2 (Ea Ca (i:Int)).f3 (Ea Ca (i:Int)).f4=some (Jr Ca i) from fQ _);clear YY Kw
       go_upto_region 14 with (fail)
       have xA:=qa (Below.refl wr.heap.size wr) (.cells #[.slice Ac (Ea Ca (i:Int)).f0.length cc,.int .i64 (Ea Ca (i:Int)).f1,.int .i64 (Ea Ca (i:Int)).f2,.int .i64 (Ea Ca (i:Int)).f3,.int .i64 (Ea Ca (i:Int)).f4] 59 (0,0));have iD:=Dm wr (.cells #[.slice Ac (Ea Ca (i:Int)).f0.length cc,.int .i64 (Ea Ca (i:Int)).f1,.int .i64 (Ea Ca (i:Int)).f2,.int .i64 (Ea Ca (i:Int)).f3,.int .i64 (Ea Ca (i:Int)).f4] 59 (0,0));generalize wr.alloc (.cells #[.slice Ac (Ea Ca (i:Int)).f0.length cc,.int .i64 (Ea Ca (i:Int)).f1,.int .i64 (Ea Ca (i:Int)).f2,.int .i64 (Ea Ca (i:Int)).f3,.int .i64 (Ea Ca (i:Int)).f4] 59 (0,0))=Ks at xA iD ⊢;have Ku:=ja.mk (HA.out.below xA);have Wo:=ja.mk iD;have n5:=ja.mk (show ¬ PB wr.heap.size from fun e=>by have:=(HA.out.pb _ e).2;omega);have HCD:=ja.mk (Kd.Db LZ.out Ku.out.bl);clear xA iD HA Hs hc0 Dl iP XD gP q1 q2 iS hz0;generalize wr.heap.size=q7 at Wo n5 ⊢;have YD:=(ga Wo.out 0).trans rfl;have h71:=(ga Wo.out 1).trans rfl;have h72:=(ga Wo.out 2).trans rfl;have h73:=(ga Wo.out 3).trans rfl;have h74:=(ga Wo.out 4).trans rfl;have htl:(Jr Ca i).length ≤ 2:=dJ _;go_wp2_with (first|(go_at_call 78;(with_reducible refine (Gl.calls Ac cc (Ea Ca (i:Int)).f0 (Ea Ca (i:Int)).f1 (Ea Ca (i:Int)).f2 (Ea Ca (i:Int)).f3 (Ea Ca (i:Int)).f4 (Jr Ca i) Ks HCD.out KZ.out Zac.out).mono ?_);rintro e ou ⟨v15,rfl,ho,hb⟩;obtain ⟨An,cn,rfl⟩:=Kd.ze ho;have Wac:=ja.mk ho;have Vw:=ja.mk hb;clear ho hb YD h71 h72 h73 h74));have Aad:=ja.mk (Ku.out.below Vw.out);have GJ:=ja.mk (Ta Wo.out Vw.out);have HNC:=ja.mk (Kd.RD (S:=PB) (Kd.Td (Kd.Kg Wac.out) (fun k hk=>hk.2.1)) (fun k hk e=>by have:=(Ku.out.pb k e).2;omega));have HR:=ja.mk (show M4 Ca n X Y i X from ⟨HV.out,fun _ _=>rfl⟩);have HT:=ja.mk (show wU (Jr Ca i) 0 Y X i from fun t ht=>by simp at ht);clear Ku Wac Vw HCD Wo Zac
       go_loopg [51] (Jr Ca i).length (fun g4 v51 wr=>∃ (j:Nat) (X':List (List Bool)),v51 = .int .i64 j∧j ≤ (Jr Ca i).length∧(Jr Ca i).length - j ≤ g4∧ja (M4 Ca n X Y i X')∧ja (wU (Jr Ca i) j Y X' i)∧ja (aq w (WD Wa Oa.length Ya Ja Fa n (some ag) Ca.length Cb) PB (.slice (some ⟨gX,0,none⟩) Ca.length cX) (.slice (some ⟨gY,0,none⟩) Ca.length cY) X' Y wr)∧ja (Kept ou wr PB))
       case atStart=>exact ⟨0,X,rfl,Nat.zero_le _,by omega,HR,HT,Aad,⟨Kept.refl _ _⟩⟩
       case round =>
        clear HR HT Aad;(try clear X);(try clear HR);(try clear HT);(try clear HA);(try clear HK);obtain ⟨j,X',rfl,hj,oV,HR,HT,HA,HK⟩:=hrel
        by_cases hjt:j < (Jr Ca i).length
        ·have J1:decide ((j:Int) < ((Jr Ca i).length:Int))=true:=decide_eq_true (by omega);have r1:0 ≤ (j:Int):=by omega
         have r2:(j:Int) < ((Jr Ca i).length:Int):=by omega
         obtain ⟨an,tn,e1,ht,htn,hx⟩:=dV HO.out.1 hi hjt (HNC.out wr HK.out);subst e1;have HTN:=ja.mk ht;have HTM:=ja.mk (List.getElem_mem hjt);obtain ⟨Ay,cy,hcy,hfy,hly,hCy,hKy⟩:=HA.out.NU htn;have kY:=ja.mk hKy;have HYN:=ja.mk (HV.out.yr tn htn);have hyn:(Sd Y tn).length ≤ 1048576:=by have:=HYN.out;omega
         have t1:0 ≤ (tn:Int):=by omega
         have t2:(tn:Int) < (Ca.length:Int):=by omega
         have S6:=ja.mk (show TkS tn 0 Y X' i from fun u hu=>by omega);clear ht hCy hKy hfy;go_wp2;clear hcy hx t1 t2 r1 r2 J1
         go_loopg [60] (Sd Y tn).length (fun g5 v60 wr=>∃ (s:Nat) (mR:List (List Bool)),v60 = .int .i64 s∧s ≤ (Sd Y tn).length∧(Sd Y tn).length - s ≤ g5∧ja (M4 Ca n X Y i mR)∧ja (wU (Jr Ca i) j Y mR i)∧ja (TkS tn s Y mR i)∧ja (aq w (WD Wa Oa.length Ya Ja Fa n (some ag) Ca.length Cb) PB (.slice (some ⟨gX,0,none⟩) Ca.length cX) (.slice (some ⟨gY,0,none⟩) Ca.length cY) mR Y wr)∧ja (Kept ou wr PB)∧ja (∀ W,Kept wr W PB→Kd.C Kd.bool W Ay (Sd Y tn).length (Sd Y tn)))
         case atStart=>exact ⟨0,X',rfl,Nat.zero_le _,by omega,HR,HT,S6,HA,HK,kY⟩
         case round =>
          clear HR HT S6 HA HK kY;(try clear X);(try clear HR);(try clear HT);(try clear S6);(try clear HA);(try clear HK);(try clear kY);obtain ⟨s,mR,rfl,hs,hg5,HR,HT,S6,HA,HK,kY⟩:=hrel
          by_cases hst:s < (Sd Y tn).length
          ·have Lal:decide ((s:Int) < ((Sd Y tn).length:Int))=true:=decide_eq_true (by omega);have s1:0 ≤ (s:Int):=by omega
           have s2:(s:Int) < ((Sd Y tn).length:Int):=by omega
           have hxl:(Sd mR i).length=(Sd Y tn).length:=by rw [HYN.out,HR.out.inv.xr i hi]
           have s3:(s:Int) < ((Sd mR i).length:Int):=by omega
           have HXL:=ja.mk hxl;have i1:0 ≤ (i:Int):=by omega
           have i2:(i:Int) < (Ca.length:Int):=by omega
           obtain ⟨ay,e2,hy⟩:=xx (kY.out wr (Kept.refl _ _)) hst;subst e2;obtain ⟨gi,ci,K6,hce,hfz,hpg,hput⟩:=(HA.out.below (Rm (Below.refl wr.heap.size wr))).oal hi (show s < (Sd mR i).length by omega);have DX:wr.cell? ⟨gX,i,none⟩=some (.slice (some ⟨gi,0,none⟩) (Sd mR i).length ci):=K6;have EX:wr.cell? ⟨gi,s,none⟩=some (.bool (seen (Sd mR i) s)):=hce;obtain ⟨eo,J6,I6⟩:=HR.out.step HO.out.1 hi HTM.out HTN.out (by have:=HYN.out;omega) HT.out S6.out;have HPG:=ja.mk hpg;clear hxl hpg;cases hold:seen (Sd mR i) s with
           | true =>
            rw [hold,Bool.true_or] at eo J6 I6;rw [hold] at EX hce;have HP:=ja.mk (hput true);have Y4:=ja.mk (And.intro eo (And.intro J6 I6));have nR:=ja.mk (And.intro hce hfz);clear eo J6 I6 hput K6 hce hfz hold
            go_upto_region 20 with (fail)
            go_still_tail 16,(by kernel_rfl)
            have Rh:=ja.mk ((HK.out.drew).setCell (p:=⟨gi,s,none⟩) (Or.inl HPG.out) (.bool true));have XT:=ja.mk (Kd.XA kY.out (((Kept.refl wr PB).drew).setCell (p:=⟨gi,s,none⟩) (Or.inl HPG.out) (.bool true)));obtain ⟨hce,hfz⟩:=nR.out;have nR:=ja.mk hce;clear DX EX hy HA HK kY
            change wpList _ _ _ _ _ wr.drew
            generalize wr.drew=wd at HP Rh XT hce hfz ⊢;go_wp2
            go_roundg ((Sd Y tn).length - (s + 1))
            case measure=>omega
            case rel=>exact ⟨s + 1,_,by go_num,by omega,by omega,⟨Y4.out.1⟩,⟨Y4.out.2.1⟩,⟨Y4.out.2.2⟩,HP,Rh,XT⟩
           | false =>
            rw [hold,Bool.false_or] at eo J6 I6;rw [hold] at EX hce;have HP:=ja.mk (hput (seen (Sd Y tn) s));have Y4:=ja.mk (And.intro eo (And.intro J6 I6));have nR:=ja.mk (And.intro hce hfz);clear eo J6 I6 hput K6 hce hfz hold
            go_upto_region 20 with (fail)
            go_still_tail 16,(by kernel_rfl)
            have Rh:=ja.mk ((HK.out.drew).setCell (p:=⟨gi,s,none⟩) (Or.inl HPG.out) (.bool (seen (Sd Y tn) s)));have XT:=ja.mk (Kd.XA kY.out (((Kept.refl wr PB).drew).setCell (p:=⟨gi,s,none⟩) (Or.inl HPG.out) (.bool (seen (Sd Y tn) s))));obtain ⟨hce,hfz⟩:=nR.out;have nR:=ja.mk hce;clear DX EX hy HA HK kY
            change wpList _ _ _ _ _ wr.drew
            generalize wr.drew=wd at HP Rh XT hce hfz ⊢;go_wp2
            go_roundg ((Sd Y tn).length - (s + 1))
            case measure=>omega
            case rel=>exact ⟨s + 1,_,by go_num,by omega,by omega,⟨Y4.out.1⟩,⟨Y4.out.2.1⟩,⟨Y4.out.2.2⟩,HP,Rh,XT⟩
          ·have Lal:decide ((s:Int) < ((Sd Y tn).length:Int))=false:=decide_eq_false (by omega);have HTJ:=ja.mk (HT.out.next hjt HTN.out (by have h2:=S6.out;rwa [show s=(Sd Y tn).length by omega] at h2));go_wp2
           go_roundg ((Jr Ca i).length - (j + 1))
           case measure=>omega
           case rel=>exact ⟨j + 1,mR,by go_num,by omega,by omega,HR,HTJ,HA,HK⟩
        ·have J1:decide ((j:Int) < ((Jr Ca i).length:Int))=false:=decide_eq_false (by omega);have HTJ:=ja.mk (show wU (Jr Ca i) (Jr Ca i).length Y X' i by have h2:=HT.out;rwa [show j=(Jr Ca i).length by omega] at h2);obtain ⟨wk,rfl⟩:∃ wk,wk=wr:=⟨_,rfl⟩;have HQK:=ja.mk (wg GJ.out HK.out n5.out);have EZ:=ja.mk (Jc HQK.out);have F5:=ja.mk (HR.out.inv.xr i hi);obtain ⟨Ax,cx,K6,hCx,hlx⟩:=HA.out.ial hi;have wY:=ja.mk (qa (Below.refl wk.heap.size wk) (.cells #[] 4 (0,0)));have HCX:=ja.mk (Kd.Db hCx wY.out);have HEM:=ja.mk (wP Kd.bool 4 wk wk.heap.size (Nat.le_refl _));have HLN:=ja.mk (show (([]:List Bool).length + (Sd X' i).length) * 1 ≤ 140737488355328 from by have:=F5.out;simp;omega);have DX:=ud K6 (Kept.Cd wY.out (fun _=>False)) id;have i1:0 ≤ (i:Int):=by omega
         have i2:(i:Int) < (Ca.length:Int):=by omega
         clear hCx HK HNC HT GJ
         go_upto_region 24 with (first|((with_reducible refine qb (N:=88) rfl ?_);refine Kd.Fj Kd.bool (w0:=wk) wk.heap.size rfl (.tmp 83) (.tmp 87) 60 4 (.bool false) 1 rfl Try.underlying60 ow rfl (by decide) (by omega) (.slice (some ⟨wk.heap.size,0,none⟩) 0 0) [] (Sd X' i) Ax (Sd X' i).length cx (fun _=>True) (fun _=>False) rfl rfl HEM.out HCX.out (fun _ _ h=>h) (fun _ hk=>hk.elim) (fun _ _=>trivial) wY.out wY.out.size HLN.out ?_;intro v12 qu ho yA iR hat;rw [List.nil_append] at ho;obtain ⟨As,cs,rfl⟩:=Kd.ze ho;have eY:=ja.mk ho;have cR:=ja.mk yA;clear ho yA iR hat K6 DX))
         clear wY HCX HEM HLN hlx hjt J1 hj oV i1 i2;have BU:=ja.mk (vu HO.out hi);have bR:=ja.mk (Ta HQK.out cR.out);have h71:qu.cell? ⟨q7,1,none⟩=some (.int .i64 (Ea Ca (i:Int)).f1):=(ga bR.out 1).trans rfl
         by_cases CS:(Ea Ca (i:Int)).f1=0
         case' pos =>
          have H_:((Ea Ca (i:Int)).f1 == 0)=true:=beq_iff_eq.2 CS;have hfb:((Ea Ca (i:Int)).f1 != 0)=false:=by rw [CS];rfl
          have YQ:=ja.mk (show Kd.R Kd.bool 4 qu wk.heap.size (fun _=>True) (.slice As (Sd X' i).length cs) (Eh (Ea Ca (i:Int)) (Sd X' i)) from by rw [show Eh (Ea Ca (i:Int)) (Sd X' i)=Sd X' i from if_pos CS];exact eY.out);have dU:=cR;have TT:=bR
          go_upto_region 26 with (fail)
          clear h71 H_ hfb eY cR bR CS;generalize qu=Pu at YQ dU TT ⊢
         case' neg =>
          have H_:((Ea Ca (i:Int)).f1 == 0)=false:=beq_eq_false_iff_ne.2 CS;have hfb:((Ea Ca (i:Int)).f1 != 0)=true:=bne_iff_ne.2 CS;obtain ⟨f20,f21⟩:=BU.out.2.1 CS;obtain ⟨u,hu⟩:∃ u:Nat,(Ea Ca (i:Int)).f2=(u:Int):=⟨(Ea Ca (i:Int)).f2.toNat,(Int.toNat_of_nonneg f20).symm⟩;have hul:u < (Sd X' i).length:=by have:=F5.out;omega
          have Ial:(u:Int) < ((Sd X' i).length:Int):=by omega
          have hu0:0 ≤ (u:Int):=by omega
          have h72:qu.cell? ⟨q7,2,none⟩=some (.int .i64 (u:Int)):=by rw [← hu];exact (ga bR.out 2).trans rfl
          obtain ⟨gs,e3,hgs,hcs,hfs,hput⟩:=G4 eY.out hul;obtain ⟨hr,hg⟩:=hput true;have YQ:=ja.mk (show Kd.R Kd.bool 4 (qu.setCell ⟨gs,u,none⟩ (.bool true)) wk.heap.size (fun _=>True) (.slice As (Sd X' i).length cs) (Eh (Ea Ca (i:Int)) (Sd X' i)) from by rw [show Eh (Ea Ca (i:Int)) (Sd X' i)=(Sd X' i).set u true from by unfold Eh;rw [if_neg CS,hu,Int.toNat_natCast]];exact hr);have dU:=ja.mk (cR.out.grown hg cR.out.size (fun k e=>by injection e with e;omega));have TT:=ja.mk (Dd bR.out hg (fun e=>by injection e with e;have:=EZ.out;omega));subst e3;clear hr hg hput f20 f21 hu hul
          go_upto_region 26 with (fail)
          clear h71 h72 H_ hfb eY cR bR CS hcs hfs hgs Ial hu0;generalize qu.setCell ⟨gs,u,none⟩ (.bool true)=Pu at YQ dU TT ⊢;generalize (some ⟨gs,0,none⟩:Option Addr)=As at YQ ⊢
         all_goals
          have YD:Pu.cell? ⟨q7,0,none⟩=some (.slice Ac (Ea Ca (i:Int)).f0.length cc):=(ga TT.out 0).trans rfl;have Kw:(Ea Ca (i:Int)).f0.length ≤ 1048576:=BU.out.1;have lS:wrap64 (((Ea Ca (i:Int)).f0.length:Int) - 1)=((Ea Ca (i:Int)).f0.length:Int) - 1:=by unfold wrap64;omega
          have R4:=ja.mk lS;clear lS;go_wp2;clear YD
          go_loopg [13] (Ea Ca (i:Int)).f0.length (fun g6 o7 wr=>∃ (z:Int) (q:Nat),o7 = .int .i64 z∧z + 1=(q:Int)∧q ≤ (Ea Ca (i:Int)).f0.length∧q ≤ g6∧ja (Kd.R Kd.bool 4 wr wk.heap.size (fun _=>True) (.slice As (Sd X' i).length cs) (Zr (Ea Ca (i:Int)).f0 q (Eh (Ea Ca (i:Int)) (Sd X' i))))∧ja (Below wk.heap.size wk wr))
          case atStart=>exact ⟨((Ea Ca (i:Int)).f0.length:Int) - 1,(Ea Ca (i:Int)).f0.length,by first|rfl|(go_simp;done)|exact congrArg _ R4.out|go_num,by omega,Nat.le_refl _,Nat.le_refl _,⟨by rw [Ut];exact YQ.out⟩,dU⟩
          case round =>
           clear YQ dU TT;(try clear bM);(try clear eM);obtain ⟨z,q,rfl,hz6,hq6,hg6,bM,eM⟩:=hrel
           by_cases hz0:0 ≤ z
           ·obtain ⟨p,rfl⟩:∃ p:Nat,z=(p:Int):=⟨z.toNat,(Int.toNat_of_nonneg hz0).symm⟩;obtain rfl:q=p + 1:=by omega
            have hp:p < (Ea Ca (i:Int)).f0.length:=by omega
            have iS:decide ((p:Int) ≥ 0)=true:=decide_eq_true (by omega);have p1:0 ≤ (p:Int):=by omega
            have p2:(p:Int) < ((Ea Ca (i:Int)).f0.length:Int):=by omega
            have YD:wr.cell? ⟨q7,0,none⟩=some (.slice Ac (Ea Ca (i:Int)).f0.length cc):=(ga (Ta HQK.out eM.out) 0).trans rfl;obtain ⟨aI,e5,k0,k1,k2,k3,k4,k5,k6⟩:=Xn (Kd.Db LZ.out (Na HA.out.bl eM.out)) (p:Int) (by omega) (by omega);subst e5;simp only [Int.toNat_natCast] at k0 k1 k2 k3 k4 k5 k6;obtain ⟨kb,TY⟩:=Ev.rounds (SH (Zr (Ea Ca (i:Int)).f0 (p + 1) (Eh (Ea Ca (i:Int)) (Sd X' i))) (Ua (Ea Ca (i:Int)).f0 (p:Int)) (by rw [Qv,Uk,F5.out];exact YC BU.out hp));have Z6:=ja.mk TY;have hwp:wrap64 ((p:Int) - 1)=(p:Int) - 1:=by unfold wrap64;omega
            have R6:=ja.mk hwp;clear TY hwp hz0;go_wp2_with (first|(go_at_call 79;(with_reducible refine (Od.calls kb (fun _=>True) (.slice As (Sd X' i).length cs) (Zr (Ea Ca (i:Int)).f0 (p + 1) (Eh (Ea Ca (i:Int)) (Sd X' i))) (Ua (Ea Ca (i:Int)).f0 (p:Int)).f0 (Ua (Ea Ca (i:Int)).f0 (p:Int)).f1 (Ua (Ea Ca (i:Int)).f0 (p:Int)).f2 (Ua (Ea Ca (i:Int)).f0 (p:Int)).f3 (Ua (Ea Ca (i:Int)).f0 (p:Int)).f4 (Ua (Ea Ca (i:Int)).f0 (p:Int)).f5 (Ua (Ea Ca (i:Int)).f0 (p:Int)).f6 _ wk wr eM.out bM.out Z6.out).mono ?_);rintro e TP ⟨rfl,ho,hb,-⟩;have HS7:=ja.mk ho;have xY:=ja.mk hb;clear ho hb YD k0 k1 k2 k3 k4 k5 k6))
            go_roundg p
            case measure=>omega
            case rel=>exact ⟨(p:Int) - 1,p,by first|rfl|(go_simp;done)|exact congrArg _ R6.out|go_num,by omega,by omega,Nat.le_refl _,⟨by rw [Tp hp];exact Kd.Td HS7.out (fun _ _=>trivial)⟩,xY⟩
           ·have iS:decide (z ≥ 0)=false:=decide_eq_false (by omega);obtain rfl:q=0:=by omega
            have HSI:=ja.mk (show Kd.R Kd.bool 4 wr wk.heap.size (fun _=>True) (.slice As (Sd X' i).length cs) (RA (Ea Ca (i:Int)) (Sd X' i)) from bM.out);obtain ⟨Ay,cy,hcy,hfy,hly,hCy,-⟩:=(HA.out.below eM.out).NU hi;obtain ⟨HN1,HN2⟩:=HS.out.next HO.out hi HR.out HTJ.out;have HN1:=ja.mk HN1;have HN2:=ja.mk HN2;obtain ⟨ke,hke⟩:=Ev.rounds (R2 (RA (Ea Ca (i:Int)) (Sd X' i)) (Sd Y i) (by rw [lq,F5.out];omega));have hEQ:=Vb.calls ke As cs (RA (Ea Ca (i:Int)) (Sd X' i)) Ay cy (Sd Y i) _ wr (Kd.Wc HSI.out).2.2 (by have:=(Kd.Wc HSI.out).2.1;rw [lq];exact this) hCy hly hke;rw [lq] at hEQ;have nY:=ja.mk hEQ;have i1:0 ≤ (i:Int):=by omega
            have i2:(i:Int) < (Ca.length:Int):=by omega
            clear hEQ hke hCy hfy hly;cases a with
            | true =>
             go_upto_region 31 with (fail)
             clear hcy;have xY:=eM;have HP:=ja.mk (HA.out.M7 xY.out hi HSI.out);obtain ⟨Az,cz,hcz,hfz,-⟩:=(HA.out.below xY.out).NU hi;have hwi:wrap64 ((i:Int) - 1)=(i:Int) - 1:=by unfold wrap64;omega
             have HWI:=ja.mk hwi;have i1:0 ≤ (i:Int):=by omega
             have i2:(i:Int) < (Ca.length:Int):=by omega
             clear hwi;go_wp2
             go_roundg i
             case measure=>omega
             case rel=>exact ⟨(i:Int) - 1,i,X',_,_,by first|rfl|(rw [Bool.true_or]),by first|rfl|(go_simp;done)|exact congrArg _ HWI.out|go_num,by omega,by omega,Nat.le_refl _,HN1,HN2,HP⟩
            | false =>
             go_upto_region 31 with (first|(go_at_call 80;(with_reducible refine nY.out.mono ?_);rintro e EE ⟨rfl,hd⟩;have xad:=ja.mk hd.below;clear hd hcy))
             have xY:=ja.mk (Na eM.out xad.out);have HP:=ja.mk (HA.out.M7 xY.out hi (Kd.kf HSI.out xad.out));obtain ⟨Az,cz,hcz,hfz,-⟩:=(HA.out.below xY.out).NU hi;have hwi:wrap64 ((i:Int) - 1)=(i:Int) - 1:=by unfold wrap64;omega
             have HWI:=ja.mk hwi;have i1:0 ≤ (i:Int):=by omega
             have i2:(i:Int) < (Ca.length:Int):=by omega
             clear hwi;go_wp2
             go_roundg i
             case measure=>omega
             case rel=>exact ⟨(i:Int) - 1,i,X',_,_,by first|rfl|(rw [Bool.false_or]),by first|rfl|(go_simp;done)|exact congrArg _ HWI.out|go_num,by omega,by omega,Nat.le_refl _,HN1,HN2,HP⟩
      ·have iS:decide (z ≥ 0)=false:=decide_eq_false (by omega);obtain rfl:q=0:=by omega
       have h1:=HS.out.le;have h2:=HS.out.lt;have h3:=HV.out.cnt
       have HM:=ja.mk (show n * Ca.length - Rp Y + (if a=true then 1 else 0) < n * Ca.length - C + 1 from by
        cases a with
        | false=>rw [if_neg (by simp)];omega
        | true=>have:=h2 rfl;rw [if_pos rfl];omega)
       clear h1 h2 h3;go_wp2
       go_roundg (n * Ca.length - Rp Y + (if a=true then 1 else 0))
       case measure=>have:=HM.out;omega
       case rel=>exact ⟨X,Y,a,rfl,Nat.le_refl _,HV,⟨fun e i hi=>HS.out.so e i (Nat.zero_le _) hi⟩,HA⟩
def Sq (n:Nat) (T:List (List Bool)):Prop:=T.length=n∧∀ i,i < n→(Sd T i).length=n
def QI (T:List (List Bool)) (a b:Nat):List (List Bool):=T.set a ((Sd T a).set b true)
def PA (T:List (List Bool)) (a b:Nat):List (List Bool):=if a=b then T else QI (QI T a b) b a
structure CJ (n:Nat) (T:List (List Bool)) (P:Nat→Nat→Prop):Prop where
 sq:Sq n T
 so:∀ i j,i < n→j < n→(seen (Sd T i) j=true ↔ i ≠ j∧(P i j ∨ P j i))
section
variable {n a b:Nat} {T U:List (List Bool)} {P Q:Nat→Nat→Prop}
theorem Sq.put (h:Sq n T) (ha:a < n) (b:Nat):Sq n (QI T a b):=by
 refine ⟨by unfold QI;rw [List.length_set];exact h.1,fun i hi=>?_⟩;unfold QI;rw [Sn (by rw [h.1];exact ha)]
 by_cases e:a=i
 ·rw [if_pos e,List.length_set];exact h.2 a ha
 ·rw [if_neg e];exact h.2 i hi
theorem ME (h:Sq n T) (ha:a < n) (hb:b < n) (i j:Nat):seen (Sd (QI T a b) i) j=true ↔ seen (Sd T i) j=true ∨ (a=i∧b=j):=by
 unfold QI;rw [Sn (by rw [h.1];exact ha)]
 by_cases e:a=i
 ·subst e;rw [if_pos rfl,Ti (by rw [h.2 a ha];exact hb)]
  by_cases e2:b=j
  ·rw [if_pos e2];exact ⟨fun _=>Or.inr ⟨rfl,e2⟩,fun _=>rfl⟩
  ·rw [if_neg e2];exact ⟨Or.inl,fun h=>h.resolve_right (fun h=>e2 h.2)⟩
 ·rw [if_neg e];exact ⟨Or.inl,fun h=>h.resolve_right (fun h=>e h.1)⟩
theorem Sq.meet (h:Sq n T) (ha:a < n) (hb:b < n):Sq n (PA T a b):=by
 unfold PA
 by_cases e:a=b
 ·rw [if_pos e];exact h
 ·rw [if_neg e];exact (h.put ha b).put hb a
theorem CJ.Qp (h:CJ n T P) (hp:∀ i j,P i j ↔ Q i j):CJ n T Q:=⟨h.sq,fun i j hi hj=>by rw [h.so i j hi hj,hp,hp]⟩
theorem CJ.meet (h:CJ n T P) (ha:a < n) (hb:b < n):CJ n (PA T a b) (fun i j=>P i j ∨ (i=a∧j=b)):=by
 refine ⟨h.sq.meet ha hb,fun i j hi hj=>?_⟩;unfold PA
 by_cases e:a=b
 ·rw [if_pos e,h.so i j hi hj]
  constructor
  ·rintro ⟨h1,h2⟩;exact ⟨h1,h2.imp Or.inl Or.inl⟩
  ·rintro ⟨h1,h2⟩;refine ⟨h1,?_⟩
   rcases h2 with (h2|⟨h3,h4⟩)|(h2|⟨h3,h4⟩)
   ·exact Or.inl h2
   ·exact absurd (h3.trans (e.trans h4.symm)) h1
   ·exact Or.inr h2
   ·exact absurd (h4.trans (e.symm.trans h3.symm)) h1
 ·rw [if_neg e,ME (h.sq.put ha b) hb ha,ME h.sq ha hb,h.so i j hi hj]
  constructor
  ·rintro ((⟨h1,h2⟩|⟨rfl,rfl⟩)|⟨rfl,rfl⟩)
   ·exact ⟨h1,h2.imp Or.inl Or.inl⟩
   ·exact ⟨e,Or.inl (Or.inr ⟨rfl,rfl⟩)⟩
   ·exact ⟨fun h=>e h.symm,Or.inr (Or.inr ⟨rfl,rfl⟩)⟩
  ·rintro ⟨h1,(h2|⟨rfl,rfl⟩)|(h2|⟨rfl,rfl⟩)⟩
   ·exact Or.inl (Or.inl ⟨h1,Or.inl h2⟩)
   ·exact Or.inl (Or.inr ⟨rfl,rfl⟩)
   ·exact Or.inl (Or.inl ⟨h1,Or.inr h2⟩)
   ·exact Or.inr ⟨rfl,rfl⟩
theorem CJ.ext (h:CJ n T P) (h2:CJ n U Q) (hp:∀ i j,i ≠ j→((P i j ∨ P j i) ↔ (Q i j ∨ Q j i))):T=U:=by
 apply List.ext_getElem
 ·rw [h.sq.1,h2.sq.1]
 ·intro i h1 h3;have e1:T[i]=Sd T i:=by simp [Sd,List.getD_eq_getElem?_getD,h1]
  have e2:U[i]=Sd U i:=by simp [Sd,List.getD_eq_getElem?_getD,h3]
  rw [e1,e2];have hi:i < n:=by rw [← h.sq.1];exact h1
  have l1:=h.sq.2 i hi;have l2:=h2.sq.2 i hi;refine PC (by rw [l1,l2]) (fun j=>?_)
  constructor
  ·intro hs;have hj:j < n:=by have:=Zk hs;omega
   have ⟨x,y⟩:=(h.so i j hi hj).1 hs;exact (h2.so i j hi hj).2 ⟨x,(hp i j x).1 y⟩
  ·intro hs;have hj:j < n:=by have:=Zk hs;omega
   have ⟨x,y⟩:=(h2.so i j hi hj).1 hs;exact (h.so i j hi hj).2 ⟨x,(hp i j x).2 y⟩
theorem AR {n m i:Nat} (hi:i < m):Sd (List.replicate m (List.replicate n false)) i=List.replicate n false:=by
 unfold Sd;rw [List.getD_eq_getElem?_getD,List.getElem?_replicate,if_pos hi];rfl
theorem CJ.start (n:Nat):CJ n (List.replicate n (List.replicate n false)) (fun _ _=>False) :=
 ⟨⟨by simp,fun i hi=>by rw [AR hi];simp⟩,fun i j hi _=>by
  rw [AR hi,Uz]
  exact ⟨fun h=>(by cases h),fun h=>h.2.elim False.elim False.elim⟩⟩
end
def yg (P:Nat→Nat→Prop) (x:lg) (s:List Bool):Nat→Nat→Prop:=fun i j=>P i j ∨ (iq x ≥ 0∧i=(iq x).toNat∧seen s j=true)
def vM:Nat→Nat→Prop:=fun _ _=>False
theorem cF (l:List lg):∀ (s:List Bool) (P:Nat→Nat→Prop) (a b:Nat),Pp yg l s P a b ↔ P a b ∨ Pp yg l s vM a b:=by
 induction l with
 | nil=>intro s P a b;exact ⟨Or.inl,fun h=>h.elim id False.elim⟩
 | cons x r ih =>
  intro s P a b
  show Pp yg r (Em s x) (yg P x s) a b ↔ P a b ∨ Pp yg r (Em s x) (yg vM x s) a b
  rw [ih _ (yg P x s),ih _ (yg vM x s)];unfold yg vM
  constructor
  ·rintro ((h|h)|h)
   ·exact Or.inl h
   ·exact Or.inr (Or.inl (Or.inr h))
   ·exact Or.inr (Or.inr h)
  ·rintro (h|(h|h)|h)
   ·exact Or.inl (Or.inl h)
   ·exact h.elim
   ·exact Or.inl (Or.inr h)
   ·exact Or.inr h
theorem UH (bs:List Ke) (X:List (List Bool)):∀ (d i:Nat) (P E:Nat→Nat→Prop) (a b:Nat),i + d=bs.length→(Eg yg bs X i (fun i j=>P i j ∨ E i j) a b ↔ Eg yg bs X i P a b ∨ E a b):=by
 intro d
 induction d with
 | zero =>
  intro i P E a b hi;obtain rfl:i=bs.length:=by omega
  rw [Po,Po]
 | succ d ih =>
  intro i P E a b hi;have M8:i < bs.length:=by omega
  rw [qn yg M8,qn yg M8]
  have he:tw yg bs X (fun i j=>P i j ∨ E i j) i=fun a b=>tw yg bs X P i a b ∨ E a b:=by
   funext a b
   unfold tw;rw [cF _ _ (fun i j=>P i j ∨ E i j),cF _ _ P];exact propext ⟨fun h=>h.elim (fun h=>h.elim (fun h=>Or.inl (Or.inl h)) Or.inr) (fun h=>Or.inl (Or.inr h)),fun h=>h.elim (fun h=>h.elim (fun h=>Or.inl (Or.inl h)) Or.inr) (fun h=>Or.inl (Or.inr h))⟩
  rw [he];exact ih (i + 1) _ E a b (by omega)
noncomputable def fD (bs:List Ke) (n:Nat):List Bool:=RA (Ea bs ((0:Nat):Int)) (Sl bs n 0)
noncomputable def XC (bs:List Ke) (n:Nat):Nat→Nat→Prop:=fun a b=>Eg yg bs (De bs n) 0 vM a b ∨ (seen (fD bs n) a=true∧seen (fD bs n) b=true)
noncomputable def Rl (bs:List Ke) (n:Nat):List (List Bool):=open Classical in (List.range n).map fun i=>(List.range n).map fun j=>decide (i ≠ j∧(XC bs n i j ∨ XC bs n j i))
theorem SE (bs:List Ke) (n:Nat):(Rl bs n).length=n:=by simp [Rl]
theorem bp (bs:List Ke) (n:Nat):CJ n (Rl bs n) (XC bs n):=by
 have hr:∀ i,i < n→Sd (Rl bs n) i=(open Classical in (List.range n).map fun j=>decide (i ≠ j∧(XC bs n i j ∨ XC bs n j i))):=fun i hi=>by
  unfold Sd Rl;rw [List.getD_eq_getElem?_getD];simp [hi]
 refine ⟨⟨SE bs n,fun i hi=>by rw [hr i hi];simp⟩,fun i j hi hj=>?_⟩;rw [hr i hi];simp [seen,List.getD_eq_getElem?_getD,hj]
theorem kQ {bs:List Ke} {n i:Nat} (hi:i < n):(Sd (Rl bs n) i).length=n:=(bp bs n).sq.2 i hi
theorem jQ {bs:List Ke} {n i j:Nat} (hi:i < n) (hj:j < n):seen (Sd (Rl bs n) i) j=seen (Sd (Rl bs n) j) i:=by
 rw [Bool.eq_iff_iff,(bp bs n).so i j hi hj,(bp bs n).so j i hj hi];exact ⟨fun h=>⟨fun e=>h.1 e.symm,h.2.symm⟩,fun h=>⟨fun e=>h.1 e.symm,h.2.symm⟩⟩
theorem lQ {bs:List Ke} {n i:Nat} (hi:i < n):seen (Sd (Rl bs n) i) i=false:=by
 cases h:seen (Sd (Rl bs n) i) i with
 | false=>rfl
 | true=>exact absurd rfl (((bp bs n).so i i hi hi).1 h).1
end Go.Proofs.Ytkigbdceceeenaa.P
end
section
namespace Go.Proofs.Ytkigbdceceeenaa.P
open Go.RowKit Go.Proofs.Pa.Xb Go.Proofs.Pa.Pd Go.Proofs.Pa.Oe
set_option linter.unusedVariables false
set_option linter.unusedSimpArgs false
theorem qF {W:World} {base g c n a b:Nat} {PB:Nat→Prop} {T:List (List Bool)} (h:Kd.S (Kd.slice 4 Kd.bool) 60 W base PB (.slice (some ⟨g,0,none⟩) n c) T) (hq:Sq n T) (ha:a < n) (hb:b < n) :
  ∃ (gi c2:Nat) (v:Bool),W.cell? ⟨g,a,none⟩=some (.slice (some ⟨gi,0,none⟩) n c2)∧W.cell? ⟨gi,b,none⟩=some (.bool v)∧W.frozen? ⟨gi,b,none⟩=false ∧
   Kd.S (Kd.slice 4 Kd.bool) 60 (W.setCell ⟨gi,b,none⟩ (.bool true)) base PB (.slice (some ⟨g,0,none⟩) n c) (QI T a b)∧Kept W (W.setCell ⟨gi,b,none⟩ (.bool true)) PB∧Below 0 W (W.setCell ⟨gi,b,none⟩ (.bool true)):=by
 have hl:=hq.2 a ha;obtain ⟨gi,c2,h1,h2,h3,h4,h5⟩:=zT false h ha (show b < (T.getD a []).length from by rw [show T.getD a []=Sd T a from rfl,hl];exact hb);rw [show (T.getD a []).length=n from hl] at h1;exact ⟨gi,c2,_,h1,h3,h4,(h5 true).1,(Kept.refl W PB).setCell (p:=⟨gi,b,none⟩) (Or.inl h2) (.bool true),(Below.refl 0 W).setCell (Nat.zero_le _) _⟩
theorem rF (base n a b:Nat) (PB:Nat→Prop) (v:Value) (T:List (List Bool)) (w:World) (h:Kd.S (Kd.slice 4 Kd.bool) 60 w base PB v T) (hq:Sq n T) (ha:a < n) (hb:b < n) (hn:n ≤ 1048576) :
  Calls Try.prog 84 #[v,.int .i64 (a:Int),.int .i64 (b:Int)] w fun e w'=>e = .returned (.tuple #[])∧Kd.S (Kd.slice 4 Kd.bool) 60 w' base PB v (PA T a b)∧Kept w w' PB∧Below 0 w w':=by
 obtain ⟨g,c,rfl,-⟩:=Kd.ID h (by rw [hq.1];omega);rw [hq.1] at h ⊢;have HH:=ja.mk h;unfold PA
 by_cases e:a=b
 ·subst e;rw [if_pos rfl];clear h;go_enter Try.func84,Try.ntmps84;go_wp2;refine bodyPost_end (v:=.tuple #[]) ?_ rfl ?_
  ·exact results_none rfl _ _ _
  exact ⟨rfl,HH.out,Kept.refl _ _,Below.refl _ _⟩
 ·rw [if_neg e];have HQ:=ja.mk hq;have hne:¬ ((a:Int)=(b:Int)):=by omega
  have a1:0 ≤ (a:Int):=by omega
  have a2:(a:Int) < (n:Int):=by omega
  have b1:0 ≤ (b:Int):=by omega
  have b2:(b:Int) < (n:Int):=by omega
  obtain ⟨gi,c2,z,p1,p2,hfz,p4,p5,p6⟩:=qF h hq ha hb;have H4:=ja.mk p4;have H5:=ja.mk p5;have H6:=ja.mk p6;clear h hq p4 p5 p6;go_enter Try.func84,Try.ntmps84
  go_upto_region 2 with (fail)
  clear p1 p2 hfz;generalize w.setCell ⟨gi,b,none⟩ (.bool true)=w1 at H4 H5 H6 ⊢;obtain ⟨gj,c3,z2,p1,p2,hfz,p4,p5,p6⟩:=qF H4.out (HQ.out.put ha b) hb ha;have H7:=ja.mk p4;have H8:=ja.mk (H5.out.bu p5 (fun _ h=>Or.inl h));have H9:=ja.mk (H6.out.trans p6);clear p4 p5 p6 H4 H5 H6;go_wp2;refine bodyPost_end (v:=.tuple #[]) ?_ rfl ?_
  ·exact results_none rfl _ _ _
  exact ⟨rfl,H7.out,H8.out,H9.out⟩
theorem BF (base n a b q:Nat) (PB:Nat→Prop) (v:Value) (T:List (List Bool)) (w:World) (hx:w.heap[q]? = some (.cells #[v] 55 (0,0))) (hpq:¬ PB q) (h:Kd.S (Kd.slice 4 Kd.bool) 60 w base PB v T) (hq:Sq n T) (ha:a < n) (hb:b < n) (hn:n ≤ 1048576) :
  Calls Try.prog 85 #[.int .i64 (a:Int),.int .i64 (b:Int),.pointer (some ⟨q,0,none⟩)] w fun e w'=>e = .returned (.tuple #[])∧Kd.S (Kd.slice 4 Kd.bool) 60 w' base PB v (PA T a b)∧Kept w w' PB∧Below 0 w w':=by
 obtain ⟨g,c,rfl,-⟩:=Kd.ID h (by rw [hq.1];omega);rw [hq.1] at h hx ⊢;have HH:=ja.mk h;unfold PA
 by_cases e:a=b
 ·subst e;rw [if_pos rfl];clear h;go_enter Try.func85,Try.ntmps85;go_wp2;refine bodyPost_end (v:=.tuple #[]) ?_ rfl ?_
  ·exact results_none rfl _ _ _
  exact ⟨rfl,HH.out,Kept.refl _ _,Below.refl _ _⟩
 ·rw [if_neg e];have HQ:=ja.mk hq;have hne:¬ ((a:Int)=(b:Int)):=by omega
  have a1:0 ≤ (a:Int):=by omega
  have a2:(a:Int) < (n:Int):=by omega
  have b1:0 ≤ (b:Int):=by omega
  have b2:(b:Int) < (n:Int):=by omega
  obtain ⟨gi,c2,z,p1,p2,hfz,p4,p5,p6⟩:=qF h hq ha hb;have hx0:w.cell? ⟨q,0,none⟩=some (.slice (some ⟨g,0,none⟩) n c):=(ga hx 0).trans rfl;have HX:=ja.mk (wg hx p5 hpq);have H4:=ja.mk p4;have H5:=ja.mk p5;have H6:=ja.mk p6;clear h hq p4 p5 p6 hx;go_enter Try.func85,Try.ntmps85
  go_upto_region 2 with (fail)
  clear p1 p2 hfz hx0;generalize w.setCell ⟨gi,b,none⟩ (.bool true)=w1 at H4 H5 H6 HX ⊢;obtain ⟨gj,c3,z2,p1,p2,hfz,p4,p5,p6⟩:=qF H4.out (HQ.out.put ha b) hb ha;have hx0:w1.cell? ⟨q,0,none⟩=some (.slice (some ⟨g,0,none⟩) n c):=(ga HX.out 0).trans rfl;have H7:=ja.mk p4;have H8:=ja.mk (H5.out.bu p5 (fun _ h=>Or.inl h));have H9:=ja.mk (H6.out.trans p6);clear p4 p5 p6 H4 H5 H6;go_wp2;refine bodyPost_end (v:=.tuple #[]) ?_ rfl ?_
  ·exact results_none rfl _ _ _
  exact ⟨rfl,H7.out,H8.out,H9.out⟩
structure aK (base n q qf:Nat) (PB:Nat→Prop) (v:Value) (P:Nat→Nat→Prop) (W:World):Prop where
 hf:W.heap[qf]? = some (.cells #[.func (.func 85) #[] #[.pointer (some ⟨q,0,none⟩)]] 101 (0,0))
 hx:W.heap[q]? = some (.cells #[v] 55 (0,0))
 pf:¬ PB qf
 pq:¬ PB q
 t:∃ T,Kd.S (Kd.slice 4 Kd.bool) 60 W base PB v T∧CJ n T P
def jq (P:Nat→Nat→Prop) (x:lg) (s:List Bool) (u:Nat):Nat→Nat→Prop:=fun i j=>P i j ∨ (iq x ≥ 0∧i=(iq x).toNat∧j < u∧seen s j=true)
theorem HY {n:Nat} {x:lg} (hx:yu n x) (h:iq x ≥ 0):(iq x).toNat < n:=by
 have h2:=hx.2;unfold iq at h ⊢
 by_cases h4:x.f0=4
 ·rw [if_pos h4] at h;omega
 ·rw [if_neg h4] at h ⊢
  by_cases h6:x.f0=6
  ·rw [if_pos h6] at h;omega
  ·rw [if_neg h6];have:=h2 h4 h6;omega
theorem UR (x:lg):Ji.f x.f0 x.f1 x.f2 x.f3 x.f4 x.f5 x.f6=some (iq x):=by
 unfold Ji.f iq
 by_cases h4:x.f0=4
 ·rw [if_pos h4,if_pos h4]
 ·rw [if_neg h4,if_neg h4]
  by_cases h6:x.f0=6
  ·rw [if_pos h6,if_pos h6]
  ·rw [if_neg h6,if_neg h6]
theorem aK.below {base n q qf:Nat} {PB:Nat→Prop} {v:Value} {P:Nat→Nat→Prop} {W W':World} (h:aK base n q qf PB v P W) (hb:Below W.heap.size W W'):aK base n q qf PB v P W':=by
 obtain ⟨T,h1,h2⟩:=h.t;exact ⟨Ta h.hf hb,Ta h.hx hb,h.pf,h.pq,T,Kd.Nf h1 hb,h2⟩
theorem aK.Qp {base n q qf:Nat} {PB:Nat→Prop} {v:Value} {P Q:Nat→Nat→Prop} {W:World} (h:aK base n q qf PB v P W) (hp:∀ i j,P i j ↔ Q i j):aK base n q qf PB v Q W:=by
 obtain ⟨T,h1,h2⟩:=h.t;exact ⟨h.hf,h.hx,h.pf,h.pq,T,h1,h2.Qp hp⟩
theorem aK.call {base n q qf a b:Nat} {PB:Nat→Prop} {v:Value} {P:Nat→Nat→Prop} {W:World} (h:aK base n q qf PB v P W) (ha:a < n) (hb:b < n) (hn:n ≤ 1048576) :
  Calls Try.prog 85 #[.int .i64 (a:Int),.int .i64 (b:Int),.pointer (some ⟨q,0,none⟩)] W fun e w'=>e = .returned (.tuple #[])∧aK base n q qf PB v (fun i j=>P i j ∨ (i=a∧j=b)) w'∧Kept W w' PB∧Below 0 W w':=by
 obtain ⟨T,h1,h2⟩:=h.t;refine (BF base n a b q PB v T W h.hx h.pq h1 h2.sq ha hb hn).mono ?_;rintro e w' ⟨e1,e2,e3,e4⟩;exact ⟨e1,⟨wg h.hf e3 h.pf,wg h.hx e3 h.pq,h.pf,h.pq,_,e2,h2.meet ha hb⟩,e3,e4⟩
theorem yF (base n q qf:Nat) (PB:Nat→Prop) (v:Value) (P:Nat→Nat→Prop) (x:lg) (A:Option Addr) (c:Nat) (s:List Bool) (w:World)
  (hI:aK base n q qf PB v P w) (hpb:∀ k,PB k→k < w.heap.size) (hi:yu n x) (hs:s.length=n) (hn:n ≤ 1048576) (hC:∀ W',Kept w W' PB→Kd.C Kd.bool W' A s.length s) (hc:s.length ≤ c) :
  Calls Try.prog 86 #[.agg #[.int .i64 x.f0,.int .i64 x.f1,.int .i64 x.f2,.int .i64 x.f3,.int .i64 x.f4,.int .i64 x.f5,.string x.f6],.slice A s.length c,.pointer (some ⟨qf,0,none⟩)] w fun e w'=>e = .returned (.tuple #[])∧aK base n q qf PB v (yg P x s) w'∧Kept w w' PB∧Below 0 w w':=by
 subst hs;have HC:=ja.mk hC;have LZ:=ja.mk hc;have mY:=ja.mk hi;have UT:=ja.mk hpb;have HB1:=ja.mk (qa (Below.refl w.heap.size w) (.cells #[.int .i64 x.f0,.int .i64 x.f1,.int .i64 x.f2,.int .i64 x.f3,.int .i64 x.f4,.int .i64 x.f5,.string x.f6] 65 (0,0)));have HX1:=ja.mk (Dm w (.cells #[.int .i64 x.f0,.int .i64 x.f1,.int .i64 x.f2,.int .i64 x.f3,.int .i64 x.f4,.int .i64 x.f5,.string x.f6] 65 (0,0)));have M5:=ja.mk ((hI.below HB1.out).Qp (Q:=jq P x s 0) (fun i j=>Iff.intro Or.inl (fun h=>h.elim id (fun h=>absurd h.2.2.1 (Nat.not_lt_zero _)))));have eg:∀ args w,(callFunc 85 args).run Try.prog w = .ok (.enter 85 args) w:=enters_of Try.func85 (by kernel_rfl) rfl;clear hC hc hi hpb hI;go_enter Try.func86,Try.ntmps86
 go_upto_region 1 with (fail)
 generalize w.alloc (.cells #[.int .i64 x.f0,.int .i64 x.f1,.int .i64 x.f2,.int .i64 x.f3,.int .i64 x.f4,.int .i64 x.f5,.string x.f6] 65 (0,0))=w1 at HB1 HX1 M5 ⊢;have Rh:=ja.mk (Kept.Cd HB1.out PB);have HZ1:=ja.mk (Vp HB1.out);clear HB1;go_wp2
 go_loopg [10] s.length (fun g v10 wr=>∃ (i:Nat),v10 = .int .i64 i∧i ≤ s.length∧s.length - i ≤ g∧ja (aK base s.length q qf PB v (jq P x s i) wr)∧ja (Kept w wr PB)∧ja (Below 0 w wr)∧ja (wr.heap[w.heap.size]? = some (.cells #[.int .i64 x.f0,.int .i64 x.f1,.int .i64 x.f2,.int .i64 x.f3,.int .i64 x.f4,.int .i64 x.f5,.string x.f6] 65 (0,0))))
 case atStart=>exact ⟨0,rfl,Nat.zero_le _,by omega,M5,Rh,HZ1,HX1⟩
 case round =>
  clear M5 Rh HZ1 HX1;(try clear HI);(try clear HK);(try clear HZ);(try clear HX);obtain ⟨i,rfl,hi,hg,HI,HK,HZ,HX⟩:=hrel
  by_cases hlt:i < s.length
  ·have Zv:decide ((i:Int) < (s.length:Int))=true:=decide_eq_true (by omega);have i1:0 ≤ (i:Int):=by omega
   have i2:(i:Int) < (s.length:Int):=by omega
   obtain ⟨ad,e1,Dl⟩:=xx (HC.out wr HK.out) hlt;subst e1;have hx0:wr.cell? ⟨w.heap.size,0,none⟩=some (.int .i64 x.f0):=(ga HX.out 0).trans rfl;have hx1:wr.cell? ⟨w.heap.size,1,none⟩=some (.int .i64 x.f1):=(ga HX.out 1).trans rfl;have Xw:wr.cell? ⟨w.heap.size,2,none⟩=some (.int .i64 x.f2):=(ga HX.out 2).trans rfl;have Lr:wr.cell? ⟨w.heap.size,3,none⟩=some (.int .i64 x.f3):=(ga HX.out 3).trans rfl;have Hs:wr.cell? ⟨w.heap.size,4,none⟩=some (.int .i64 x.f4):=(ga HX.out 4).trans rfl;have CM:wr.cell? ⟨w.heap.size,5,none⟩=some (.int .i64 x.f5):=(ga HX.out 5).trans rfl;have BM:wr.cell? ⟨w.heap.size,6,none⟩=some (.string x.f6):=(ga HX.out 6).trans rfl;have X6:=ja.mk (UR x)
   go_upto_region 5 with (first|(go_at_call 87;(with_reducible refine (Ji.calls x.f0 x.f1 x.f2 x.f3 x.f4 x.f5 x.f6 (iq x) wr X6.out).mono ?_);rintro e w2 ⟨rfl,hb⟩;have Nz:=ja.mk hb;clear hb hx0 hx1 Xw Lr Hs CM BM Dl))
   have HI2:=ja.mk (HI.out.below Nz.out);have Xo:=ja.mk (HK.out.below Nz.out);have HZ2:=ja.mk (HZ.out.trans (Vp Nz.out));have HX2:=ja.mk (Ta HX.out Nz.out);clear HI HK HZ HX Nz i1 i2 Zv
   by_cases yI:seen s i=true∧iq x ≥ 0
   ·obtain ⟨TM,hm⟩:=yI;obtain ⟨D,hD⟩:∃ D:Nat,iq x=(D:Int):=⟨(iq x).toNat,(Int.toNat_of_nonneg hm).symm⟩;have hDn:D < s.length:=by have:=HY mY.out hm;omega
    have HDD:=ja.mk hD;rw [hD];rw [TM];have hd0:decide ((D:Int) ≥ 0)=true:=decide_eq_true (by omega);have I_:w2.cell? ⟨qf,0,none⟩=some (.func (.func 85) #[] #[.pointer (some ⟨q,0,none⟩)]):=(ga HI2.out.hf 0).trans rfl;have KZ:=ja.mk (HI2.out.call hDn hlt hn);have U6:=ja.mk TM;clear hm hD TM;go_wp2_with (go_at_fn 85;refine KZ.out.mono ?_;rintro e w3 ⟨rfl,h1,h2,h3⟩;have HI3:=ja.mk h1;have Es:=ja.mk (Xo.out.bu h2 (fun _ h=>Or.inl h));have HZ3:=ja.mk (HZ2.out.trans h3);have HX3:=ja.mk (wg HX2.out h2 (fun e=>by have:=UT.out _ e;omega));clear h1 h2 h3 I_)
    have dM:=ja.mk (HI3.out.Qp (Q:=jq P x s (i + 1)) (fun a b=>by
     unfold jq;have h1:=HDD.out
     constructor
     ·rintro ((h|⟨h2,h3,h4,h5⟩)|⟨rfl,rfl⟩)
      ·exact Or.inl h
      ·exact Or.inr ⟨h2,h3,by omega,h5⟩
      ·exact Or.inr ⟨by omega,by omega,by omega,U6.out⟩
     ·rintro (h|⟨h2,h3,h4,h5⟩)
      ·exact Or.inl (Or.inl h)
      ·by_cases e:b=i
       ·exact Or.inr ⟨by omega,e⟩
       ·exact Or.inl (Or.inr ⟨h2,h3,by omega,h5⟩)))
    go_roundg (s.length - (i + 1))
    case measure=>omega
    case rel=>exact ⟨i + 1,by go_num,by omega,by omega,dM,Es,HZ3,HX3⟩
   ·have dM:=ja.mk (HI2.out.Qp (Q:=jq P x s (i + 1)) (fun a b=>by
     unfold jq
     constructor
     ·rintro (h|⟨h2,h3,h4,h5⟩)
      ·exact Or.inl h
      ·exact Or.inr ⟨h2,h3,by omega,h5⟩
     ·rintro (h|⟨h2,h3,h4,h5⟩)
      ·exact Or.inl h
      ·by_cases e:b=i
       ·subst e;exact absurd ⟨h5,h2⟩ yI
       ·exact Or.inr ⟨h2,h3,by omega,h5⟩))
    have HGO:=ja.mk yI;clear yI HI2;cases TM:seen s i with
    | false =>
     clear TM;go_wp2
     go_roundg (s.length - (i + 1))
     case measure=>omega
     case rel=>exact ⟨i + 1,by go_num,by omega,by omega,dM,Xo,HZ2,HX2⟩
    | true =>
     have hd0:decide (iq x ≥ 0)=false:=decide_eq_false (fun h=>HGO.out ⟨TM,h⟩);clear TM;go_wp2
     go_roundg (s.length - (i + 1))
     case measure=>omega
     case rel=>exact ⟨i + 1,by go_num,by omega,by omega,dM,Xo,HZ2,HX2⟩
  ·have Zv:decide ((i:Int) < (s.length:Int))=false:=decide_eq_false (by omega)
   have dM:=ja.mk (HI.out.Qp (Q:=yg P x s) (fun a b=>by
    unfold jq yg
    constructor
    ·rintro (h|⟨h2,h3,h4,h5⟩)
     ·exact Or.inl h
     ·exact Or.inr ⟨h2,h3,h5⟩
    ·rintro (h|⟨h2,h3,h5⟩)
     ·exact Or.inl h
     ·exact Or.inr ⟨h2,h3,by have:=Zk h5;omega,h5⟩))
   go_wp2;refine bodyPost_end (v:=.tuple #[]) ?_ rfl ?_
   ·exact results_none rfl _ _ _
   exact ⟨rfl,dM.out,HK.out,HZ.out⟩
attribute [local go_sem] Bi Jj
theorem qx {bs:List (Ke)} {n i:Nat} (hi:i < bs.length):Sd (De bs n) i=Sl bs n i:=by
 unfold Sd De;rw [List.getD_eq_getElem?_getD];simp [hi]
theorem zR (P:Program) (w:World) (a:Addr) (m:Mode) (fn:Fn) (x y:Array Value):(store a (.func fn x y) m).run P w=stored P w a (.func fn x y) m:=run_store P w a _ m rfl
attribute [local go_sem] zR
noncomputable def Ii.f (Oa:List Int) (Ja:Int) (Fa:Int) (Ia:Int) (Ca:List (Ke)):Option (List (List Bool)):=open Classical in if 0 ≤ Ia∧Zn Ca Ia.toNat then some (Rl Ca Ia.toNat) else none
theorem Vt {N:Nat} {w w5 w9:World} {S:Nat→Prop} (h:Below N w w5) (hN:N ≤ w5.heap.size) (hk:Kept w5 w9 S) (hS:∀ k,S k→N ≤ k) (hb:Below 0 w5 w9):Below N w w9 :=
 h.trans ⟨hb.os,hb.tape,hb.output,hk.1,fun k h1=>hk.2 k (by omega) (fun e=>by have:=hS k e;omega)⟩
theorem RE {s:List Bool} {a:Nat}:(a:Int) ∈ Ql s s.length ↔ seen s a=true:=by
 unfold Ql;rw [List.mem_map]
 constructor
 ·rintro ⟨u,hu,he⟩;obtain rfl:u=a:=by omega
  exact (List.mem_filter.1 hu).2
 ·intro h;exact ⟨a,List.mem_filter.2 ⟨List.mem_range.2 (Zk h),h⟩,rfl⟩
theorem iQ {s:List Bool} {z:Int} (h:z ∈ Ql s s.length):∃ a:Nat,z=(a:Int)∧a < s.length:=by
 unfold Ql at h;obtain ⟨u,hu,he⟩:=List.mem_map.1 h;exact ⟨u,he.symm,List.mem_range.1 (List.mem_filter.1 hu).1⟩
theorem VR {xs:List Int} {A:Option Addr} {W:World} {i:Nat} (hC:Kd.C (Kd.int .i64) W A xs.length xs) (hi:i < xs.length):∃ ad:Addr,A=some ad∧W.cell? (ad.add i)=some (.int .i64 xs[i]):=by
 obtain ⟨ad,e1,hx⟩:=Kd.Zf hC (i:Int) (by omega) (by omega);rw [Int.toNat_natCast,lp hi] at hx;exact ⟨ad,e1,hx⟩
theorem Ii.calls (Wa:Option Addr) (Ya:Nat) (Oa:List Int) (Ja:Int) (Fa:Int) (Ia:Int) (Ob:Option Addr) (Cb:Nat) (Ca:List (Ke)) (r:List (List Bool)) (w:World) (Ld:Kd.C (Kd.int .i64) w Wa Oa.length Oa) (Gd:Oa.length ≤ Ya) (Ue:Kd.C Gs w Ob Ca.length Ca) (Qe:Ca.length ≤ Cb) (h:Ii.f Oa Ja Fa Ia Ca=some r) :
  Calls Try.prog 59 #[.agg #[.slice Wa Oa.length Ya,.int .i64 Ja,.int .i64 Fa,.int .i64 Ia,.slice Ob Ca.length Cb]] w fun e w'=>∃ Bn:Value,e = .returned (Bn)∧Kd.S (Kd.slice 4 Kd.bool) 60 w' w.heap.size (fun _=>True) Bn r∧Below w.heap.size w w':=by
 unfold Ii.f at h
 by_cases hf:0 ≤ Ia∧Zn Ca Ia.toNat
 case neg=>rw [if_neg hf] at h;cases h
 rw [if_pos hf] at h;obtain rfl:=Option.some.inj h;obtain ⟨hn0,hO⟩:=hf;obtain ⟨n,rfl⟩:∃ n:Nat,Ia=(n:Int):=⟨Ia.toNat,(Int.toNat_of_nonneg hn0).symm⟩;rw [Int.toNat_natCast] at hO ⊢;clear h hn0;have HO:=ja.mk hO;have hn:n ≤ 1048576:=hO.2.1;have hm0:0 < Ca.length:=hO.1.1;have hm1:Ca.length ≤ 1048576:=hO.1.2.1;clear hO;have Xp:=ja.mk Ld;have RT:=ja.mk Ue;have G5:=ja.mk Gd;have IZ:=ja.mk Qe;obtain ⟨W1,bg⟩:∃ W1,W1=(((w.alloc (.cells #[.slice Wa Oa.length Ya,.int .i64 Ja,.int .i64 Fa,.int .i64 (n:Int),.slice Ob Ca.length Cb] 30 (0,0))).alloc (.cells #[] 60 (0,0))).alloc (.cells #[.slice (some ⟨w.heap.size + 1,0,none⟩) 0 0] 55 (0,0))):=⟨_,rfl⟩;have HW:=ja.mk bg
 have HAV:=ja.mk (show aq w (WD Wa Oa.length Ya Ja Fa n Ob Ca.length Cb) (fun k=>k=w.heap.size + 1) (.slice (some ⟨w.heap.size + 1,0,none⟩) 0 0) (.slice none 0 0) [] [] W1∧W1.heap[w.heap.size + 2]? = some (.cells #[.slice (some ⟨w.heap.size + 1,0,none⟩) 0 0] 55 (0,0)) from by
  have z1:(w.alloc (.cells #[.slice Wa Oa.length Ya,.int .i64 Ja,.int .i64 Fa,.int .i64 (n:Int),.slice Ob Ca.length Cb] 30 (0,0))).heap.size=w.heap.size + 1:=by simp
  have b1:=Dm w (.cells #[.slice Wa Oa.length Ya,.int .i64 Ja,.int .i64 Fa,.int .i64 (n:Int),.slice Ob Ca.length Cb] 30 (0,0));have e1:=qa (Below.refl w.heap.size w) (.cells #[.slice Wa Oa.length Ya,.int .i64 Ja,.int .i64 Fa,.int .i64 (n:Int),.slice Ob Ca.length Cb] 30 (0,0));rw [bg];generalize w.alloc (.cells #[.slice Wa Oa.length Ya,.int .i64 Ja,.int .i64 Fa,.int .i64 (n:Int),.slice Ob Ca.length Cb] 30 (0,0))=u1 at z1 b1 e1 ⊢;have z2:(u1.alloc (.cells #[] 60 (0,0))).heap.size=w.heap.size + 2:=by simp [z1]
  have s1:=zz (Kd.slice 4 Kd.bool) 60 u1 w.heap.size (by omega);have e2:=qa (Below.refl u1.heap.size u1) (.cells #[] 60 (0,0));rw [z1] at s1;generalize u1.alloc (.cells #[] 60 (0,0))=u2 at z2 s1 e2 ⊢;have b2:=Dm u2 (.cells #[.slice (some ⟨w.heap.size + 1,0,none⟩) 0 0] 55 (0,0));have e3:=qa (Below.refl u2.heap.size u2) (.cells #[.slice (some ⟨w.heap.size + 1,0,none⟩) 0 0] 55 (0,0));have z3:(u2.alloc (.cells #[.slice (some ⟨w.heap.size + 1,0,none⟩) 0 0] 55 (0,0))).heap.size=w.heap.size + 3:=by simp [z2]
  rw [z2] at b2
  exact ⟨⟨Na (Na e1 e2) e3,Ta (Ta b1 e2) e3,Kd.Nf s1 e3,Kd.uP _ _ _ _ _,fun k hk=>⟨by omega,by omega⟩⟩,b2⟩)
 have m5:=ja.mk (show ¬ (fun k=>k=w.heap.size + 1) (w.heap.size + 2) from fun e=>by have e:w.heap.size + 2=w.heap.size + 1:=e;omega);clear bg Ld Ue Gd Qe;go_enter Try.func59,Try.ntmps59
 go_upto_region 2 with (fail)
 rw [← HW.out];clear HW;have HA:=ja.mk HAV.out.1;have HV:=ja.mk HAV.out.2;clear HAV;have HQB:=ja.mk (show w.heap.size < w.heap.size + 2 from by omega);generalize w.heap.size + 2=q at HV m5 HQB ⊢;generalize (Value.slice (some ⟨w.heap.size + 1,0,none⟩) 0 0)=v0 at HA HV ⊢;have Lr:=QA HA.out;go_wp2;clear Lr
 go_loopg [14] n (fun gg v14 wr=>∃ (j:Nat) (PB:Nat→Prop) (v:Value),v14 = .int .i64 j∧j ≤ n∧n - j ≤ gg∧ja (aq w (WD Wa Oa.length Ya Ja Fa n Ob Ca.length Cb) PB v (.slice none 0 0) (List.replicate j (List.replicate n false)) [] wr)∧ja (wr.heap[q]? = some (.cells #[v] 55 (0,0)))∧ja (¬ PB q))
 case atStart=>exact ⟨0,_,_,rfl,Nat.zero_le _,by omega,HA,HV,m5⟩
 case round =>
  clear HA HV m5;(try clear PB);(try clear HA);(try clear HV);(try clear n5);obtain ⟨j,PB,v,rfl,hj,zS,HA,HV,n5⟩:=hrel
  by_cases hlt:j < n
  ·have Zv:decide ((j:Int) < (n:Int))=true:=decide_eq_true (by omega);have M6:(0:Int) ≤ (n:Int):=by omega
   have W6:=ja.mk (show ((n:Int)).toNat * 1 ≤ 281474976710656 from by omega);have Y6:=ja.mk (show ((List.replicate j (List.replicate n false)).length + 1) * 24 ≤ 140737488355328 from by rw [List.length_replicate];omega)
   go_upto_region 4 with (fail)
   have eU:=ja.mk (HA.out.below (Rm (Below.refl wr.heap.size wr)));have HVd:=ja.mk (show wr.drew.heap[q]? = some (.cells #[v] 55 (0,0)) from HV.out);clear HA HV;refine Qm (n:=7) (S:=fun w'=>w'.cell? ⟨q,0,none⟩=some v∧w'.cell? ⟨w.heap.size,3,none⟩=some (.int .i64 (n:Int))) (ds:=[6]) #[false,false,false,false,false,false,false] (by kernel_rfl) rfl rfl ⟨(ga HVd.out 0).trans rfl,QA eU.out⟩ (fun hHeld=>?_);generalize wr.drew=wd at eU HVd hHeld ⊢;refine zd (i:=1) (N:=some 17) (v:=?_) (a':=?_) #[false,true,false,false,false,false,false] rfl rfl (by kernel_rfl) (fun _ _ _ h=>h) (Or.inl ⟨by rfl,?_⟩) ?_ ?_;rotate_left
   ·intro w';go_simp;with_reducible rfl
   rotate_left
   ·simp only [Act.put,List.setIfInBounds_toArray,List.set_cons_zero,List.set_cons_succ,ic,jc]
    rfl
   refine Fh (i:=0) (N:=some 16) (v:=?_) (a':=?_) #[true,true,false,false,false,false,false] rfl rfl (by kernel_rfl) (fun _ _ _ h=>h) (Or.inl ⟨by rfl,?_⟩) hHeld ?_ ?_;rotate_left
   ·rintro w' ⟨s0,s1⟩;go_simp;with_reducible rfl
   rotate_left
   ·simp only [Act.put,List.setIfInBounds_toArray,List.set_cons_zero,List.set_cons_succ,ic,jc]
    rfl
   refine Fh (i:=2) (N:=some 18) (v:=?_) (a':=?_) #[true,true,true,false,false,false,false] rfl rfl (by kernel_rfl) (fun _ _ _ h=>h) (Or.inl ⟨by rfl,?_⟩) hHeld ?_ ?_;rotate_left
   ·rintro w' ⟨s0,s1⟩;go_simp;with_reducible rfl
   rotate_left
   ·simp only [Act.put,List.setIfInBounds_toArray,List.set_cons_zero,List.set_cons_succ,ic,jc]
    rfl
   refine Jw (i:=3) (N:=some 19) #[true,true,true,true,false,false,false] rfl rfl (by kernel_rfl) (by decide) (fun K hK=>?_);refine Kd.EJ Kd.bool (w0:=wd) wd.heap.size 4 (by rfl) (N:=19) rfl 60 _ _ rfl (n:Int) rfl rfl Try.underlying60 (.bool false) 1 ow rfl (by decide) (by omega) false (ok:=fun k=>wd.heap.size ≤ k) (Sh:=fun k=>wd.heap.size ≤ k) rfl (fun _ hk=>hk) (Nat.le_refl _) M6 W6.out (Below.refl _ _) (Nat.le_refl _) ?_;intro v19 nU ho hb hg hat;rw [Int.toNat_natCast] at ho;obtain ⟨A19,Xk,R7⟩:=Kd.ze ho;rw [List.length_replicate] at R7;subst R7;have Bao:=ja.mk (tM ho eU.out.bl.size);have Kz:=ja.mk hb;have ZQ:=ja.mk (Na eU.out.bl hb);have Oac:=ja.mk (Ta HVd.out hb);clear ho hb hg hat;refine hK.out _ _ ⟨(ga Oac.out 0).trans rfl,QA (eU.out.below Kz.out)⟩ (fun hHeld=>?_);clear hK K;refine yp (a':=?_) ?_ ?_;rotate_left
   ·show Act.put _ (some 19) _=_
    simp only [Act.put,List.setIfInBounds_toArray,List.set_cons_zero,List.set_cons_succ,ic,jc]
    rfl
   refine Jw (i:=4) (N:=some 20) #[true,true,true,true,true,false,false] rfl rfl (by kernel_rfl) (by decide) (fun K hK=>?_);refine ZZ (w1:=?_) (v:=?_) (by rfl) rfl ?_ ?_;rotate_left 2
   ·go_simp
    constructor
    ·rfl
    ·rfl
   refine hK.out _ _ ⟨(ga (Ta Oac.out (qa (Below.refl _ _) _)) 0).trans rfl,QA ((eU.out.below Kz.out).below (qa (Below.refl _ _) _))⟩ (fun hHeld=>?_);clear hK K;refine yp (a':=?_) ?_ ?_;rotate_left
   ·show Act.put _ (some 20) _=_
    simp only [Act.put,List.setIfInBounds_toArray,List.set_cons_zero,List.set_cons_succ,ic,jc]
    rfl
   refine Jw (i:=5) (N:=some 21) #[true,true,true,true,true,true,false] rfl rfl (by kernel_rfl) (by decide) (fun K hK=>?_);refine Kd.xE (Kd.slice 4 Kd.bool) (w0:=w) w.heap.size (by rfl) (.tmp 16) (.tmp 20) 55 60 (.slice none 0 0) 24 rfl Try.underlying55 dD rfl (by decide) (by omega) v (List.replicate j (List.replicate n false)) (List.replicate n false) [.slice A19 n Xk] (fun k=>PB k ∨ wd.heap.size ≤ k) (fun k=>wd.heap.size ≤ k) rfl rfl Bao.out eU.out.neX (eU.out.frX Kz.out) (eU.out.okX Kz.out) ZQ.out ZQ.out.size Y6.out ?_;intro v21 nB hs hb hg hat;obtain ⟨RJ,Vr,Q7⟩:=Kd.ei hs;rw [← List.replicate_succ',List.length_replicate] at Q7;subst Q7;have dR:=ja.mk (eU.out.z4 Kz.out hs hb hg);have FZ:=ja.mk (show ¬ (PB q ∨ (wd.heap.size ≤ q∧q < nB.heap.size)) from fun e=>e.elim n5.out (fun e=>by have:=Jc HVd.out;omega));have dY:=ja.mk (Dd (Ta HVd.out Kz.out) hg (fun e=>n5.out ((Kd.ZJ eU.out.x).1 q e.symm)));clear hs hb hg hat;refine hK.out _ _ ⟨(ga dY.out 0).trans rfl,QA dR.out⟩ (fun hHeld=>?_);clear hK K;refine yp (a':=?_) ?_ ?_;rotate_left
   ·show Act.put _ (some 21) _=_
    simp only [Act.put,List.setIfInBounds_toArray,List.set_cons_zero,List.set_cons_succ,ic,jc]
    rfl
   refine O7 (i:=6) (N:=none) #[true,true,true,true,true,true,true] rfl rfl (by kernel_rfl) (by decide) (fun K hK=>?_);have hfz:=aa dY.out 0;have hcz:nB.cell? ⟨q,0,none⟩=some v:=(ga dY.out 0).trans rfl;have pao:=ja.mk (show (nB.setCell ⟨q,0,none⟩ (.slice RJ (j + 1) Vr)).heap[q]? = some (.cells #[.slice RJ (j + 1) Vr] 55 (0,0)) from cI dY.out 0 _);have I5:=ja.mk ((Kept.refl nB (fun k=>k=q)).setCell (p:=⟨q,0,none⟩) (Or.inl rfl) (.slice RJ (j + 1) Vr));have Oao:=ja.mk (show Below w.heap.size w (nB.setCell ⟨q,0,none⟩ (.slice RJ (j + 1) Vr)) from dR.out.bl.setCell (Nat.le_of_lt HQB.out) _);refine F7 (w1:=?_) (by rfl) rfl ?_ ?_;rotate_left
   ·go_simp
    rfl
   refine hK.out _ _ ?_;clear hK K;refine Sr (by kernel_rfl) ?_;clear hHeld
   have Qao:=ja.mk (show aq w (WD Wa Oa.length Ya Ja Fa n Ob Ca.length Cb) (fun k=>PB k ∨ (wd.heap.size ≤ k∧k < nB.heap.size)) (.slice RJ (j + 1) Vr) (.slice none 0 0) (List.replicate (j + 1) (List.replicate n false)) [] (nB.setCell ⟨q,0,none⟩ (.slice RJ (j + 1) Vr)) from by
    have hx:=dR.out.x;rw [← List.replicate_succ'] at hx
    exact ⟨Oao.out,wg dR.out.hx I5.out (fun e=>by have:=HQB.out;omega),Kd.GD hx I5.out (fun k hk e=>FZ.out (e ▸ hk)),Kd.uP _ _ _ _ _,fun k hk=>⟨(dR.out.pb k hk).1,Nat.lt_of_lt_of_le (dR.out.pb k hk).2 I5.out.1⟩⟩)
   go_wp2
   go_roundg (n - (j + 1))
   case measure=>omega
   case rel=>exact ⟨j + 1,_,_,by go_num,by omega,by omega,Qao,pao,FZ⟩
  ·have Zv:decide ((j:Int) < (n:Int))=false:=decide_eq_false (by omega);obtain rfl:j=n:=by omega
   have HT:=ja.mk (show ∃ T,Kd.S (Kd.slice 4 Kd.bool) 60 wr w.heap.size PB v T∧CJ j T vM from ⟨_,HA.out.x,CJ.start j⟩);have HXg:=ja.mk HA.out.hx;have HBw:=ja.mk HA.out.bl;have UT:=ja.mk HA.out.pb;clear HA zS hj
   go_upto_region 7 with (fail)
   have G2:=qa (Below.refl wr.heap.size wr) (.cells #[.func (.func 85) #[] #[.pointer (some ⟨q,0,none⟩)]] 101 (0,0));have hv5:=Dm wr (.cells #[.func (.func 85) #[] #[.pointer (some ⟨q,0,none⟩)]] 101 (0,0));generalize wr.alloc (.cells #[.func (.func 85) #[] #[.pointer (some ⟨q,0,none⟩)]] 101 (0,0))=w5 at G2 hv5 ⊢
   have zU:=ja.mk (show aK w.heap.size j q wr.heap.size PB v vM w5 from by
    obtain ⟨T,h1,h2⟩:=HT.out
    exact ⟨hv5,Ta HV.out G2,fun e=>by have:=(UT.out _ e).2;omega,n5.out,T,Kd.Nf h1 G2,h2⟩)
   have Q4:=ja.mk (Ta HXg.out G2);have cU:=ja.mk (Na HBw.out G2);have HP5:=ja.mk (show ∀ k,PB k→w.heap.size < k∧k < w5.heap.size from fun k hk=>⟨(UT.out k hk).1,Nat.lt_of_lt_of_le (UT.out k hk).2 G2.size⟩);clear G2 hv5 HT HXg HBw UT HV;generalize wr.heap.size=qf at zU ⊢;have hx0:w5.cell? ⟨w.heap.size,0,none⟩=some (.slice Wa Oa.length Ya):=(ga Q4.out 0).trans rfl;have hx1:w5.cell? ⟨w.heap.size,1,none⟩=some (.int .i64 Ja):=(ga Q4.out 1).trans rfl;have Xw:w5.cell? ⟨w.heap.size,2,none⟩=some (.int .i64 Fa):=(ga Q4.out 2).trans rfl;have Lr:w5.cell? ⟨w.heap.size,3,none⟩=some (.int .i64 (j:Int)):=(ga Q4.out 3).trans rfl;have Hs:w5.cell? ⟨w.heap.size,4,none⟩=some (.slice Ob Ca.length Cb):=(ga Q4.out 4).trans rfl
   have HLV:=ja.mk (show Hl.f Oa Ja Fa (j:Int) Ca=some (De Ca j) by
    unfold Hl.f
    rw [if_pos ⟨by omega,by rw [Int.toNat_natCast];exact HO.out⟩,Int.toNat_natCast])
   go_upto_region 8 with (first|(go_at_call 47;(with_reducible refine (Hl.calls Wa Ya Oa Ja Fa (j:Int) Ob Cb Ca (De Ca j) w5 (Kd.Db Xp.out cU.out) G5.out (Kd.Db RT.out cU.out) IZ.out HLV.out).mono ?_);rintro e w6 ⟨v6,rfl,ho,hb⟩;obtain ⟨A4,c4,rfl⟩:=Kd.ei ho;have bM:=ja.mk ho;have mB:=ja.mk hb;clear ho hb hx0 hx1 Xw Lr Hs))
   rw [Zi] at bM ⊢;have CZ:=ja.mk (Ta Q4.out mB.out);have yU:=ja.mk (zU.out.below mB.out);have eM:=ja.mk (Na cU.out mB.out);have IJ:=ja.mk (show ∀ k,PB k→w.heap.size < k∧k < w6.heap.size from fun k hk=>⟨(HP5.out k hk).1,Nat.lt_of_lt_of_le (HP5.out k hk).2 mB.out.size⟩);have KZ:=ja.mk (show Ca.length ≤ c4 from (Kd.Ud bM.out).2.1);have HLC:=ja.mk (show ∀ W,Kept w6 W (CY PB w6)→Kd.C (Kd.slice 4 Kd.bool) W A4 (De Ca j).length (De Ca j) from fun W hk=>(Kd.Ud (Kd.GD (Kd.ej (Kd.Bz bM.out) (fun k hk=>⟨hk.2.1,hk.2.2.1⟩):Kd.S (Kd.slice 4 Kd.bool) _ w6 _ (fun k=>w5.heap.size ≤ k∧k < w6.heap.size) _ _) hk (fun k hk e=>e.elim (fun e=>by have:=(HP5.out k e).2;omega) (fun e=>by omega)))).2.2);clear Q4 zU cU HP5 mB bM;have hx0:w6.cell? ⟨w.heap.size,0,none⟩=some (.slice Wa Oa.length Ya):=(ga CZ.out 0).trans rfl;have hx1:w6.cell? ⟨w.heap.size,1,none⟩=some (.int .i64 Ja):=(ga CZ.out 1).trans rfl;have Xw:w6.cell? ⟨w.heap.size,2,none⟩=some (.int .i64 Fa):=(ga CZ.out 2).trans rfl;have Lr:w6.cell? ⟨w.heap.size,3,none⟩=some (.int .i64 (j:Int)):=(ga CZ.out 3).trans rfl;have Hs:w6.cell? ⟨w.heap.size,4,none⟩=some (.slice Ob Ca.length Cb):=(ga CZ.out 4).trans rfl;have hmf:∀ (fn:Fn) (first cap:Array Value) (w:World),(Instr.makeFunc fn first cap).run Try.prog w = .ok (.func fn first cap) w:=fun _ _ _ _=>rfl
   have hev:=TH yg (fun P W=>aK w.heap.size j q qf PB v P W) PB 86 #[.pointer (some ⟨qf,0,none⟩)] (enters_of Try.func86 (by kernel_rfl) rfl)
    Wa Ya Oa Ja Fa j Ob Cb Ca A4 c4 (De Ca j) vM w w6 eM.out (fun k e=>Nat.le_of_lt (IJ.out k e).1) (fun k e=>(IJ.out k e).2) Xp.out G5.out RT.out IZ.out
    (fun W hk=>HLC.out W hk) (by rw [Zi];exact KZ.out) HO.out (Zi _ _) (fun i hi=>by rw [qx hi];exact jj _ _ _)
    yU.out (fun P W W' h1 h2 h3=>by
     have hk:Kept W W' (fun k=>w6.heap.size ≤ k):=⟨h2,fun k _ hk=>h3 k (by omega)⟩;obtain ⟨T,t1,t2⟩:=h1.t
     exact ⟨wg h1.hf hk (fun e=>by have:=Jc yU.out.hf;omega),wg h1.hx hk (fun e=>by have:=Jc yU.out.hx;omega),h1.pf,h1.pq,T,Kd.GD t1 hk (fun k hk e=>by have:=(IJ.out k hk).2;omega),t2⟩)
    (fun W P x A c s hk hv hx nS hC hl=>(yF w.heap.size j q qf PB v P x A c s W hv (fun k hk2=>Nat.lt_of_lt_of_le (IJ.out k hk2).2 hk.1) hx nS hn hC hl).mono (fun e w' h=>h))
   rw [Zi] at hev;have HEV:=ja.mk hev;clear hev
   go_upto_region 9 with (first|(go_at_call 50;(with_reducible refine HEV.out.mono ?_);rintro e w9 ⟨rfl,hv9,hk9,hb9⟩;have AE:=ja.mk hv9;have HK9:=ja.mk hk9;have HZ9:=ja.mk hb9;clear hv9 hk9 hb9 hx0 hx1 Xw Lr Hs))
   have Q6:=ja.mk (wg CZ.out HK9.out (fun e=>e.elim (fun e=>by have:=(IJ.out _ e).1;omega) (fun e=>by have:=Jc CZ.out;omega)));have HB9:=ja.mk (Vt eM.out eM.out.size HK9.out (fun k e=>e.elim (fun e=>Nat.le_of_lt (IJ.out k e).1) (fun e=>Nat.le_trans eM.out.size e)) HZ9.out);have HP9:=ja.mk (show ∀ k,PB k→w.heap.size < k∧k < w9.heap.size from fun k hk=>⟨(IJ.out k hk).1,Nat.lt_of_lt_of_le (IJ.out k hk).2 HK9.out.1⟩);have hrw:Sd (De Ca j) 0=Sl Ca j 0:=qx hm0;obtain ⟨kl,hkl⟩:=Ev.rounds (IQ HO.out hm0 (De Ca j) (Zi Ca j) (by rw [hrw];exact jj _ _ _) Oa Ja Fa (j:Int));rw [hrw,show RA (Ea Ca ((0:Nat):Int)) (Sl Ca j 0)=fD Ca j from rfl] at hkl;have hc:=Ve.calls kl Wa Ya Oa Ja Fa (j:Int) Ob Cb Ca A4 c4 (De Ca j) ((0:Nat):Int) _ w9 (Kd.Db Xp.out HB9.out) G5.out (Kd.Db RT.out HB9.out) IZ.out (HLC.out w9 HK9.out) (by rw [Zi];exact KZ.out) hkl;rw [Zi,show ((0:Nat):Int)=0 from rfl] at hc;have HLI:=ja.mk hc;have hin:(fD Ca j).length=j:=by unfold fD;rw [lq,jj]
   have dM:=ja.mk hin;obtain ⟨ko,hko⟩:=Ev.rounds (nL (fD Ca j) (by rw [hin];exact hn));have HKO:=ja.mk hko;have X6:=ja.mk (show ∀ a b,XC Ca j a b ↔ (Eg yg Ca (De Ca j) 0 vM a b ∨ ((a:Int) ∈ Ql (fD Ca j) (fD Ca j).length∧(b:Int) ∈ Ql (fD Ca j) (fD Ca j).length)) from fun a b=>by rw [RE,RE];rfl);have HNT:=ja.mk (fun z=>iQ (s:=fD Ca j) (z:=z));have hLl:=Nat.le_trans (OE (fD Ca j) (fD Ca j).length) (Nat.le_of_eq hin);have HLn:=ja.mk hLl;clear hkl hc hin hko hrw hmf CZ yU eM IJ HK9 HZ9 HEV HLC hLl;have hx0:w9.cell? ⟨w.heap.size,0,none⟩=some (.slice Wa Oa.length Ya):=(ga Q6.out 0).trans rfl;have hx1:w9.cell? ⟨w.heap.size,1,none⟩=some (.int .i64 Ja):=(ga Q6.out 1).trans rfl;have Xw:w9.cell? ⟨w.heap.size,2,none⟩=some (.int .i64 Fa):=(ga Q6.out 2).trans rfl;have Lr:w9.cell? ⟨w.heap.size,3,none⟩=some (.int .i64 (j:Int)):=(ga Q6.out 3).trans rfl;have Hs:w9.cell? ⟨w.heap.size,4,none⟩=some (.slice Ob Ca.length Cb):=(ga Q6.out 4).trans rfl;generalize fD Ca j=r0 at HLI dM HKO X6 HNT HLn ⊢;generalize Eg yg Ca (De Ca j) 0 vM=E0 at AE X6 ⊢
   go_upto_region 10 with (first|(go_at_call 49;(with_reducible refine HLI.out.mono ?_);rintro e Fs ⟨v10,rfl,ho,hb⟩;obtain ⟨A10,ku,rfl⟩:=Kd.ze ho;have b5:=ja.mk ho;have yY:=ja.mk hb;clear ho hb hx0 hx1 Xw Lr Hs)|(go_at_call 48;(with_reducible refine (Wd.calls ko A10 ku r0 (Ql r0 r0.length) Fs (Kd.Wc b5.out).2.2 (Kd.Wc b5.out).2.1 HKO.out).mono ?_);rintro e kj ⟨v11,rfl,ho,hb⟩;obtain ⟨qR,qP,rfl⟩:=Kd.ze ho;have Z4:=ja.mk ho;have X5:=ja.mk hb;clear ho hb))
   generalize Ql r0 r0.length=L at Z4 X6 HNT HLn ⊢;have rad:=ja.mk ((AE.out.below yY.out).below X5.out);have HBB:=ja.mk (Na (Na HB9.out yY.out) X5.out);have F5:=ja.mk (show ∀ W,Kept kj W PB→Kd.C (Kd.int .i64) W qR L.length L from fun W hk=>(Kd.Wc (Kd.JA (Kd.Td (Kd.Kg Z4.out) (fun k hk=>hk.2.1):Kd.R (Kd.int .i64) _ kj _ (fun k=>Fs.heap.size ≤ k) _ _) hk (fun k hk e=>by have:=(HP9.out k e).2;have:=yY.out.size;omega))).2.2);have HPL:=ja.mk (fun k e=>Nat.le_of_lt (HP9.out k e).1);have mad:=ja.mk dM.out;clear AE Q6 HB9 b5 yY Z4 X5 HLI HKO HP9 dM;have eg:∀ args w,(callFunc 85 args).run Try.prog w = .ok (.enter 85 args) w:=enters_of Try.func85 (by kernel_rfl) rfl;have hLn:L.length ≤ 1048576:=Nat.le_trans HLn.out hn;go_wp2
   go_loopg [36] L.length (fun gg v36 wr=>∃ (i:Nat),v36 = .int .i64 i∧i ≤ L.length∧L.length - i ≤ gg∧ja (aK w.heap.size j q qf PB v (fun a b=>E0 a b ∨ ((a:Int) ∈ L.take i∧(b:Int) ∈ L)) wr)∧ja (Kept kj wr PB)∧ja (Below 0 kj wr))
   case atStart=>exact ⟨0,rfl,Nat.zero_le _,by omega,⟨rad.out.Qp (fun a b=>⟨Or.inl,fun h=>h.elim id (fun h=>absurd h.1 (by rw [List.take_zero];exact List.not_mem_nil))⟩)⟩,⟨Kept.refl _ _⟩,⟨Below.refl _ _⟩⟩
   case round =>
    clear rad;(try clear HI);(try clear HK);(try clear HZ);obtain ⟨i,rfl,hi,zS,HI,HK,HZ⟩:=hrel
    by_cases hli:i < L.length
    ·have Cam:decide ((i:Int) < (L.length:Int))=true:=decide_eq_true (by omega);have i1:0 ≤ (i:Int):=by omega
     have i2:(i:Int) < (L.length:Int):=by omega
     obtain ⟨ad,e1,Dl⟩:=VR (F5.out wr HK.out) hli;subst e1;obtain ⟨x,hx,hxn⟩:=HNT.out L[i] (List.getElem_mem hli);rw [hx] at Dl;have HXE:=ja.mk hx;have HXN:=ja.mk hxn;clear hx hxn;obtain ⟨wo,rfl⟩:∃ wo,wo=wr:=⟨_,rfl⟩;go_wp2;clear Dl i1 i2
     go_loopg [42] L.length (fun g4 v42 wr=>∃ (i4:Nat),v42 = .int .i64 i4∧i4 ≤ L.length∧L.length - i4 ≤ g4∧ja (aK w.heap.size j q qf PB v (fun a b=>(E0 a b ∨ ((a:Int) ∈ L.take i∧(b:Int) ∈ L)) ∨ (a=x∧(b:Int) ∈ L.take i4)) wr)∧ja (Kept kj wr PB)∧ja (Below 0 kj wr))
     case atStart=>exact ⟨0,rfl,Nat.zero_le _,by omega,⟨HI.out.Qp (fun a b=>⟨Or.inl,fun h=>h.elim id (fun h=>absurd h.2 (by rw [List.take_zero];exact List.not_mem_nil))⟩)⟩,HK,HZ⟩
     case round =>
      clear HI HK HZ;(try clear HI);(try clear HK);(try clear HZ);obtain ⟨i4,rfl,hi4,oV,HI,HK,HZ⟩:=hrel
      by_cases I1:i4 < L.length
      ·have Eam:decide ((i4:Int) < (L.length:Int))=true:=decide_eq_true (by omega);have i1:0 ≤ (i4:Int):=by omega
       have i2:(i4:Int) < (L.length:Int):=by omega
       obtain ⟨ad2,e1,Dl⟩:=VR (F5.out wr HK.out) I1;obtain rfl:ad=ad2:=Option.some.inj e1;obtain ⟨y,hy,hyn⟩:=HNT.out L[i4] (List.getElem_mem I1);rw [hy] at Dl;have HYE:=ja.mk hy;have I_:wr.cell? ⟨qf,0,none⟩=some (.func (.func 85) #[] #[.pointer (some ⟨q,0,none⟩)]):=(ga HI.out.hf 0).trans rfl;have Lao:=ja.mk (HI.out.call (show x < j from by have:=HXN.out;have:=mad.out;omega) (show y < j from by have:=mad.out;omega) hn);clear hy hyn e1;go_wp2_with (go_at_fn 85;refine Lao.out.mono ?_;rintro e w3 ⟨rfl,h1,h2,h3⟩;have HI3:=ja.mk h1;have Es:=ja.mk (HK.out.bu h2 (fun _ h=>Or.inl h));have HZ3:=ja.mk (HZ.out.trans h3);clear h1 h2 h3 I_ Dl)
       have HI4:=ja.mk (HI3.out.Qp (Q:=fun a b=>(E0 a b ∨ ((a:Int) ∈ L.take i∧(b:Int) ∈ L)) ∨ (a=x∧(b:Int) ∈ L.take (i4 + 1))) (fun a b=>by
        rw [List.take_succ_eq_append_getElem I1,List.mem_append,List.mem_singleton,HYE.out]
        constructor
        ·rintro ((h|h)|⟨h1,h2⟩)
         ·exact Or.inl h
         ·exact Or.inr ⟨h.1,Or.inl h.2⟩
         ·exact Or.inr ⟨h1,Or.inr (by omega)⟩
        ·rintro (h|⟨h1,h2|h2⟩)
         ·exact Or.inl (Or.inl h)
         ·exact Or.inl (Or.inr ⟨h1,h2⟩)
         ·exact Or.inr ⟨h1,by omega⟩))
       go_roundg (L.length - (i4 + 1))
       case measure=>omega
       case rel=>exact ⟨i4 + 1,by go_num,by omega,by omega,HI4,Es,HZ3⟩
      ·have Eam:decide ((i4:Int) < (L.length:Int))=false:=decide_eq_false (by omega);obtain rfl:i4=L.length:=by omega
       have HI4:=ja.mk (HI.out.Qp (Q:=fun a b=>E0 a b ∨ ((a:Int) ∈ L.take (i + 1)∧(b:Int) ∈ L)) (fun a b=>by
        rw [List.take_length,List.take_succ_eq_append_getElem hli,List.mem_append,List.mem_singleton,HXE.out]
        constructor
        ·rintro ((h|h)|⟨h1,h2⟩)
         ·exact Or.inl h
         ·exact Or.inr ⟨Or.inl h.1,h.2⟩
         ·exact Or.inr ⟨Or.inr (by omega),h2⟩
        ·rintro (h|⟨h1|h1,h2⟩)
         ·exact Or.inl (Or.inl h)
         ·exact Or.inl (Or.inr ⟨h1,h2⟩)
         ·exact Or.inr ⟨by omega,h2⟩))
       go_wp2
       go_roundg (L.length - (i + 1))
       case measure=>omega
       case rel=>exact ⟨i + 1,by go_num,by omega,by omega,HI4,HK,HZ⟩
    ·have Cam:decide ((i:Int) < (L.length:Int))=false:=decide_eq_false (by omega);obtain rfl:i=L.length:=by omega
     have OJ:=ja.mk (show Kd.S (Kd.slice 4 Kd.bool) 60 wr w.heap.size (fun _=>True) v (Rl Ca j) from by
      obtain ⟨T,t1,t2⟩:=HI.out.t;have he:T=Rl Ca j:=(t2.Qp (fun a b=>by rw [List.take_length];exact (X6.out a b).symm)).ext (bp Ca j) (fun _ _ _=>Iff.rfl);rw [← he]
      exact Kd.ej t1 (fun _ _=>trivial))
     have wY:=ja.mk (Vt HBB.out HBB.out.size HK.out HPL.out HZ.out);have hq0:wr.cell? ⟨q,0,none⟩=some v:=(ga HI.out.hx 0).trans rfl;have hone:v.oneCell' = true:=by obtain ⟨A,c,rfl⟩:=Kd.ei OJ.out;rfl
     go_wp2;go_ret;exact ⟨_,rfl,OJ.out,wY.out⟩
end Go.Proofs.Ytkigbdceceeenaa.P
end
