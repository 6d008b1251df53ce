import Derived.Test.YtkigbdceceeenaaQColorsOk1
import Derived.Test.YtkigbdceceeenaaQColorsOk8
import Derived.Test.YtkigbdceceeenaaQColorsOk5
import Derived.Test.YtkigbdceceeenaaQColorsOk7
import Derived.Shelf.Abstract
import Derived.Test.YtkigbdceceeenaaQColorsOk2
set_option maxHeartbeats 8000000
set_option maxRecDepth 100000
section
namespace Go.Proofs.Ytkigbdceceeenaa.P
open Go.RowKit Go.Proofs.Pa.Xb Go.Proofs.Pa.Pd Go.Proofs.Pa.Oe
set_option linter.unusedVariables false
set_option linter.unusedSimpArgs false
attribute [local go_sem] Bi Xi Jj Ik Uh Th Yi Wi
def Cf.l0:Nat→List Bool→Int→List (lg)→Int→Int→Int→Int→Option (List Bool)
 | 0,_,_,_,_,_,_,_=>none
 | k + 1,x5,x6,Cc,Uc,Ic,Gc,ec=>if x6 ≥ 0 then (if 0 ≤ x6 then (if x6 < (Cc.length:Int) then ((Dc.f k ((Ua Cc x6).f0) ((Ua Cc x6).f1) ((Ua Cc x6).f2) ((Ua Cc x6).f3) ((Ua Cc x6).f4) ((Ua Cc x6).f5) ((Ua Cc x6).f6) x5).bind fun t106=>(Cf.l0 k t106 (wrap64 (x6 - 1)) Cc Uc Ic Gc ec)) else (none)) else (none)) else (some x5)
def Cf.f (k:Nat) (Oa:List (lg)) (Ja:Int) (Fa:Int) (Ia:Int) (zb:Int) (l1:List Bool):Option (List Bool):=(Xf.f Oa Ja Fa Ia zb l1).bind fun t102=>(Cf.l0 k t102 (wrap64 ((Oa.length:Int) - 1)) Oa Ja Fa Ia zb)
theorem Cf.calls (k:Nat) (Wa:Option Addr) (Ya:Nat) (Oa:List (lg)) (Ja:Int) (Fa:Int) (Ia:Int) (zb:Int) (A1:Option Addr) (c1:Nat) (l1:List Bool) (r:List Bool) (w:World) (Ld:Kd.C Dr w Wa Oa.length Oa) (Gd:Oa.length ≤ Ya) (eo:Kd.C Kd.bool w A1 l1.length l1) (Dl:l1.length ≤ c1) (h:Cf.f k Oa Ja Fa Ia zb l1=some r) :
  Calls Try.prog 54 #[.agg #[.slice Wa Oa.length Ya,.int .i64 Ja,.int .i64 Fa,.int .i64 Ia,.int .i64 zb],.slice A1 l1.length c1] w fun e w'=>∃ Bn:Value,e = .returned (Bn)∧Kd.R Kd.bool 4 w' w.heap.size (fun _=>True) Bn r∧Below w.heap.size w w':=by
 have fB:=Try.underlying59;have Yz:=Try.underlying65;have Md:=ja.mk Ld;have Rd:=ja.mk Gd;clear Ld Gd;have Vo:=ja.mk eo;have FI:=ja.mk Dl;clear eo Dl;have HB:=ja.mk (Below.refl w.heap.size w);have H:((Xf.f Oa Ja Fa Ia zb l1).bind fun t102=>(Cf.l0 k t102 (wrap64 ((Oa.length:Int) - 1)) Oa Ja Fa Ia zb))=some r:=h;clear h;replace H:=Option.bind_eq_some_iff.mp H;obtain ⟨t102,cw,H⟩:=H;replace H:(Cf.l0 k t102 (wrap64 ((Oa.length:Int) - 1)) Oa Ja Fa Ia zb)=some r:=H;have A3:=ja.mk cw;clear cw;have H':=ja.mk H;clear H;go_enter Try.func54,Try.ntmps54;go_wp2_with (first|((with_reducible refine qb (N:=2) rfl ?_);refine Gb ?hg (N:=2) ?hd (cs:=#[.slice Wa Oa.length Ya,.int .i64 Ja,.int .i64 Fa,.int .i64 Ia,.int .i64 zb]) (t:=59) ?hr ?_;(case hd=>rfl);(case hg=>rfl);(case hr=>first|(go_simp;done)|(go_simp;rfl));intro ya hg w4 Rb hb;have Eb:=ja.mk (Na (by repeat (first|(with_reducible first|exact HB.out|apply qa|apply ia|apply ta)|exact HB.out)) hb);have Jb:=ja.mk (Rb);have Ub:=ja.mk ((by rw [hg];exact (Ga (by repeat (first|(with_reducible first|exact HB.out|apply qa|apply ia|apply ta)|exact HB.out))):w.heap.size ≤ ya));have uc:=ja.mk ((by rw [hg];exact (Ga (by repeat (first|(with_reducible first|exact HB.out|apply qa|apply ia|apply ta)|exact HB.out))):w.heap.size ≤ ya));clear HB;have HB:=Eb;have oa:=Jb;have xd:=Ub;have Ra:=uc;clear Eb Jb Ub uc hb Rb hg;have YK:w4.cell? ⟨ya,0,none⟩=some (.slice Wa Oa.length Ya):=(ga oa.out 0).trans rfl;have XK:w4.cell? ⟨ya,1,none⟩=some (.int .i64 Ja):=(ga oa.out 1).trans rfl;have WK:w4.cell? ⟨ya,2,none⟩=some (.int .i64 Fa):=(ga oa.out 2).trans rfl;have VK:w4.cell? ⟨ya,3,none⟩=some (.int .i64 Ia):=(ga oa.out 3).trans rfl;have UK:w4.cell? ⟨ya,4,none⟩=some (.int .i64 zb):=(ga oa.out 4).trans rfl;have NK:=aa oa.out 0;have MK:=aa oa.out 1;have LK:=aa oa.out 2;have KK:=aa oa.out 3;have JK:=aa oa.out 4)|((with_reducible refine mb (f:=42) rfl ?_);refine Mc (some 9) rfl rfl Try.func42 (by kernel_rfl) rfl #[.agg #[.slice Wa Oa.length Ya,.int .i64 Ja,.int .i64 Fa,.int .i64 Ia,.int .i64 zb],.slice A1 l1.length c1] rfl (by (try simp only [List.map_toArray,List.map_cons,List.map_nil]);first|done|rfl|(simp only [List.length_drop,List.length_take];rfl)) ?_;(with_reducible refine (Xf.calls _ _ Oa Ja Fa Ia zb _ _ l1 t102 _ ?dc ?Zb ?Rc ?Qc A3.out).mono ?_);(case dc=>repeat (first|exact (Kd.Db Md.out HB.out)|(with_reducible refine Kd.Bb ?_ _)|(with_reducible refine Kd.Ab ?_ _)|(with_reducible refine Kd.Qb ?_)));(case Zb=>exact Rd.out);(case Rc=>repeat (first|exact (Kd.Db Vo.out HB.out)|(with_reducible refine Kd.Bb ?_ _)|(with_reducible refine Kd.Ab ?_ _)|(with_reducible refine Kd.Qb ?_)));(case Qc=>exact FI.out);rintro e w6 ⟨qo,rfl,Qi,hb⟩;refine ⟨_,rfl,?_⟩;have Eb:=ja.mk (Kd.Qd Qi (Ga (by repeat (first|(with_reducible first|exact HB.out|apply qa|apply ia|apply ta|refine ua ?_ Ra.out)|exact HB.out))));have Jb:=ja.mk (Ta (g:=ya) (o:=.cells #[.slice Wa Oa.length Ya,.int .i64 Ja,.int .i64 Fa,.int .i64 Ia,.int .i64 zb] 59 (0,0)) (by (with_reducible repeat (first|refine Aa ?_ _|refine Da ?_|refine Ba ?_ _));exact oa.out) hb);have Ub:=ja.mk (Na (by repeat (first|(with_reducible first|exact HB.out|apply qa|apply ia|apply ta|refine ua ?_ Ra.out)|exact HB.out)) hb);clear oa HB;have si:=Eb;have oa:=Jb;have HB:=Ub;clear Eb Jb Ub;(try clear hb);(try clear ni);(try clear hk);(try clear hi);(try clear Qi);have Ak:w6.cell? ⟨ya,0,none⟩=some (.slice Wa Oa.length Ya):=(ga oa.out 0).trans rfl;have zk:w6.cell? ⟨ya,1,none⟩=some (.int .i64 Ja):=(ga oa.out 1).trans rfl;have xk:w6.cell? ⟨ya,2,none⟩=some (.int .i64 Fa):=(ga oa.out 2).trans rfl;have vk:w6.cell? ⟨ya,3,none⟩=some (.int .i64 Ia):=(ga oa.out 3).trans rfl;have uk:w6.cell? ⟨ya,4,none⟩=some (.int .i64 zb):=(ga oa.out 4).trans rfl;have qk:=aa oa.out 0;have nk:=aa oa.out 1;have jk:=aa oa.out 2;have fk:=aa oa.out 3;have ek:=aa oa.out 4))
 go_loopg [6] k (fun kq v6 w'=>∃ (Va:List Bool) (Ek:Int),v6 = .int .i64 Ek∧ja (Cf.l0 kq Va Ek Oa Ja Fa Ia zb=some r)∧ja (kq ≤ k)∧ja (Kd.R Kd.bool 4 w' w.heap.size (fun _=>True) qo Va)∧ja (w'.heap[ya]? = some (.cells #[(.slice Wa Oa.length Ya),.int .i64 Ja,.int .i64 Fa,.int .i64 Ia,.int .i64 zb] 59 (0,0)))∧ja (Below w.heap.size w w'))
 case atStart=>exact ⟨(t102),(wrap64 ((Oa.length:Int) - 1)),(by first|rfl|(simp;done)|(simp [*];done)),H',⟨Nat.le_refl _⟩,⟨by (with_reducible repeat (first|apply Kd.yb|apply Kd.xb|apply Kd.Pb));exact si.out⟩,⟨by (with_reducible repeat (first|refine Aa ?_ _|refine Da ?_|refine Ba ?_ _));exact oa.out⟩,⟨by repeat (first|(with_reducible first|exact HB.out|apply qa|apply ia|apply ta|refine ua ?_ Ra.out)|exact HB.out)⟩⟩
 case round =>
  clear H'
  try clear c1
  try clear p2
  try clear c4
  try clear c5
  try clear p6
  try clear YK
  try clear XK
  try clear WK
  try clear VK
  try clear UK
  try clear Ak
  try clear zk
  try clear xk
  try clear vk
  try clear uk
  try clear NK
  try clear MK
  try clear LK
  try clear KK
  try clear JK
  try clear qk
  try clear nk
  try clear jk
  try clear fk
  try clear ek
  (try clear HA);(try clear Rh);(try clear Ok);(try clear oa);(try clear HB);obtain ⟨Va,Ek,rfl,HA,Rh,Ok,oa,HB⟩:=hrel;cases gk with
  | zero=>exact absurd HA.out (by simp [Cf.l0])
  | succ k1 =>
   have H:=HA.out;clear HA;simp only [Cf.l0] at H
   by_cases c8:Ek ≥ 0
   ·rw [if_pos c8] at H;have Tr:decide (0 ≤ Ek)=true:=decide_eq_true c8;clear c8
    by_cases c9:0 ≤ Ek
    ·rw [if_pos c9] at H;have iB:decide (0 ≤ Ek)=true:=decide_eq_true c9;clear c9
     by_cases ku:Ek < (Oa.length:Int)
     ·rw [if_pos ku] at H;have vw:decide (Ek < (Oa.length:Int))=true:=decide_eq_true ku;clear ku;replace H:=Option.bind_eq_some_iff.mp H;obtain ⟨t106,VJ,H⟩:=H;replace H:(Cf.l0 k1 t106 (wrap64 (Ek - 1)) Oa Ja Fa Ia zb)=some r:=H;have qR:=ja.mk VJ;clear VJ;have H':=ja.mk H;clear H;have kr:wr.cell? ⟨ya,0,none⟩=some (.slice Wa Oa.length Ya):=(ga oa.out 0).trans rfl;have jr:wr.cell? ⟨ya,1,none⟩=some (.int .i64 Ja):=(ga oa.out 1).trans rfl;have ir:wr.cell? ⟨ya,2,none⟩=some (.int .i64 Fa):=(ga oa.out 2).trans rfl;have gr:wr.cell? ⟨ya,3,none⟩=some (.int .i64 Ia):=(ga oa.out 3).trans rfl;have er:wr.cell? ⟨ya,4,none⟩=some (.int .i64 zb):=(ga oa.out 4).trans rfl;have Kq:=aa oa.out 0;have Jq:=aa oa.out 1;have Iq:=aa oa.out 2;have Hq:=aa oa.out 3;have Gq:=aa oa.out 4;have vo:0 ≤ (Ek:Int):=Sa;have uo:Ek < (Oa.length:Int):=Sa;obtain ⟨Nm,uD,di,jl,gl,fl,cl,LM,KM⟩:=Xn Md.out Ek vo uo;cases uD;replace di:=Qa HB.out di;replace jl:=Qa HB.out jl;replace gl:=Qa HB.out gl;replace fl:=Qa HB.out fl;replace cl:=Qa HB.out cl;replace LM:=Qa HB.out LM;replace KM:=Qa HB.out KM;replace vo:=eq_true vo;replace uo:=eq_true uo;obtain ⟨eR,MQ,V2⟩:=Kd.ze Ok.out;subst V2;go_wp2_with (first|((with_reducible refine mb (f:=44) rfl ?_);refine Mc (some 24) rfl rfl Try.func44 (by kernel_rfl) rfl #[.agg #[.int .i64 ((Ua Oa Ek).f0),.int .i64 ((Ua Oa Ek).f1),.int .i64 ((Ua Oa Ek).f2),.int .i64 ((Ua Oa Ek).f3),.int .i64 ((Ua Oa Ek).f4),.int .i64 ((Ua Oa Ek).f5),.string ((Ua Oa Ek).f6)],.slice eR Va.length MQ] rfl (by (try simp only [List.map_toArray,List.map_cons,List.map_nil]);first|done|rfl|(simp only [List.length_drop,List.length_take];rfl)) ?_;(with_reducible refine (Dc.calls k1 ((Ua Oa Ek).f0) ((Ua Oa Ek).f1) ((Ua Oa Ek).f2) ((Ua Oa Ek).f3) ((Ua Oa Ek).f4) ((Ua Oa Ek).f5) ((Ua Oa Ek).f6) (fun k_=>some k_=(.slice eR Va.length MQ:Value).ownBlock) (.slice eR Va.length MQ) Va t106 w _ ?dc ?Zb qR.out).mono ?_);(case dc=>repeat (first|(with_reducible first|exact HB.out|apply qa|apply ia|apply ta|refine ua ?_ Ra.out)|exact HB.out));(case Zb=>exact Kd.Sv rfl Ok.out);rintro e Mz ⟨rfl,hy0,hb,hkp⟩;refine ⟨_,rfl,?_⟩;have Eb:=ja.mk (Kd.ET rfl hy0 (fun k_ e_=>Ok.out.1 k_ e_));have Jb:=ja.mk (wg (by (with_reducible repeat (first|refine Aa ?_ _|refine Da ?_|refine Ba ?_ _));exact oa.out) hkp (fun hs_=>(fun e_=>(Kd.Fm Ok.out oa.out (by decide)) e_) hs_));have Ub:=ja.mk (hb);clear Ok oa HB;have Ok:=Eb;have oa:=Jb;have HB:=Ub;clear Eb Jb Ub;(try clear hb);(try clear hkp);(try clear hy0)))
      go_roundg k1
      case measure=>have:=Rh.out;omega
      case rel=>exact ⟨(t106),(wrap64 (Ek - 1)),(by first|rfl|(simp;done)|(simp [*];done)),H',⟨by have:=Rh.out;omega⟩,⟨by (with_reducible repeat (first|apply Kd.yb|apply Kd.xb|apply Kd.Pb));exact Ok.out⟩,⟨by (with_reducible repeat (first|refine Aa ?_ _|refine Da ?_|refine Ba ?_ _));exact oa.out⟩,⟨by repeat (first|(with_reducible first|exact HB.out|apply qa|apply ia|apply ta|refine ua ?_ Ra.out)|exact HB.out)⟩⟩
     ·rw [if_neg ku] at H;exact absurd H (by simp)
    ·rw [if_neg c9] at H;exact absurd H (by simp)
   ·rw [if_neg c8] at H;have Tr:decide (0 ≤ Ek)=false:=decide_eq_false c8;clear c8;obtain rfl:=Option.some.inj H;go_wp2;go_ret;exact ⟨_,by first|rfl|(simp [Ma,La] <;> rfl)|(simp [*,Ma,La] <;> rfl),by (with_reducible repeat (first|apply Kd.yb|apply Kd.xb|apply Kd.Pb));exact Ok.out,by repeat (first|(with_reducible first|exact HB.out|apply qa|apply ia|apply ta|refine ua ?_ Ra.out)|exact HB.out)⟩
mutual
def gb.l0:Nat→List (List Bool)→Int→List Int→Int→Int→Int→List (Ke)→Option ((List (List Bool)))
 | 0,_,_,_,_,_,_,_=>none
 | k + 1,x3,x4,Cc,Uc,Ic,Gc,ec=>if x4 < (ec.length:Int) then (if 0 ≤ Gc then (if (Gc:Int).toNat ≤ 281474976710656 then (if x3.length < 5864062014805 then (gb.l0 k (x3 ++ [(List.replicate (Gc:Int).toNat false)]) (wrap64 (x4 + 1)) Cc Uc Ic Gc ec) else (none)) else (none)) else (none)) else (gb.l1 k x3 true Cc Uc Ic Gc ec)
def gb.l1:Nat→List (List Bool)→Bool→List Int→Int→Int→Int→List (Ke)→Option ((List (List Bool)))
 | 0,_,_,_,_,_,_,_=>none
 | k + 1,x3,x5,Cc,Uc,Ic,Gc,ec=>if x5=true then (gb.l2 k x3 false (wrap64 ((ec.length:Int) - 1)) Cc Uc Ic Gc ec) else (some x3)
def gb.l2:Nat→List (List Bool)→Bool→Int→List Int→Int→Int→Int→List (Ke)→Option ((List (List Bool)))
 | 0,_,_,_,_,_,_,_,_=>none
 | k + 1,x3,x5,x6,Cc,Uc,Ic,Gc,ec=>if x6 ≥ 0 then (if 0 ≤ x6 then (if x6 < (ec.length:Int) then ((Gk.f ((Ea ec x6).f0) ((Ea ec x6).f1) ((Ea ec x6).f2) ((Ea ec x6).f3) ((Ea ec x6).f4)).bind fun t112=>(gb.l3 k x3 x5 x6 t112 0 Cc Uc Ic Gc ec)) else (none)) else (none)) else (gb.l1 k x3 x5 Cc Uc Ic Gc ec)
def gb.l3:Nat→List (List Bool)→Bool→Int→List Int→Int→List Int→Int→Int→Int→List (Ke)→Option ((List (List Bool)))
 | 0,_,_,_,_,_,_,_,_,_,_=>none
 | k + 1,x3,x5,x6,x7,x8,Cc,Uc,Ic,Gc,ec=>if x8 < (x7.length:Int) then (if 0 ≤ x8 then (if 0 ≤ (rd x7 x8) then (if (rd x7 x8) < (ec.length:Int) then (if (rd x7 x8) < (x3.length:Int) then ((Cf.f k ((Ea ec (rd x7 x8)).f0) ((Ea ec (rd x7 x8)).f1) ((Ea ec (rd x7 x8)).f2) ((Ea ec (rd x7 x8)).f3) ((Ea ec (rd x7 x8)).f4) (Fc x3 (rd x7 x8))).bind fun t119=>(gb.l4 k x3 x5 x6 x7 x8 t119 0 Cc Uc Ic Gc ec)) else (none)) else (none)) else (none)) else (none)) else (gb.l2 k x3 x5 (wrap64 (x6 - 1)) Cc Uc Ic Gc ec)
def gb.l4:Nat→List (List Bool)→Bool→Int→List Int→Int→List Bool→Int→List Int→Int→Int→Int→List (Ke)→Option ((List (List Bool)))
 | 0,_,_,_,_,_,_,_,_,_,_,_,_=>none
 | k + 1,x3,x5,x6,x7,x8,x9,kU,Cc,Uc,Ic,Gc,ec=>if kU < Gc then (if 0 ≤ kU then (if kU < (x9.length:Int) then (if Pf false x9 kU=true then (if 0 ≤ x6 then (if x6 < (x3.length:Int) then (if kU < ((Fc x3 x6).length:Int) then (if (Pf false (Fc x3 x6) kU=true) then (gb.l4 k x3 x5 x6 x7 x8 x9 (wrap64 (kU + 1)) Cc Uc Ic Gc ec) else (gb.l4 k (x3.set (x6:Int).toNat ((Fc x3 x6).set (kU:Int).toNat true)) true x6 x7 x8 x9 (wrap64 (kU + 1)) Cc Uc Ic Gc ec)) else (none)) else (none)) else (none)) else (gb.l4 k x3 x5 x6 x7 x8 x9 (wrap64 (kU + 1)) Cc Uc Ic Gc ec)) else (none)) else (none)) else (gb.l3 k x3 x5 x6 x7 (wrap64 (x8 + 1)) Cc Uc Ic Gc ec)
end
def gb.f (k:Nat) (Oa:List Int) (Ja:Int) (Fa:Int) (Ia:Int) (Ca:List (Ke)):Option ((List (List Bool))):=gb.l0 k (([]:List (List Bool))) 0 Oa Ja Fa Ia Ca
def gb.T16:Bool × List (List Nat × List Nat):=(true,[([],[]),([0],[0]),([],[]),([],[]),([2,3],[2,3]),([4],[4]),([1,5],[1,5]),([6],[6]),([],[]),([],[]),([],[]),([9,10],[9,10]),([11],[11]),([8,12],[8,12]),([13],[13]),([7,14],[7,14]),([15,15,0,1,2,3,4,5,6,7,8,9,10,11,12,13,14,15],[15])])
def gb.B16:List Nat:=[0,1,0,0,12,28,63,127,0,0,0,1536,3584,7936,16128,32767,65535]
theorem gb.C7:Tn .any (opsOf Try.f41 16)=gb.T16:=by kernel_rfl
theorem gb.q4:oo gb.T16.2 gb.B16=true:=by kernel_rfl
theorem gb.calls (k:Nat) (Wa:Option Addr) (Ya:Nat) (Oa:List Int) (Ja:Int) (Fa:Int) (Ia:Int) (Ob:Option Addr) (Cb:Nat) (Ca:List (Ke)) (r:List (List Bool)) (w:World) (Ld:Kd.C (Kd.int .i64) w Wa Oa.length Oa) (Gd:Oa.length ≤ Ya) (Ue:Kd.C Gs w Ob Ca.length Ca) (Qe:Ca.length ≤ Cb) (h:gb.f k Oa Ja Fa Ia Ca=some r) :
  Calls Try.prog 41 #[.agg #[.slice Wa Oa.length Ya,.int .i64 Ja,.int .i64 Fa,.int .i64 Ia,.slice Ob Ca.length Cb]] w fun e w'=>∃ Bn:Value,e = .returned (Bn)∧Kd.S (Kd.slice 4 Kd.bool) 60 w' w.heap.size (fun _=>True) Bn r∧Below w.heap.size w w':=by
 have gB:=Try.underlying30;have fB:=Try.underlying59;have Md:=ja.mk Ld;have Rd:=ja.mk Gd;clear Ld Gd;have Ce:=ja.mk Ue;have Ff:=ja.mk Qe;clear Ue Qe;have HB:=ja.mk (Below.refl w.heap.size w);have H:(gb.l0 k (([]:List (List Bool))) 0 Oa Ja Fa Ia Ca)=some r:=h;clear h;obtain ⟨tf,sg⟩:∃ y_:List (List Bool),y_=(([]:List (List Bool))):=⟨_,rfl⟩;replace H:(gb.l0 k tf 0 Oa Ja Fa Ia Ca)=some r:=by first|(rw [sg];with_reducible exact H)|(have Ie:=(Option.bind_some _ _).symm.trans H;rw [sg];with_reducible exact Ie)|(have Ie:=(Option.bind_some _ _).symm.trans H;with_reducible exact Ie)|with_reducible exact H|(rw [sg];exact H)|exact H
 have Wj:=ja.mk sg;clear sg;have H':=ja.mk H;clear H;go_enter Try.func41,Try.ntmps41;go_wp2_with (first|((with_reducible refine qb (N:=1) rfl ?_);refine Gb ?hg (N:=1) ?hd (cs:=#[.slice Wa Oa.length Ya,.int .i64 Ja,.int .i64 Fa,.int .i64 Ia,.slice Ob Ca.length Cb]) (t:=30) ?hr ?_;(case hd=>rfl);(case hg=>rfl);(case hr=>first|(go_simp;done)|(go_simp;rfl));intro ya hg w2 Rb hb;have Eb:=ja.mk (Na (by repeat (first|(with_reducible first|exact HB.out|apply qa|apply ia|apply ta)|exact HB.out)) hb);have Jb:=ja.mk (Rb);have Ub:=ja.mk ((by rw [hg];exact (Ga (by repeat (first|(with_reducible first|exact HB.out|apply qa|apply ia|apply ta)|exact HB.out))):w.heap.size ≤ ya));have uc:=ja.mk ((by rw [hg];exact (Ga (by repeat (first|(with_reducible first|exact HB.out|apply qa|apply ia|apply ta)|exact HB.out))):w.heap.size ≤ ya));clear HB;have HB:=Eb;have oa:=Jb;have xd:=Ub;have Ra:=uc;clear Eb Jb Ub uc hb Rb hg)|((with_reducible refine qb (N:=11) rfl ?_);refine Kd.uac (Kd.slice 4 Kd.bool) _ 60 ?hg (N:=11) ?hd (xs:=([]:List (List Bool))) (inner:=[]) (ok:=fun _=>True) (Sh:=fun _=>True) ?hr ?hp (fun _ hk=>hk) trivial (Below.refl _ _) (Nat.le_refl _) (by simp) ?_;(case hd=>rfl);(case hg=>rfl);(case hr=>first|(go_simp;done)|(go_simp;rfl));(case hp=>exact (Ed.none _ _));intro qo w3 tS hb Vn yf;clear Vn yf;(first|rw [← Wj.out] at tS|(simp only [Int.reduceToNat] at tS;rw [← Wj.out] at tS));have Eb:=ja.mk (Kd.vl tS (Ga (by repeat (first|(with_reducible first|exact HB.out|apply qa|apply ia|apply ta|refine ua ?_ Ra.out)|exact HB.out))));have Jb:=ja.mk (Ta (g:=ya) (o:=.cells #[.slice Wa Oa.length Ya,.int .i64 Ja,.int .i64 Fa,.int .i64 Ia,.slice Ob Ca.length Cb] 30 (0,0)) (by (with_reducible repeat (first|refine Aa ?_ _|refine Da ?_|refine Ba ?_ _));exact oa.out) hb);have Ub:=ja.mk (Na (by repeat (first|(with_reducible first|exact HB.out|apply qa|apply ia|apply ta|refine ua ?_ Ra.out)|exact HB.out)) hb);clear oa HB;have si:=Eb;have oa:=Jb;have HB:=Ub;clear Eb Jb Ub hb tS))
 go_loopg [3,4] k (fun kq v3 v4 w'=>∃ (ye:List (List Bool)) (Vc:Int),v4 = .int .i64 Vc∧ja (gb.l0 kq ye Vc Oa Ja Fa Ia Ca=some r)∧ja (kq ≤ k)∧ja (Kd.S (Kd.slice 4 Kd.bool) 60 w' w.heap.size (fun _=>True) v3 ye)∧ja (w'.heap[ya]? = some (.cells #[(.slice Wa Oa.length Ya),.int .i64 Ja,.int .i64 Fa,.int .i64 Ia,(.slice Ob Ca.length Cb)] 30 (0,0)))∧ja (Below w.heap.size w w'))
 case atStart=>exact ⟨(tf),(0),(by first|rfl|(simp;done)|(simp [*];done)),H',⟨Nat.le_refl _⟩,⟨by (with_reducible repeat (first|apply Kd.ld|apply Kd.jd|apply Kd.Jd));exact si.out⟩,⟨by (with_reducible repeat (first|refine Aa ?_ _|refine Da ?_|refine Ba ?_ _));exact oa.out⟩,⟨by repeat (first|(with_reducible first|exact HB.out|apply qa|apply ia|apply ta|refine ua ?_ Ra.out)|exact HB.out)⟩⟩
 case round =>
  clear H'
  try clear p2
  try clear c4
  (try clear HA);(try clear Rh);(try clear qd);(try clear oa);(try clear HB);obtain ⟨ye,Vc,rfl,HA,Rh,qd,oa,HB⟩:=hrel;cases gk with
  | zero=>exact absurd HA.out (by simp [gb.l0])
  | succ k1 =>
   have H:=HA.out;clear HA;simp only [gb.l0] at H
   by_cases c5:Vc < (Ca.length:Int)
   ·rw [if_pos c5] at H;have ak:decide (Vc < (Ca.length:Int))=true:=decide_eq_true c5;clear c5
    by_cases c6:0 ≤ Ia
    ·rw [if_pos c6] at H;have Mm:=eq_true c6;have jB:decide (0 ≤ Ia)=true:=decide_eq_true c6;clear c6
     by_cases c7:(Ia:Int).toNat ≤ 281474976710656
     ·rw [if_pos c7] at H;have Qk:=eq_true c7;have Ur:decide ((Ia:Int).toNat ≤ 281474976710656)=true:=decide_eq_true c7;clear c7;obtain ⟨Gh,Jf⟩:∃ y_:List Bool,y_=(List.replicate (Ia:Int).toNat false):=⟨_,rfl⟩;replace H:(if ye.length < 5864062014805 then (gb.l0 k1 (ye ++ [Gh]) (wrap64 (Vc + 1)) Oa Ja Fa Ia Ca) else (none))=some r:=by first|(rw [Jf];with_reducible exact H)|(have Ie:=(Option.bind_some _ _).symm.trans H;rw [Jf];with_reducible exact Ie)|(have Ie:=(Option.bind_some _ _).symm.trans H;with_reducible exact Ie)|with_reducible exact H|(rw [Jf];exact H)|exact H
      have Il:=ja.mk Jf;clear Jf
      by_cases c8:ye.length < 5864062014805
      ·rw [if_pos c8] at H;have iao:=ja.mk c8;clear c8;obtain ⟨Fg,Hf⟩:∃ y_:List (List Bool),y_=(ye ++ [Gh]):=⟨_,rfl⟩;replace H:(gb.l0 k1 Fg (wrap64 (Vc + 1)) Oa Ja Fa Ia Ca)=some r:=by first|(rw [Hf];with_reducible exact H)|(have Ie:=(Option.bind_some _ _).symm.trans H;rw [Hf];with_reducible exact Ie)|(have Ie:=(Option.bind_some _ _).symm.trans H;with_reducible exact Ie)|with_reducible exact H|(rw [Hf];exact H)|exact H
       have Bj:=ja.mk Hf;clear Hf;have H':=ja.mk H;clear H;have Vg:wr.cell? ⟨ya,0,none⟩=some (.slice Wa Oa.length Ya):=(ga oa.out 0).trans rfl;have Ug:wr.cell? ⟨ya,1,none⟩=some (.int .i64 Ja):=(ga oa.out 1).trans rfl;have Tg:wr.cell? ⟨ya,2,none⟩=some (.int .i64 Fa):=(ga oa.out 2).trans rfl;have Sg:wr.cell? ⟨ya,3,none⟩=some (.int .i64 Ia):=(ga oa.out 3).trans rfl;have Rg:wr.cell? ⟨ya,4,none⟩=some (.slice Ob Ca.length Cb):=(ga oa.out 4).trans rfl;have Qg:=aa oa.out 0;have Pg:=aa oa.out 1;have Og:=aa oa.out 2;have Ng:=aa oa.out 3;have Mg:=aa oa.out 4;go_wp2_with (first|((with_reducible refine qb (N:=22) rfl ?_);refine Kd.Uw Kd.bool _ 4 rfl (N:=22) rfl 60 _ _ rfl Ia rfl rfl Try.underlying60 (.bool false) 1 ow rfl (by decide) (by omega) false (ok:=fun _=>True) (Sh:=fun _=>True) rfl (fun _ hk=>hk) trivial (Sa) (Nat.le_trans (Nat.mul_le_mul_right _ (Sa:Ia.toNat ≤ 281474976710656)) (by omega)) (Below.refl _ _) (Nat.le_refl _) ?_;intro Qz Fs Oo hb Vn yf;clear Vn yf;(first|rw [← Il.out] at Oo|(simp only [Int.reduceToNat] at Oo;rw [← Il.out] at Oo));have Eb:=ja.mk (Kd.js (by (with_reducible repeat (first|apply Kd.ld|apply Kd.jd|apply Kd.Jd));exact qd.out) (Kd.Ki Oo) hb);have Jb:=ja.mk (Kd.Qd Oo (Ga (by repeat (first|(with_reducible first|exact HB.out|apply qa|apply ia|apply ta|refine ua ?_ Ra.out)|exact HB.out))));have Ub:=ja.mk (Ta (g:=ya) (o:=.cells #[.slice Wa Oa.length Ya,.int .i64 Ja,.int .i64 Fa,.int .i64 Ia,.slice Ob Ca.length Cb] 30 (0,0)) (by (with_reducible repeat (first|refine Aa ?_ _|refine Da ?_|refine Ba ?_ _));exact oa.out) hb);have uc:=ja.mk (Na (by repeat (first|(with_reducible first|exact HB.out|apply qa|apply ia|apply ta|refine ua ?_ Ra.out)|exact HB.out)) hb);clear qd oa HB;have qd:=Eb;have Hi:=Jb;have oa:=Ub;have HB:=uc;clear Eb Jb Ub uc hb Oo;obtain ⟨eR,MQ,V2⟩:=Kd.ze Hi.out;subst V2)|((with_reducible refine ee (b:=.append) (xs:=#[.tmp 19,.tmp 23]) rfl ?_);at_builtin;refine Kd.Cz (Kd.slice 4 Kd.bool) (w0:=w) w.heap.size rfl (.tmp 19) (.tmp 23) 55 60 (.slice none 0 0) 24 rfl Try.underlying55 dD rfl (by decide) (by omega) u3 ye Gh [.slice eR Gh.length MQ] (fun _=>True) (fun k_=>some k_=(.slice eR Gh.length MQ:Value).ownBlock) rfl rfl ?aP (fun k_ hk_=>((Kd.Td (Ww:=fun k_=>((fun _=>True)) k_∧some k_ ≠ (u3:Value).ownBlock) (Kd.Dz (Hi.out) (Kd.uC qd.out) (by decide)) (fun k_ hk=>⟨trivial,hk.2⟩))).1 k_ hk_.symm) ?aF ?aO ?aB ?aS ?aL ?_;(case aP=>exact Kd.zZ (Kd.Td (Kd.Sv rfl (Kd.Td (Ww:=fun k_=>((fun _=>True)) k_∧some k_ ≠ (u3:Value).ownBlock) (Kd.Dz (Hi.out) (Kd.uC qd.out) (by decide)) (fun k_ hk=>⟨trivial,hk.2⟩))) (fun _ h_=>h_)));(case aB=>exact (by repeat (first|(with_reducible first|exact HB.out|apply qa|apply ia|apply ta|refine ua ?_ Ra.out)|exact HB.out)));(case aF=>exact (fun _ _=>trivial));(case aO=>exact (by (with_reducible repeat (first|apply Kd.ld|apply Kd.jd|apply Kd.Jd));exact Kd.ej qd.out (fun k_ hk=>⟨trivial,fun e_=>hk.2 e_⟩)));(case aS=>exact (Ga (by repeat (first|(with_reducible first|exact HB.out|apply qa|apply ia|apply ta|refine ua ?_ Ra.out)|exact HB.out))));(case aL=>have:=iao.out;omega);intro iE qu ho hb hg hat;rw [← Bj.out] at ho;have Eb:=ja.mk (Dd (g:=ya) (o:=.cells #[.slice Wa Oa.length Ya,.int .i64 Ja,.int .i64 Fa,.int .i64 Ia,.slice Ob Ca.length Cb] 30 (0,0)) (by (with_reducible repeat (first|refine Aa ?_ _|refine Da ?_|refine Ba ?_ _));exact oa.out) hg (Kd.gao qd.out oa.out (by decide)));have Jb:=ja.mk (hb);have Ub:=ja.mk (ho);clear oa HB qd Hi;have oa:=Eb;have HB:=Jb;have Oi:=Ub;clear Eb Jb Ub ho hb hg hat))
       go_roundg k1
       case measure=>have:=Rh.out;omega
       case rel=>exact ⟨(Fg),(wrap64 (Vc + 1)),(by first|rfl|(simp;done)|(simp [*];done)),H',⟨by have:=Rh.out;omega⟩,⟨by (with_reducible repeat (first|apply Kd.ld|apply Kd.jd|apply Kd.Jd));exact Oi.out⟩,⟨by (with_reducible repeat (first|refine Aa ?_ _|refine Da ?_|refine Ba ?_ _));exact oa.out⟩,⟨by repeat (first|(with_reducible first|exact HB.out|apply qa|apply ia|apply ta|refine ua ?_ Ra.out)|exact HB.out)⟩⟩
      ·rw [if_neg c8] at H;exact absurd H (by simp)
     ·rw [if_neg c7] at H;exact absurd H (by simp)
    ·rw [if_neg c6] at H;exact absurd H (by simp)
   ·rw [if_neg c5] at H;have ak:decide (Vc < (Ca.length:Int))=false:=decide_eq_false c5;clear c5;have H':=ja.mk H;clear H;have uh:wr.cell? ⟨ya,0,none⟩=some (.slice Wa Oa.length Ya):=(ga oa.out 0).trans rfl;have th:wr.cell? ⟨ya,1,none⟩=some (.int .i64 Ja):=(ga oa.out 1).trans rfl;have qh:wr.cell? ⟨ya,2,none⟩=some (.int .i64 Fa):=(ga oa.out 2).trans rfl;have oh:wr.cell? ⟨ya,3,none⟩=some (.int .i64 Ia):=(ga oa.out 3).trans rfl;have nh:wr.cell? ⟨ya,4,none⟩=some (.slice Ob Ca.length Cb):=(ga oa.out 4).trans rfl;have bh:=aa oa.out 0;have ah:=aa oa.out 1;have Zg:=aa oa.out 2;have Yg:=aa oa.out 3;have Xg:=aa oa.out 4;go_wp2
    go_loopg [5] k1 (fun kq v5 w'=>∃ (Oz:List (List Bool)) (Km:Bool),v5 = .bool Km∧ja (gb.l1 kq Oz Km Oa Ja Fa Ia Ca=some r)∧ja (kq ≤ k1)∧ja (Kd.S (Kd.slice 4 Kd.bool) 60 w' w.heap.size (fun _=>True) u3 Oz)∧ja (w'.heap[ya]? = some (.cells #[(.slice Wa Oa.length Ya),.int .i64 Ja,.int .i64 Fa,.int .i64 Ia,(.slice Ob Ca.length Cb)] 30 (0,0)))∧ja (Below w.heap.size w w'))
    case atStart=>exact ⟨(ye),(true),(by first|rfl|(simp;done)|(simp [*];done)),H',⟨Nat.le_refl _⟩,⟨by (with_reducible repeat (first|apply Kd.ld|apply Kd.jd|apply Kd.Jd));exact qd.out⟩,⟨by (with_reducible repeat (first|refine Aa ?_ _|refine Da ?_|refine Ba ?_ _));exact oa.out⟩,⟨by repeat (first|(with_reducible first|exact HB.out|apply qa|apply ia|apply ta|refine ua ?_ Ra.out)|exact HB.out)⟩⟩
    case round =>
     clear H'
     try clear p2
     try clear c4
     try clear c5
     try clear ak
     try clear c6
     try clear Mm
     try clear jB
     try clear p6
     try clear c7
     try clear Qk
     try clear Ur
     try clear c8
     try clear uh
     try clear th
     try clear qh
     try clear oh
     try clear nh
     try clear Vg
     try clear Ug
     try clear Tg
     try clear Sg
     try clear Rg
     try clear bh
     try clear ah
     try clear Zg
     try clear Yg
     try clear Xg
     try clear Qg
     try clear Pg
     try clear Og
     try clear Ng
     try clear Mg
     try clear p2
     (try clear HA);(try clear Xo);(try clear qd);(try clear oa);(try clear HB);obtain ⟨Oz,Km,rfl,HA,Xo,qd,oa,HB⟩:=hrel;cases gk with
     | zero=>exact absurd HA.out (by simp [gb.l1])
     | succ k2 =>
      have H:=HA.out;clear HA;simp only [gb.l1] at H
      by_cases DI:Km=true
      ·subst DI;have H1:(gb.l2 k2 Oz false (wrap64 ((Ca.length:Int) - 1)) Oa Ja Fa Ia Ca)=some r:=by rw [if_pos rfl] at H;exact H
       clear H;have H:=H1;clear H1;have H':=ja.mk H;clear H;have pn:wr.cell? ⟨ya,0,none⟩=some (.slice Wa Oa.length Ya):=(ga oa.out 0).trans rfl;have kn:wr.cell? ⟨ya,1,none⟩=some (.int .i64 Ja):=(ga oa.out 1).trans rfl;have jn:wr.cell? ⟨ya,2,none⟩=some (.int .i64 Fa):=(ga oa.out 2).trans rfl;have gn:wr.cell? ⟨ya,3,none⟩=some (.int .i64 Ia):=(ga oa.out 3).trans rfl;have en:wr.cell? ⟨ya,4,none⟩=some (.slice Ob Ca.length Cb):=(ga oa.out 4).trans rfl;have dn:=aa oa.out 0;have bn:=aa oa.out 1;have Zm:=aa oa.out 2;have Ym:=aa oa.out 3;have Xm:=aa oa.out 4;go_wp2
       go_loopg [5,6] k2 (fun kq v5 v6 w'=>∃ (SP:List (List Bool)) (Me:Bool) (Fe:Int),v5 = .bool Me∧v6 = .int .i64 Fe∧ja (gb.l2 kq SP Me Fe Oa Ja Fa Ia Ca=some r)∧ja (kq ≤ k2)∧ja (Kd.S (Kd.slice 4 Kd.bool) 60 w' w.heap.size (fun _=>True) u3 SP)∧ja (w'.heap[ya]? = some (.cells #[(.slice Wa Oa.length Ya),.int .i64 Ja,.int .i64 Fa,.int .i64 Ia,(.slice Ob Ca.length Cb)] 30 (0,0)))∧ja (Below w.heap.size w w'))
       case atStart=>exact ⟨(Oz),(false),(wrap64 ((Ca.length:Int) - 1)),(by first|rfl|(simp;done)|(simp [*];done)),(by first|rfl|(simp;done)|(simp [*];done)),H',⟨Nat.le_refl _⟩,⟨by (with_reducible repeat (first|apply Kd.ld|apply Kd.jd|apply Kd.Jd));exact qd.out⟩,⟨by (with_reducible repeat (first|refine Aa ?_ _|refine Da ?_|refine Ba ?_ _));exact oa.out⟩,⟨by repeat (first|(with_reducible first|exact HB.out|apply qa|apply ia|apply ta|refine ua ?_ Ra.out)|exact HB.out)⟩⟩
       case round =>
        clear H'
        try clear c1
        try clear p2
        try clear c4
        try clear c5
        try clear ak
        try clear c6
        try clear Mm
        try clear jB
        try clear p6
        try clear c7
        try clear Qk
        try clear Ur
        try clear c8
        try clear DI
        try clear uh
        try clear th
        try clear qh
        try clear oh
        try clear nh
        try clear pn
        try clear kn
        try clear jn
        try clear gn
        try clear en
        try clear Vg
        try clear Ug
        try clear Tg
        try clear Sg
        try clear Rg
        try clear bh
        try clear ah
        try clear Zg
        try clear Yg
        try clear Xg
        try clear dn
        try clear bn
        try clear Zm
        try clear Ym
        try clear Xm
        try clear Qg
        try clear Pg
        try clear Og
        try clear Ng
        try clear Mg
        try clear p2
        try clear p6
        (try clear HA);(try clear Es);(try clear qd);(try clear oa);(try clear HB);obtain ⟨SP,Me,Fe,rfl,rfl,HA,Es,qd,oa,HB⟩:=hrel;cases gk with
        | zero=>exact absurd HA.out (by simp [gb.l2])
        | succ k3 =>
         have H:=HA.out;clear HA;simp only [gb.l2] at H
         by_cases Qo:Fe ≥ 0
         ·rw [if_pos Qo] at H;have Bm:decide (0 ≤ Fe)=true:=decide_eq_true Qo;clear Qo
          by_cases Zp:0 ≤ Fe
          ·rw [if_pos Zp] at H;have Nn:decide (0 ≤ Fe)=true:=decide_eq_true Zp;clear Zp
           by_cases Xk:Fe < (Ca.length:Int)
           ·rw [if_pos Xk] at H;have fu:decide (Fe < (Ca.length:Int))=true:=decide_eq_true Xk;clear Xk;replace H:=Option.bind_eq_some_iff.mp H;obtain ⟨t112,SJ,H⟩:=H;replace H:(gb.l3 k3 SP Me Fe t112 0 Oa Ja Fa Ia Ca)=some r:=H;have OP:=ja.mk SJ;clear SJ;have H':=ja.mk H;clear H;have jC:wr.cell? ⟨ya,0,none⟩=some (.slice Wa Oa.length Ya):=(ga oa.out 0).trans rfl;have iC:wr.cell? ⟨ya,1,none⟩=some (.int .i64 Ja):=(ga oa.out 1).trans rfl;have gC:wr.cell? ⟨ya,2,none⟩=some (.int .i64 Fa):=(ga oa.out 2).trans rfl;have fC:wr.cell? ⟨ya,3,none⟩=some (.int .i64 Ia):=(ga oa.out 3).trans rfl;have eC:wr.cell? ⟨ya,4,none⟩=some (.slice Ob Ca.length Cb):=(ga oa.out 4).trans rfl;have JB:=aa oa.out 0;have IB:=aa oa.out 1;have FB:=aa oa.out 2;have EB:=aa oa.out 3;have DB:=aa oa.out 4;have Cr:0 ≤ (Fe:Int):=Sa;have Br:Fe < (Ca.length:Int):=Sa;obtain ⟨Mi,q6,S3,VH,Ri,sB,rB,qB,oB,YM,dN⟩:=wj Ce.out Fe Cr Br;cases VH
            try replace Ri:=Qa HB.out Ri
            try replace sB:=Qa HB.out sB
            try replace rB:=Qa HB.out rB
            try replace qB:=Qa HB.out qB
            try replace oB:=Qa HB.out oB
            have fY:=ja.mk dN;have sY:=ja.mk YM;clear dN YM;replace Cr:=eq_true Cr;replace Br:=eq_true Br;go_wp2_with (first|((with_reducible refine mb (f:=72) rfl ?_);refine Mc (some 39) rfl rfl Try.func72 (by kernel_rfl) rfl #[.agg #[.slice q6 ((Ea Ca Fe).f0).length S3,.int .i64 ((Ea Ca Fe).f1),.int .i64 ((Ea Ca Fe).f2),.int .i64 ((Ea Ca Fe).f3),.int .i64 ((Ea Ca Fe).f4)]] rfl (by (try simp only [List.map_toArray,List.map_cons,List.map_nil]);first|done|rfl|(simp only [List.length_drop,List.length_take];rfl)) ?_;(with_reducible refine (Gk.calls _ _ ((Ea Ca Fe).f0) ((Ea Ca Fe).f1) ((Ea Ca Fe).f2) ((Ea Ca Fe).f3) ((Ea Ca Fe).f4) t112 _ ?dc ?Zb OP.out).mono ?_);(case dc=>repeat (first|exact (Kd.Db fY.out HB.out)|(with_reducible refine Kd.Bb ?_ _)|(with_reducible refine Kd.Ab ?_ _)|(with_reducible refine Kd.Qb ?_)));(case Zb=>exact sY.out);rintro e FE ⟨y7,rfl,Qi,hb⟩;refine ⟨_,rfl,?_⟩;have Eb:=ja.mk (Kd.Nf (by (with_reducible repeat (first|apply Kd.ld|apply Kd.jd|apply Kd.Jd));exact qd.out) hb);have Jb:=ja.mk (Kd.Qd Qi (Ga (by repeat (first|(with_reducible first|exact HB.out|apply qa|apply ia|apply ta|refine ua ?_ Ra.out)|exact HB.out))));have Ub:=ja.mk (Ta (g:=ya) (o:=.cells #[.slice Wa Oa.length Ya,.int .i64 Ja,.int .i64 Fa,.int .i64 Ia,.slice (some Mi) Ca.length Cb] 30 (0,0)) (by (with_reducible repeat (first|refine Aa ?_ _|refine Da ?_|refine Ba ?_ _));exact oa.out) hb);have uc:=ja.mk (Na (by repeat (first|(with_reducible first|exact HB.out|apply qa|apply ia|apply ta|refine ua ?_ Ra.out)|exact HB.out)) hb);clear qd oa HB;have qd:=Eb;have Hg:=Jb;have oa:=Ub;have HB:=uc;clear Eb Jb Ub uc;(try clear hb);(try clear ni);(try clear hk);(try clear hi);(try clear Qi)))
            go_loopg [5,8] k3 (fun kq v5 v8 w'=>∃ (Yw:List (List Bool)) (RP:Bool) (Bf:Int),v5 = .bool RP∧v8 = .int .i64 Bf∧ja (gb.l3 kq Yw RP Fe t112 Bf Oa Ja Fa Ia Ca=some r)∧ja (kq ≤ k3)∧ja (Kd.S (Kd.slice 4 Kd.bool) 60 w' w.heap.size (fun _=>True) u3 Yw)∧ja (Kd.R (Kd.int .i64) 3 w' w.heap.size (fun _=>True) y7 t112)∧ja (w'.heap[ya]? = some (.cells #[(.slice Wa Oa.length Ya),.int .i64 Ja,.int .i64 Fa,.int .i64 Ia,(.slice (some Mi) Ca.length Cb)] 30 (0,0)))∧ja (Below w.heap.size w w'))
            case atStart=>exact ⟨(SP),(Me),(0),(by first|rfl|(simp;done)|(simp [*];done)),(by first|rfl|(simp;done)|(simp [*];done)),H',⟨Nat.le_refl _⟩,⟨by (with_reducible repeat (first|apply Kd.ld|apply Kd.jd|apply Kd.Jd));exact qd.out⟩,⟨by (with_reducible repeat (first|apply Kd.yb|apply Kd.xb|apply Kd.Pb));exact Hg.out⟩,⟨by (with_reducible repeat (first|refine Aa ?_ _|refine Da ?_|refine Ba ?_ _));exact oa.out⟩,⟨by repeat (first|(with_reducible first|exact HB.out|apply qa|apply ia|apply ta|refine ua ?_ Ra.out)|exact HB.out)⟩⟩
            case round =>
             clear H'
             try clear c1
             try clear p1
             try clear q1
             try clear hx1
             try clear p2
             try clear c4
             try clear c5
             try clear ak
             try clear c6
             try clear Mm
             try clear jB
             try clear p6
             try clear c7
             try clear Qk
             try clear Ur
             try clear c8
             try clear qP
             try clear xI
             try clear wI
             try clear kS
             try clear DI
             try clear Qo
             try clear Bm
             try clear Zp
             try clear Nn
             try clear Xk
             try clear fu
             try clear uh
             try clear th
             try clear qh
             try clear oh
             try clear nh
             try clear pn
             try clear kn
             try clear jn
             try clear gn
             try clear en
             try clear jC
             try clear iC
             try clear gC
             try clear fC
             try clear eC
             try clear Vg
             try clear Ug
             try clear Tg
             try clear Sg
             try clear Rg
             try clear bh
             try clear ah
             try clear Zg
             try clear Yg
             try clear Xg
             try clear dn
             try clear bn
             try clear Zm
             try clear Ym
             try clear Xm
             try clear JB
             try clear IB
             try clear FB
             try clear EB
             try clear DB
             try clear Qg
             try clear Pg
             try clear Og
             try clear Ng
             try clear Mg
             try clear Ri
             try clear sB
             try clear rB
             try clear qB
             try clear oB
             try clear Cr
             try clear p2
             try clear p6
             try clear Br
             (try clear HA);(try clear YT);(try clear qd);(try clear Sk);(try clear oa);(try clear HB);obtain ⟨Yw,RP,Bf,rfl,rfl,HA,YT,qd,Sk,oa,HB⟩:=hrel;cases gk with
             | zero=>exact absurd HA.out (by simp [gb.l3])
             | succ k4 =>
              have H:=HA.out;clear HA;simp only [gb.l3] at H
              by_cases uw:Bf < (t112.length:Int)
              ·rw [if_pos uw] at H;have BD:decide (Bf < (t112.length:Int))=true:=decide_eq_true uw;clear uw
               by_cases zD:0 ≤ Bf
               ·rw [if_pos zD] at H;have gT:decide (0 ≤ Bf)=true:=decide_eq_true zD;clear zD
                by_cases CI:0 ≤ (rd t112 Bf)
                ·rw [if_pos CI] at H;have pP:decide (0 ≤ (rd t112 Bf))=true:=decide_eq_true CI;clear CI
                 by_cases xJ:(rd t112 Bf) < (Ca.length:Int)
                 ·rw [if_pos xJ] at H;have cac:decide ((rd t112 Bf) < (Ca.length:Int))=true:=decide_eq_true xJ;clear xJ
                  by_cases vE:(rd t112 Bf) < (Yw.length:Int)
                  ·rw [if_pos vE] at H;have nZ:decide ((rd t112 Bf) < (Yw.length:Int))=true:=decide_eq_true vE;clear vE;replace H:=Option.bind_eq_some_iff.mp H;obtain ⟨t119,Lad,H⟩:=H;replace H:(gb.l4 k4 Yw RP Fe t112 Bf t119 0 Oa Ja Fa Ia Ca)=some r:=H;have A28:=ja.mk Lad;clear Lad;have H':=ja.mk H;clear H;obtain ⟨Gad,n3,U2⟩:=Kd.ze Sk.out;subst U2
                   try go_wp2
                   have Eb:=ja.mk (Kd.Jd qd.out);have Jb:=ja.mk (Kd.Pb Sk.out);have Ub:=ja.mk (Da oa.out);have uc:=ja.mk (ta HB.out);clear qd Sk oa HB;have qd:=Eb;have Sk:=Jb;have oa:=Ub;have HB:=uc;clear Eb Jb Ub uc;have WU:0 ≤ (Bf:Int):=Sa;have SU:Bf < (t112.length:Int):=Sa;obtain ⟨sP,Pan,FF⟩:=Kd.Zf (Kd.Wc Sk.out).2.2 Bf WU SU;cases Pan;replace WU:=eq_true WU;replace SU:=eq_true SU;have VU:0 ≤ ((rd t112 Bf):Int):=Sa;have RU:(rd t112 Bf) < (Ca.length:Int):=Sa;obtain ⟨pac,iU,nT,Oan,Ex,Dx,Cx,Bx,zx,XM,cN⟩:=wj Ce.out (rd t112 Bf) VU RU;have OM:=zx;have PM:=Bx;have QM:=Cx;have RM:=Dx;have SM:=Ex;obtain rfl:Mi=pac:=(by injection Oan)
                   try replace Ex:=Qa HB.out Ex
                   try replace Dx:=Qa HB.out Dx
                   try replace Cx:=Qa HB.out Cx
                   try replace Bx:=Qa HB.out Bx
                   try replace zx:=Qa HB.out zx
                   have GP:=ja.mk cN;have rY:=ja.mk XM;clear cN XM;replace VU:=eq_true VU;replace RU:=eq_true RU;have UU:0 ≤ (Bf:Int):=Sa;have QU:Bf < (t112.length:Int):=Sa;obtain ⟨oac,Nan,EF⟩:=Kd.Zf (Kd.Wc Sk.out).2.2 Bf UU QU;obtain rfl:sP=oac:=(by injection Nan);replace UU:=eq_true UU;replace QU:=eq_true QU;obtain ⟨j6,XS,KQ⟩:=Kd.ei qd.out;(first|subst KQ|(injection KQ with dZ f2_ cZ;have f4_:=dZ.symm;have f5_:=cZ.symm;clear dZ f2_ cZ;subst f4_;subst f5_));have ER:0 ≤ ((rd t112 Bf):Int):=Sa;have DR:(rd t112 Bf) < (Yw.length:Int):=Sa;obtain ⟨eF,hU,mT,Man,yx,WM,bN⟩:=Sm (Kd.Ud qd.out).2.2 (rd t112 Bf) ER DR;cases Man;obtain ⟨Jar,E2,J2,GS⟩:=Kd.zw qd.out [] (rd t112 Bf) ER (by first|exact DR|exact Sa|(have e_:=(Kd.Ud qd.out).1;omega));obtain ⟨Sad,rfl,QH⟩:=J2;have dy:=GS 0 _ rfl;rw [Nat.add_zero,show ((Kd.slice 4 Kd.bool)).sz=1 from rfl,Nat.mul_one] at dy;replace dy:=Option.some.inj (dy.symm.trans yx);rw [dy] at QH;have Jz:=ja.mk (show Kd.R Kd.bool 4 _ _ _ _ (Fc Yw (rd t112 Bf)) from QH);clear dy QH;have xC:=ja.mk yx;clear GS E2;have Xt:=ja.mk bN;have qY:=ja.mk WM;clear bN WM;replace ER:=eq_true ER;replace DR:=eq_true DR;refine Qm (n:=17) (S:=fun w'=>w'.cell? ⟨ya,0,none⟩=some (.slice Wa Oa.length Ya)∧w'.cell? ⟨ya,1,none⟩=some (.int .i64 Ja)∧w'.cell? ⟨ya,2,none⟩=some (.int .i64 Fa)∧w'.cell? ⟨ya,3,none⟩=some (.int .i64 Ia)∧w'.cell? ⟨ya,4,none⟩=some (.slice (some Mi) Ca.length Cb)∧w'.cell? (sP.add (Bf).toNat)=some (.int .i64 (rd t112 Bf))∧w'.cell? (Mi.add (((rd t112 Bf)).toNat * 5))=some (.slice iU ((Ea Ca (rd t112 Bf)).f0).length nT)∧w'.cell? ⟨(Mi.add (((rd t112 Bf)).toNat * 5)).block,(Mi.add (((rd t112 Bf)).toNat * 5)).off + 1,none⟩=some (.int .i64 ((Ea Ca (rd t112 Bf)).f1))∧w'.cell? ⟨(Mi.add (((rd t112 Bf)).toNat * 5)).block,(Mi.add (((rd t112 Bf)).toNat * 5)).off + 2,none⟩=some (.int .i64 ((Ea Ca (rd t112 Bf)).f2))∧w'.cell? ⟨(Mi.add (((rd t112 Bf)).toNat * 5)).block,(Mi.add (((rd t112 Bf)).toNat * 5)).off + 3,none⟩=some (.int .i64 ((Ea Ca (rd t112 Bf)).f3))∧w'.cell? ⟨(Mi.add (((rd t112 Bf)).toNat * 5)).block,(Mi.add (((rd t112 Bf)).toNat * 5)).off + 4,none⟩=some (.int .i64 ((Ea Ca (rd t112 Bf)).f4))∧w'.cell? (sP.add (Bf).toNat)=some (.int .i64 (rd t112 Bf))∧w'.cell? (eF.add ((rd t112 Bf)).toNat)=some (.slice hU (Fc Yw (rd t112 Bf)).length mT)) (ds:=[]) #[false,false,false,false,false,false,false,false,false,false,false,false,false,false,false,false,false] (by kernel_rfl) rfl rfl ⟨(ga oa.out 0).trans rfl,(ga oa.out 1).trans rfl,(ga oa.out 2).trans rfl,(ga oa.out 3).trans rfl,(ga oa.out 4).trans rfl,FF,(Qa HB.out SM),(Qa HB.out RM),(Qa HB.out QM),(Qa HB.out PM),(Qa HB.out OM),EF,yx⟩ (fun hHeld=>?_);refine Dj gb.C7 gb.q4 (fun dg Tv=>?_);generalize wr.drew=gE at qd Sk oa HB Jz GP Xt xC FF Ex Dx Cx Bx zx EF yx hHeld ⊢;refine zd (i:=0) (N:=some 46) (v:=?_) (a':=?_) #[true,false,false,false,false,false,false,false,false,false,false,false,false,false,false,false,false] rfl rfl (Xc dg.out (by kernel_rfl)) (fun _ _ _ h=>h) (Or.inl ⟨by rfl,?_⟩) ?_ ?_;rotate_left
                   ·intro w';go_simp;with_reducible rfl
                   rotate_left
                   ·simp only [Act.put,List.setIfInBounds_toArray,List.set_cons_zero,List.set_cons_succ,ic,jc]
                    rfl
                   refine zd (i:=2) (N:=some 48) (v:=?_) (a':=?_) #[true,false,true,false,false,false,false,false,false,false,false,false,false,false,false,false,false] rfl rfl (Xc dg.out (by kernel_rfl)) (fun _ _ _ h=>h) (Or.inl ⟨by rfl,?_⟩) ?_ ?_;rotate_left
                   ·intro w';go_simp;with_reducible rfl
                   rotate_left
                   ·simp only [Act.put,List.setIfInBounds_toArray,List.set_cons_zero,List.set_cons_succ,ic,jc]
                    rfl
                   refine zd (i:=3) (N:=some 49) (v:=?_) (a':=?_) #[true,false,true,true,false,false,false,false,false,false,false,false,false,false,false,false,false] rfl rfl (Xc dg.out (by kernel_rfl)) (fun _ _ _ h=>h) (Or.inl ⟨by rfl,?_⟩) ?_ ?_;rotate_left
                   ·intro w';go_simp;with_reducible rfl
                   rotate_left
                   ·simp only [Act.put,List.setIfInBounds_toArray,List.set_cons_zero,List.set_cons_succ,ic,jc]
                    rfl
                   refine zd (i:=4) (N:=some 50) (v:=?_) (a':=?_) #[true,false,true,true,true,false,false,false,false,false,false,false,false,false,false,false,false] rfl rfl (Xc dg.out (by kernel_rfl)) (fun _ _ _ h=>h) (Or.inl ⟨by rfl,?_⟩) ?_ ?_;rotate_left
                   ·intro w';go_simp;with_reducible rfl
                   rotate_left
                   ·simp only [Act.put,List.setIfInBounds_toArray,List.set_cons_zero,List.set_cons_succ,ic,jc]
                    rfl
                   refine zd (i:=8) (N:=some 54) (v:=?_) (a':=?_) #[true,false,true,true,true,false,false,false,true,false,false,false,false,false,false,false,false] rfl rfl (Xc dg.out (by kernel_rfl)) (fun _ _ _ h=>h) (Or.inl ⟨by rfl,?_⟩) ?_ ?_;rotate_left
                   ·intro w';go_simp;with_reducible rfl
                   rotate_left
                   ·simp only [Act.put,List.setIfInBounds_toArray,List.set_cons_zero,List.set_cons_succ,ic,jc]
                    rfl
                   refine zd (i:=9) (N:=some 55) (v:=?_) (a':=?_) #[true,false,true,true,true,false,false,false,true,true,false,false,false,false,false,false,false] rfl rfl (Xc dg.out (by kernel_rfl)) (fun _ _ _ h=>h) (Or.inl ⟨by rfl,?_⟩) ?_ ?_;rotate_left
                   ·intro w';go_simp;with_reducible rfl
                   rotate_left
                   ·simp only [Act.put,List.setIfInBounds_toArray,List.set_cons_zero,List.set_cons_succ,ic,jc]
                    rfl
                   refine zd (i:=10) (N:=some 56) (v:=?_) (a':=?_) #[true,false,true,true,true,false,false,false,true,true,true,false,false,false,false,false,false] rfl rfl (Xc dg.out (by kernel_rfl)) (fun _ _ _ h=>h) (Or.inl ⟨by rfl,?_⟩) ?_ ?_;rotate_left
                   ·intro w';go_simp;with_reducible rfl
                   rotate_left
                   ·simp only [Act.put,List.setIfInBounds_toArray,List.set_cons_zero,List.set_cons_succ,ic,jc]
                    rfl
                   refine zd (i:=11) (N:=some 57) (v:=?_) (a':=?_) #[true,false,true,true,true,false,false,false,true,true,true,true,false,false,false,false,false] rfl rfl (Xc dg.out (by kernel_rfl)) (fun _ _ _ h=>h) (Or.inl ⟨by rfl,?_⟩) ?_ ?_;rotate_left
                   ·intro w';go_simp;with_reducible rfl
                   rotate_left
                   ·simp only [Act.put,List.setIfInBounds_toArray,List.set_cons_zero,List.set_cons_succ,ic,jc]
                    rfl
                   refine Fh (i:=1) (N:=some 47) (v:=?_) (a':=?_) #[true,true,true,true,true,false,false,false,true,true,true,true,false,false,false,false,false] rfl rfl (uf dg.out Tv.out (by kernel_rfl)) (fun _ _ _ h=>h) (Or.inl ⟨by rfl,?_⟩) hHeld ?_ ?_;rotate_left
                   ·rintro w' ⟨s0,s1,s2,s3,s4,s5,s6,s7,s8,s9,sM,rM,qM⟩;go_simp;with_reducible rfl
                   rotate_left
                   ·simp only [Act.put,List.setIfInBounds_toArray,List.set_cons_zero,List.set_cons_succ,ic,jc]
                    rfl
                   refine Fh (i:=5) (N:=some 51) (v:=?_) (a':=?_) #[true,true,true,true,true,true,false,false,true,true,true,true,false,false,false,false,false] rfl rfl (uf dg.out Tv.out (by kernel_rfl)) (fun _ _ _ h=>h) (Or.inl ⟨by rfl,?_⟩) hHeld ?_ ?_;rotate_left
                   ·rintro w' ⟨s0,s1,s2,s3,s4,s5,s6,s7,s8,s9,sM,rM,qM⟩;go_simp;with_reducible rfl
                   rotate_left
                   ·simp only [Act.put,List.setIfInBounds_toArray,List.set_cons_zero,List.set_cons_succ,ic,jc]
                    rfl
                   refine zd (i:=6) (N:=some 52) (v:=?_) (a':=?_) #[true,true,true,true,true,true,true,false,true,true,true,true,false,false,false,false,false] rfl rfl (Xc dg.out (by kernel_rfl)) (fun _ _ _ h=>h) (Or.inl ⟨by rfl,?_⟩) ?_ ?_;rotate_left
                   ·intro w';go_simp;with_reducible rfl
                   rotate_left
                   ·simp only [Act.put,List.setIfInBounds_toArray,List.set_cons_zero,List.set_cons_succ,ic,jc]
                    rfl
                   refine Fh (i:=7) (N:=some 53) (v:=?_) (a':=?_) #[true,true,true,true,true,true,true,true,true,true,true,true,false,false,false,false,false] rfl rfl (uf dg.out Tv.out (by kernel_rfl)) (fun _ _ _ h=>h) (Or.inl ⟨by rfl,?_⟩) hHeld ?_ ?_;rotate_left
                   ·rintro w' ⟨s0,s1,s2,s3,s4,s5,s6,s7,s8,s9,sM,rM,qM⟩;go_simp;with_reducible rfl
                   rotate_left
                   ·simp only [Act.put,List.setIfInBounds_toArray,List.set_cons_zero,List.set_cons_succ,ic,jc]
                    rfl
                   refine Fh (i:=12) (N:=some 58) (v:=?_) (a':=?_) #[true,true,true,true,true,true,true,true,true,true,true,true,true,false,false,false,false] rfl rfl (uf dg.out Tv.out (by kernel_rfl)) (fun _ _ _ h=>h) (Or.inl ⟨by rfl,?_⟩) hHeld ?_ ?_;rotate_left
                   ·rintro w' ⟨s0,s1,s2,s3,s4,s5,s6,s7,s8,s9,sM,rM,qM⟩;go_simp;with_reducible rfl
                   rotate_left
                   ·simp only [Act.put,List.setIfInBounds_toArray,List.set_cons_zero,List.set_cons_succ,ic,jc]
                    rfl
                   refine zd (i:=13) (N:=some 59) (v:=?_) (a':=?_) #[true,true,true,true,true,true,true,true,true,true,true,true,true,true,false,false,false] rfl rfl (Xc dg.out (by kernel_rfl)) (fun _ _ _ h=>h) (Or.inl ⟨by rfl,?_⟩) ?_ ?_;rotate_left
                   ·intro w';go_simp;with_reducible rfl
                   rotate_left
                   ·simp only [Act.put,List.setIfInBounds_toArray,List.set_cons_zero,List.set_cons_succ,ic,jc]
                    rfl
                   refine Fh (i:=14) (N:=some 60) (v:=?_) (a':=?_) #[true,true,true,true,true,true,true,true,true,true,true,true,true,true,true,false,false] rfl rfl (uf dg.out Tv.out (by kernel_rfl)) (fun _ _ _ h=>h) (Or.inl ⟨by rfl,?_⟩) hHeld ?_ ?_;rotate_left
                   ·rintro w' ⟨s0,s1,s2,s3,s4,s5,s6,s7,s8,s9,sM,rM,qM⟩;go_simp;with_reducible rfl
                   rotate_left
                   ·simp only [Act.put,List.setIfInBounds_toArray,List.set_cons_zero,List.set_cons_succ,ic,jc]
                    rfl
                   refine Jw (i:=15) (N:=some 61) #[true,true,true,true,true,true,true,true,true,true,true,true,true,true,true,true,false] rfl rfl (Ts dg.out (by kernel_rfl)) (by decide) (fun K hK=>?_);refine eu Try.func54 (by kernel_rfl) rfl #[.agg #[.slice iU ((Ea Ca (rd t112 Bf)).f0).length nT,.int .i64 ((Ea Ca (rd t112 Bf)).f1),.int .i64 ((Ea Ca (rd t112 Bf)).f2),.int .i64 ((Ea Ca (rd t112 Bf)).f3),.int .i64 ((Ea Ca (rd t112 Bf)).f4)],.slice hU (Fc Yw (rd t112 Bf)).length mT] (by rfl) rfl rfl (by (try simp only [List.map_toArray,List.map_cons,List.map_nil]);first|done|rfl|(simp only [List.length_drop,List.length_take];rfl)) ?_;with_reducible refine (Cf.calls k4 _ _ ((Ea Ca (rd t112 Bf)).f0) ((Ea Ca (rd t112 Bf)).f1) ((Ea Ca (rd t112 Bf)).f2) ((Ea Ca (rd t112 Bf)).f3) ((Ea Ca (rd t112 Bf)).f4) _ _ (Fc Yw (rd t112 Bf)) t119 _ ?dc ?Zb ?Rc ?Qc A28.out).mono ?_
                   (case dc=>repeat (first|exact (Kd.Db GP.out HB.out)|(with_reducible refine Kd.Bb ?_ _)|(with_reducible refine Kd.Ab ?_ _)|(with_reducible refine Kd.Qb ?_)))
                   (case Zb=>exact rY.out)
                   (case Rc=>repeat (first|exact (by repeat (first|(with_reducible exact Xt.out)|(with_reducible refine Kd.Bb ?_ _)|(with_reducible refine Kd.Ab ?_ _)|(with_reducible refine Kd.Qb ?_)|exact Xt.out))|(with_reducible refine Kd.Bb ?_ _)|(with_reducible refine Kd.Ab ?_ _)|(with_reducible refine Kd.Qb ?_)))
                   (case Qc=>exact qY.out)
                   rintro e tI ⟨p7,rfl,Qi,hb⟩;have uao:=(hb.cell (World.block_lt_of_cell? _ _ (hHeld.2.2.2.2.2.1))).trans (hHeld.2.2.2.2.2.1);have Rac:=(hb.cell (World.block_lt_of_cell? _ _ (hHeld.2.2.2.2.2.2.2.2.2.2.2.1))).trans (hHeld.2.2.2.2.2.2.2.2.2.2.2.1);have Qac:=(hb.cell (World.block_lt_of_cell? _ _ (hHeld.2.2.2.2.2.2.2.2.2.2.2.2))).trans (hHeld.2.2.2.2.2.2.2.2.2.2.2.2);refine ⟨_,rfl,?_⟩;have Eb:=ja.mk (Kd.js (by (with_reducible repeat (first|apply Kd.ld|apply Kd.jd|apply Kd.Jd));exact qd.out) (Kd.Ki Qi) hb);have Jb:=ja.mk (Kd.kf (by (with_reducible repeat (first|apply Kd.yb|apply Kd.xb|apply Kd.Pb));exact Sk.out) hb);have Ub:=ja.mk (Kd.Gg (by (with_reducible repeat (first|apply Kd.yb|apply Kd.xb|apply Kd.Pb));exact Jz.out) (Kd.Ki Qi) hb);have uc:=ja.mk (Kd.Qd (Kd.Gj Qi (Kd.Wt (by (with_reducible repeat (first|apply Kd.yb|apply Kd.xb|apply Kd.Pb));exact Jz.out))) (Ga (by repeat (first|(with_reducible first|exact HB.out|apply qa|apply ia|apply ta|refine ua ?_ Ra.out)|exact HB.out))));have lf:=ja.mk (Ta (g:=ya) (o:=.cells #[.slice Wa Oa.length Ya,.int .i64 Ja,.int .i64 Fa,.int .i64 Ia,.slice (some Mi) Ca.length Cb] 30 (0,0)) (by (with_reducible repeat (first|refine Aa ?_ _|refine Da ?_|refine Ba ?_ _));exact oa.out) hb);have Vf:=ja.mk (Kd.Db (by repeat (first|(with_reducible exact Xt.out)|(with_reducible refine Kd.Bb ?_ _)|(with_reducible refine Kd.Ab ?_ _)|(with_reducible refine Kd.Qb ?_)|exact Xt.out)) hb);have pg:=ja.mk (Vm hb xC.out);have cu:=ja.mk (Na (by repeat (first|(with_reducible first|exact HB.out|apply qa|apply ia|apply ta|refine ua ?_ Ra.out)|exact HB.out)) hb);clear qd Sk Jz oa Xt xC HB;have qd:=Eb;have Sk:=Jb;have Jz:=Ub;have Yac:=uc;have oa:=lf;have Xt:=Vf;have xC:=pg;have HB:=cu;clear Eb Jb Ub uc lf Vf pg cu;(try clear hb);(try clear ni);(try clear hk);(try clear hi);(try clear Qi);refine hK.out _ _ ⟨(ga oa.out 0).trans rfl,(ga oa.out 1).trans rfl,(ga oa.out 2).trans rfl,(ga oa.out 3).trans rfl,(ga oa.out 4).trans rfl,uao,(Qa HB.out SM),(Qa HB.out RM),(Qa HB.out QM),(Qa HB.out PM),(Qa HB.out OM),Rac,Qac⟩ (fun hHeld=>?_);clear hK K;refine yp (a':=?_) ?_ ?_;rotate_left
                   ·show Act.put _ (some 61) _=_
                    simp only [Act.put,List.setIfInBounds_toArray,List.set_cons_zero,List.set_cons_succ,ic,jc]
                    rfl
                   refine zd (i:=16) (N:=some 9) (v:=?_) (a':=?_) #[true,true,true,true,true,true,true,true,true,true,true,true,true,true,true,true,true] rfl rfl (Xc dg.out (by kernel_rfl)) (fun _ _ _ h=>h) (Or.inl ⟨by rfl,?_⟩) ?_ ?_;rotate_left
                   ·intro w';go_simp;with_reducible rfl
                   rotate_left
                   ·simp only [Act.put,List.setIfInBounds_toArray,List.set_cons_zero,List.set_cons_succ,ic,jc]
                    rfl
                   refine Sr (sn dg.out (by kernel_rfl)) ?_
                   try go_wp2
                   go_loopg [5,10] k4 (fun kq v5 v10 w'=>∃ (Ih:List (List Bool)) (bB:Bool) (Rn:List Bool) (Le:Int),v5 = .bool bB∧v10 = .int .i64 Le∧ja (gb.l4 kq Ih bB Fe t112 Bf Rn Le Oa Ja Fa Ia Ca=some r)∧ja (kq ≤ k4)∧ja (Kd.S (Kd.slice 4 Kd.bool) 60 w' w.heap.size (fun k_=>some k_ ≠ (p7:Value).ownBlock) (.slice (some eF) Yw.length XS) Ih)∧ja (Kd.R (Kd.int .i64) 3 w' w.heap.size (fun _=>True) (.slice (some sP) t112.length n3) t112)∧ja (Kd.R Kd.bool 4 w' w.heap.size (fun _=>True) p7 Rn)∧ja (w'.heap[ya]? = some (.cells #[(.slice Wa Oa.length Ya),.int .i64 Ja,.int .i64 Fa,.int .i64 Ia,(.slice (some Mi) Ca.length Cb)] 30 (0,0)))∧ja (Below w.heap.size w w'))
                   case atStart=>exact ⟨(Yw),(RP),(t119),(0),(by first|rfl|(simp;done)|(simp [*];done)),(by first|rfl|(simp;done)|(simp [*];done)),H',⟨Nat.le_refl _⟩,⟨by (with_reducible repeat (first|apply Kd.ld|apply Kd.jd|apply Kd.Jd));exact Kd.ej qd.out (fun _ hk=>hk.2)⟩,⟨by (with_reducible repeat (first|apply Kd.yb|apply Kd.xb|apply Kd.Pb));exact Sk.out⟩,⟨by (with_reducible repeat (first|apply Kd.yb|apply Kd.xb|apply Kd.Pb));exact Kd.Td Yac.out (fun _ hk=>trivial)⟩,⟨by (with_reducible repeat (first|refine Aa ?_ _|refine Da ?_|refine Ba ?_ _));exact oa.out⟩,⟨by repeat (first|(with_reducible first|exact HB.out|apply qa|apply ia|apply ta|refine ua ?_ Ra.out)|exact HB.out)⟩⟩
                   case round =>
                    clear H'
                    try clear c1
                    try clear p1
                    try clear q1
                    try clear hx1
                    try clear c2
                    try clear p2
                    try clear c4
                    try clear c5
                    try clear ak
                    try clear c6
                    try clear Mm
                    try clear jB
                    try clear p6
                    try clear c7
                    try clear Qk
                    try clear Ur
                    try clear c8
                    try clear qP
                    try clear xI
                    try clear wI
                    try clear kS
                    try clear DI
                    try clear Qo
                    try clear Bm
                    try clear Zp
                    try clear Nn
                    try clear Xk
                    try clear fu
                    try clear uw
                    try clear BD
                    try clear zD
                    try clear gT
                    try clear CI
                    try clear pP
                    try clear xJ
                    try clear cac
                    try clear vE
                    try clear nZ
                    try clear uh
                    try clear th
                    try clear qh
                    try clear oh
                    try clear nh
                    try clear pn
                    try clear kn
                    try clear jn
                    try clear gn
                    try clear en
                    try clear jC
                    try clear iC
                    try clear gC
                    try clear fC
                    try clear eC
                    try clear Vg
                    try clear Ug
                    try clear Tg
                    try clear Sg
                    try clear Rg
                    try clear bh
                    try clear ah
                    try clear Zg
                    try clear Yg
                    try clear Xg
                    try clear dn
                    try clear bn
                    try clear Zm
                    try clear Ym
                    try clear Xm
                    try clear JB
                    try clear IB
                    try clear FB
                    try clear EB
                    try clear DB
                    try clear Qg
                    try clear Pg
                    try clear Og
                    try clear Ng
                    try clear Mg
                    try clear Ri
                    try clear sB
                    try clear rB
                    try clear qB
                    try clear oB
                    try clear FF
                    try clear Ex
                    try clear Dx
                    try clear Cx
                    try clear Bx
                    try clear zx
                    try clear EF
                    try clear yx
                    try clear p1
                    try clear xI
                    try clear Cr
                    try clear WU
                    try clear VU
                    try clear UU
                    try clear ER
                    try clear p2
                    try clear p6
                    try clear q1
                    try clear wI
                    try clear Br
                    try clear SU
                    try clear RU
                    try clear QU
                    try clear DR
                    (try clear HA);(try clear lY);(try clear qd);(try clear Sk);(try clear Hz);(try clear oa);(try clear HB);obtain ⟨Ih,bB,Rn,Le,rfl,rfl,HA,lY,qd,Sk,Hz,oa,HB⟩:=hrel;have Pj:=(Kd.Ud qd.out).1;rw [Pj] at qd;(try simp only [Pj]);(try simp only [Pj] at oa);(try simp only [Pj] at Sk);(try simp only [Pj] at Hz);cases gk with
                    | zero=>exact absurd HA.out (by simp [gb.l4])
                    | succ k5 =>
                     have H:=HA.out;clear HA;simp only [gb.l4] at H
                     by_cases kR:Le < Ia
                     ·rw [if_pos kR] at H;have Yab:decide (Le < Ia)=true:=decide_eq_true kR;clear kR
                      by_cases wJ:0 ≤ Le
                      ·rw [if_pos wJ] at H;have kZ:decide (0 ≤ Le)=true:=decide_eq_true wJ;clear wJ
                       by_cases zI:Le < (Rn.length:Int)
                       ·rw [if_pos zI] at H;have fT:decide (Le < (Rn.length:Int))=true:=decide_eq_true zI;clear zI;obtain ⟨iac,KS⟩:∃ b_:Bool,b_=(Pf false Rn Le):=⟨_,rfl⟩;replace H:(if iac=true then (if 0 ≤ Fe then (if Fe < (Ih.length:Int) then (if Le < ((Fc Ih Fe).length:Int) then (if (Pf false (Fc Ih Fe) Le=true) then (gb.l4 k5 Ih bB Fe t112 Bf Rn (wrap64 (Le + 1)) Oa Ja Fa Ia Ca) else (gb.l4 k5 (Ih.set (Fe:Int).toNat ((Fc Ih Fe).set (Le:Int).toNat true)) true Fe t112 Bf Rn (wrap64 (Le + 1)) Oa Ja Fa Ia Ca)) else (none)) else (none)) else (none)) else (gb.l4 k5 Ih bB Fe t112 Bf Rn (wrap64 (Le + 1)) Oa Ja Fa Ia Ca))=some r:=by rw [← KS] at H;exact H
                        have FJ:=ja.mk KS;clear KS
                        by_cases c37:iac=true
                        ·subst c37;have H1:(if 0 ≤ Fe then (if Fe < (Ih.length:Int) then (if Le < ((Fc Ih Fe).length:Int) then (if (Pf false (Fc Ih Fe) Le=true) then (gb.l4 k5 Ih bB Fe t112 Bf Rn (wrap64 (Le + 1)) Oa Ja Fa Ia Ca) else (gb.l4 k5 (Ih.set (Fe:Int).toNat ((Fc Ih Fe).set (Le:Int).toNat true)) true Fe t112 Bf Rn (wrap64 (Le + 1)) Oa Ja Fa Ia Ca)) else (none)) else (none)) else (none))=some r:=by rw [if_pos rfl] at H;exact H
                         clear H;have H:=H1;clear H1
                         by_cases jR:0 ≤ Fe
                         ·rw [if_pos jR] at H;have eZ:decide (0 ≤ Fe)=true:=decide_eq_true jR;clear jR
                          by_cases vU:Fe < (Ih.length:Int)
                          ·rw [if_pos vU] at H;have Lar:decide (Fe < (Ih.length:Int))=true:=decide_eq_true vU;clear vU
                           by_cases c40:Le < ((Fc Ih Fe).length:Int)
                           ·rw [if_pos c40] at H;have Kar:decide (Le < ((Fc Ih Fe).length:Int))=true:=decide_eq_true c40;clear c40;obtain ⟨gac,JS⟩:∃ b_:Bool,b_=(Pf false (Fc Ih Fe) Le):=⟨_,rfl⟩;replace H:(if (gac=true) then (gb.l4 k5 Ih bB Fe t112 Bf Rn (wrap64 (Le + 1)) Oa Ja Fa Ia Ca) else (gb.l4 k5 (Ih.set (Fe:Int).toNat ((Fc Ih Fe).set (Le:Int).toNat true)) true Fe t112 Bf Rn (wrap64 (Le + 1)) Oa Ja Fa Ia Ca))=some r:=by rw [← JS] at H;exact H
                            have zP:=ja.mk JS;clear JS
                            by_cases c42:(gac=true)
                            ·subst c42;have H1:(gb.l4 k5 Ih bB Fe t112 Bf Rn (wrap64 (Le + 1)) Oa Ja Fa Ia Ca)=some r:=by rw [if_pos rfl] at H;exact H
                             clear H;have H:=H1;clear H1;have H':=ja.mk H;clear H;have kO:wr.cell? ⟨ya,0,none⟩=some (.slice Wa Oa.length Ya):=(ga oa.out 0).trans rfl;have jO:wr.cell? ⟨ya,1,none⟩=some (.int .i64 Ja):=(ga oa.out 1).trans rfl;have iO:wr.cell? ⟨ya,2,none⟩=some (.int .i64 Fa):=(ga oa.out 2).trans rfl;have gO:wr.cell? ⟨ya,3,none⟩=some (.int .i64 Ia):=(ga oa.out 3).trans rfl;have fO:wr.cell? ⟨ya,4,none⟩=some (.slice (some Mi) Ca.length Cb):=(ga oa.out 4).trans rfl;have mN:=aa oa.out 0;have lN:=aa oa.out 1;have kN:=aa oa.out 2;have jN:=aa oa.out 3;have iN:=aa oa.out 4;obtain ⟨cav,Wat,yan⟩:=Kd.ze Hz.out;subst yan;have TC:0 ≤ (Le:Int):=Sa;have SC:Le < (Rn.length:Int):=Sa;obtain ⟨tT,WS,Us⟩:=Kd.Bh (Kd.Wc Hz.out).2.2 Le TC SC;(try rw [← FJ.out] at Us);(try rw [← zP.out] at Us);cases WS;replace TC:=eq_true TC;replace SC:=eq_true SC;have vF:0 ≤ (Fe:Int):=Sa;have tF:Fe < (Ih.length:Int):=Sa;obtain ⟨rT,n6,JL,Y2,Wu,fy,ny⟩:=Sm (Kd.Ud qd.out).2.2 Fe vF tF;obtain rfl:eF=rT:=(by injection Y2);obtain ⟨Eab,bL,eL,lD⟩:=Kd.zw qd.out [] Fe vF (by first|exact tF|exact Sa|(have e_:=(Kd.Ud qd.out).1;omega));obtain ⟨HU,rfl,Ot⟩:=eL;have rm:=lD 0 _ rfl;rw [Nat.add_zero,show ((Kd.slice 4 Kd.bool)).sz=1 from rfl,Nat.mul_one] at rm;replace rm:=Option.some.inj (rm.symm.trans Wu);rw [rm] at Ot;have IP:=ja.mk (show Kd.R Kd.bool 4 _ _ _ _ (Fc Ih Fe) from Ot);clear rm Ot;have aY:=ja.mk Wu;clear lD bL;have Ez:=ja.mk ny;have pY:=ja.mk fy;clear ny fy;replace vF:=eq_true vF;replace tF:=eq_true tF;have sK:0 ≤ (Le:Int):=Sa;have qK:Le < ((Fc Ih Fe).length:Int):=Sa;obtain ⟨nac,X2,Vu⟩:=Kd.Bh (by repeat (first|(with_reducible exact Ez.out)|(with_reducible refine Kd.Bb ?_ _)|(with_reducible refine Kd.Ab ?_ _)|(with_reducible refine Kd.Qb ?_)|exact Ez.out)) Le sK qK;(try rw [← FJ.out] at Vu);(try rw [← zP.out] at Vu);cases X2;replace sK:=eq_true sK;replace qK:=eq_true qK;go_wp2;(try simp only [← Pj])
                             go_roundg k5
                             case measure=>have:=Rh.out;have:=Xo.out;have:=Es.out;have:=YT.out;have:=lY.out;omega
                             case rel=>exact ⟨(Ih),(bB),(Rn),(wrap64 (Le + 1)),(by first|rfl|(simp;done)|(simp [*];done)),(by first|rfl|(simp;done)|(simp [*];done)),H',⟨by have:=Rh.out;have:=Xo.out;have:=Es.out;have:=YT.out;have:=lY.out;omega⟩,⟨by (try simp only [Pj]);(with_reducible repeat (first|apply Kd.ld|apply Kd.jd|apply Kd.Jd));exact qd.out⟩,⟨by (try simp only [Pj]);(with_reducible repeat (first|apply Kd.yb|apply Kd.xb|apply Kd.Pb));exact Sk.out⟩,⟨by (try simp only [Pj]);(with_reducible repeat (first|apply Kd.yb|apply Kd.xb|apply Kd.Pb));exact Hz.out⟩,⟨by (try simp only [Pj]);(with_reducible repeat (first|refine Aa ?_ _|refine Da ?_|refine Ba ?_ _));exact oa.out⟩,⟨by repeat (first|(with_reducible first|exact HB.out|apply qa|apply ia|apply ta|refine ua ?_ Ra.out)|exact HB.out)⟩⟩
                            ·replace c42:=Bool.eq_false_iff.mpr c42;subst c42;have H1:(gb.l4 k5 (Ih.set (Fe:Int).toNat ((Fc Ih Fe).set (Le:Int).toNat true)) true Fe t112 Bf Rn (wrap64 (Le + 1)) Oa Ja Fa Ia Ca)=some r:=by rw [if_neg (show ¬ (false=true) by decide)] at H;exact H
                             clear H;have H:=H1;clear H1;obtain ⟨SZ,YI⟩:∃ y_:List Bool,y_=((Fc Ih Fe).set (Le:Int).toNat true):=⟨_,rfl⟩;replace H:(gb.l4 k5 (Ih.set (Fe:Int).toNat SZ) true Fe t112 Bf Rn (wrap64 (Le + 1)) Oa Ja Fa Ia Ca)=some r:=by first|(rw [YI];with_reducible exact H)|(have Ie:=(Option.bind_some _ _).symm.trans H;rw [YI];with_reducible exact Ie)|(have Ie:=(Option.bind_some _ _).symm.trans H;with_reducible exact Ie)|with_reducible exact H|(rw [YI];exact H)|exact H
                             have zac:=ja.mk YI;clear YI;obtain ⟨RZ,XI⟩:∃ y_:List (List Bool),y_=(Ih.set (Fe:Int).toNat SZ):=⟨_,rfl⟩;replace H:(gb.l4 k5 RZ true Fe t112 Bf Rn (wrap64 (Le + 1)) Oa Ja Fa Ia Ca)=some r:=by first|(rw [XI];with_reducible exact H)|(have Ie:=(Option.bind_some _ _).symm.trans H;rw [XI];with_reducible exact Ie)|(have Ie:=(Option.bind_some _ _).symm.trans H;with_reducible exact Ie)|with_reducible exact H|(rw [XI];exact H)|exact H
                             have yac:=ja.mk XI;clear XI;have H':=ja.mk H;clear H;have TW:wr.cell? ⟨ya,0,none⟩=some (.slice Wa Oa.length Ya):=(ga oa.out 0).trans rfl;have SW:wr.cell? ⟨ya,1,none⟩=some (.int .i64 Ja):=(ga oa.out 1).trans rfl;have RW:wr.cell? ⟨ya,2,none⟩=some (.int .i64 Fa):=(ga oa.out 2).trans rfl;have QW:wr.cell? ⟨ya,3,none⟩=some (.int .i64 Ia):=(ga oa.out 3).trans rfl;have PW:wr.cell? ⟨ya,4,none⟩=some (.slice (some Mi) Ca.length Cb):=(ga oa.out 4).trans rfl;have LV:=aa oa.out 0;have KV:=aa oa.out 1;have JV:=aa oa.out 2;have IV:=aa oa.out 3;have GV:=aa oa.out 4;obtain ⟨Ead,m3,LX⟩:=Kd.ze Hz.out;subst LX;have TC:0 ≤ (Le:Int):=Sa;have SC:Le < (Rn.length:Int):=Sa;obtain ⟨tT,WS,Us⟩:=Kd.Bh (Kd.Wc Hz.out).2.2 Le TC SC;(try rw [← FJ.out] at Us);(try rw [← zP.out] at Us);cases WS;replace TC:=eq_true TC;replace SC:=eq_true SC;have vF:0 ≤ (Fe:Int):=Sa;have tF:Fe < (Ih.length:Int):=Sa;obtain ⟨rT,n6,JL,Y2,Wu,fy,ny⟩:=Sm (Kd.Ud qd.out).2.2 Fe vF tF;obtain rfl:eF=rT:=(by injection Y2);obtain ⟨Eab,bL,eL,lD⟩:=Kd.zw qd.out [] Fe vF (by first|exact tF|exact Sa|(have e_:=(Kd.Ud qd.out).1;omega));obtain ⟨HU,rfl,Ot⟩:=eL;have rm:=lD 0 _ rfl;rw [Nat.add_zero,show ((Kd.slice 4 Kd.bool)).sz=1 from rfl,Nat.mul_one] at rm;replace rm:=Option.some.inj (rm.symm.trans Wu);rw [rm] at Ot;have IP:=ja.mk (show Kd.R Kd.bool 4 _ _ _ _ (Fc Ih Fe) from Ot);clear rm Ot;have aY:=ja.mk Wu;clear lD bL;have Ez:=ja.mk ny;have pY:=ja.mk fy;clear ny fy;replace vF:=eq_true vF;replace tF:=eq_true tF;have sK:0 ≤ (Le:Int):=Sa;have qK:Le < ((Fc Ih Fe).length:Int):=Sa;obtain ⟨nac,X2,Vu⟩:=Kd.Bh (by repeat (first|(with_reducible exact Ez.out)|(with_reducible refine Kd.Bb ?_ _)|(with_reducible refine Kd.Ab ?_ _)|(with_reducible refine Kd.Qb ?_)|exact Ez.out)) Le sK qK;(try rw [← FJ.out] at Vu);(try rw [← zP.out] at Vu);cases X2;replace sK:=eq_true sK;replace qK:=eq_true qK;have TU:0 ≤ (Fe:Int):=Sa;have PU:Fe < (Ih.length:Int):=Sa;obtain ⟨mac,eap,dao,Lan,DF,VM,aN⟩:=Sm (Kd.Ud qd.out).2.2 Fe TU PU;obtain rfl:eF=mac:=(by injection Lan);obtain ⟨Iar,D2,I2,ES⟩:=Kd.zw qd.out [] Fe TU (by first|exact PU|exact Sa|(have e_:=(Kd.Ud qd.out).1;omega));obtain ⟨Rad,rfl,OH⟩:=I2;have Zx:=ES 0 _ rfl;rw [Nat.add_zero,show ((Kd.slice 4 Kd.bool)).sz=1 from rfl,Nat.mul_one] at Zx;replace Zx:=Option.some.inj (Zx.symm.trans DF);rw [Zx] at OH;have Uv:=ja.mk (show Kd.R Kd.bool 4 _ _ _ _ (Fc Ih Fe) from OH);clear Zx OH;have ZX:=ja.mk DF;clear ES D2;have Kak:=ja.mk aN;have Uak:=ja.mk VM;clear aN VM;replace TU:=eq_true TU;replace PU:=eq_true PU;have Ln:=Option.some.inj (Wu.symm.trans DF);injection Ln with Ln rE sE
                             subst Ln;subst sE;clear rE;have p45:0 ≤ (Le:Int):=Sa;have q45:(Le:Int) < (((Fc Ih Fe).length:Int):Int):=Sa;obtain ⟨JX,Vat,yab,kab,ian,bau,sad⟩:=Kd.Yn Uv.out (by omega);(first|cases yab|(injection yab with Ln rE sE;(first|subst Ln|(injection Ln with Ln;subst Ln));subst sE;clear rE));have Tao:=ja.mk kab;have Qau:=ja.mk sad;clear kab ian sad;(first|simp only [add_plain] at Vu|skip);obtain ⟨Bal,Oam⟩:=Kd.zl false Uv.out (Le:Int) p45 q45;replace p45:=eq_true p45;replace q45:=eq_true q45;have Pal:(Fe:Int) < (Ih.length:Int):=(by have h_:(Fe:Int) < ((Ih.length:Int):Int):=Sa;first|exact h_|(have e_:=(Kd.Ud qd.out).1;omega)|simpa only [List.length_set,List.length_set] using h_);obtain ⟨N7,gau,cab,Zam,XY,LY,bZ⟩:=Kd.CT qd.out [] (Fe:Int) (Sa) Pal;obtain ⟨eal,rfl,NH⟩:=Zam;have kV:=XY 0 _ rfl;rw [Nat.add_zero,show ((Kd.slice 4 Kd.bool)).sz=1 from rfl,Nat.mul_one] at kV;replace kV:=Option.some.inj (kV.symm.trans ZX.out);subst kV;clear XY cab;replace NH:=(show Kd.R Kd.bool 4 _ _ _ _ (Fc Ih Fe) from NH);have q5:=Kd.Hr NH (Le:Int) true;go_wp2_with (first|((with_reducible refine Yh (t:=4) (p:=87) rfl ?_);refine Lg (t:=4) (p:=87) (v:=?Yak) (w1:=(wr.setCell ⟨JX,(Le:Int).toNat,none⟩ (.bool true))) ?hg ?ho ?hn ?hr ?_;(case ho=>rfl);(case hg=>rfl);(case hn=>rfl);(case hr=>first|(go_simp;done)|(go_simp;rfl));intro D6 hw;have hg:wr.grownBy D6 (some JX):=(by rw [hw];exact q5.2);have zK:Kd.R Kd.bool 4 D6 w.heap.size N7 (.slice (some ⟨JX,0,none⟩) (Fc Ih Fe).length JL) SZ:=(by rw [hw,zac.out];exact q5.1);have ey:Kd.S (Kd.slice 4 Kd.bool) 60 D6 w.heap.size (fun k_=>some k_ ≠ (.slice (some tT) Rn.length m3:Value).ownBlock) (.slice (some eF) Ih.length XS) RZ:=(by rw [yac.out];exact bZ hg (fun k_ e_=>by injection e_ with e_;subst e_;exact NH.1 _ rfl) (Kd.zZ zK));have hm_:=Kd.Td zK LY;clear q5 bZ;have Eb:=ja.mk (ey);have Jb:=ja.mk (Kd.iI (v:=(.slice (some ⟨JX,0,none⟩) (Fc Ih Fe).length JL)) (by (with_reducible repeat (first|apply Kd.yb|apply Kd.xb|apply Kd.Pb));exact Sk.out) (Kd.wC Uv.out) (by decide) hg);have Ub:=ja.mk (Kd.MT (by (with_reducible repeat (first|apply Kd.yb|apply Kd.xb|apply Kd.Pb));exact Hz.out) rfl hg ((Uv.out.1 _ rfl).1));have uc:=ja.mk (Dd (g:=ya) (o:=.cells #[.slice Wa Oa.length Ya,.int .i64 Ja,.int .i64 Fa,.int .i64 Ia,.slice (some Mi) Ca.length Cb] 30 (0,0)) (by (with_reducible repeat (first|refine Aa ?_ _|refine Da ?_|refine Ba ?_ _));exact oa.out) hg (Kd.Fm Uv.out oa.out (by decide)));have lf:=ja.mk ((by rw [hw];exact ua (HB.out) Tao.out:Below w.heap.size w D6));have Vf:=ja.mk (hm_);have pg:=ja.mk ((Kd.Wc hm_).2.1);clear qd Sk Hz oa HB IP Uv;have qd:=Eb;have Sk:=Jb;have Hz:=Ub;have oa:=uc;have HB:=lf;have bas:=Vf;have las:=pg;clear Eb Jb Ub uc lf Vf pg hg hw ey zK hm_ LY));(try simp only [← Pj])
                             go_roundg k5
                             case measure=>have:=Rh.out;have:=Xo.out;have:=Es.out;have:=YT.out;have:=lY.out;omega
                             case rel=>exact ⟨(RZ),(true),(Rn),(wrap64 (Le + 1)),(by first|rfl|(simp;done)|(simp [*];done)),(by first|rfl|(simp;done)|(simp [*];done)),H',⟨by have:=Rh.out;have:=Xo.out;have:=Es.out;have:=YT.out;have:=lY.out;omega⟩,⟨by (try simp only [Pj]);(with_reducible repeat (first|apply Kd.ld|apply Kd.jd|apply Kd.Jd));exact qd.out⟩,⟨by (try simp only [Pj]);(with_reducible repeat (first|apply Kd.yb|apply Kd.xb|apply Kd.Pb));exact Sk.out⟩,⟨by (try simp only [Pj]);(with_reducible repeat (first|apply Kd.yb|apply Kd.xb|apply Kd.Pb));exact Hz.out⟩,⟨by (try simp only [Pj]);(with_reducible repeat (first|refine Aa ?_ _|refine Da ?_|refine Ba ?_ _));exact oa.out⟩,⟨by repeat (first|(with_reducible first|exact HB.out|apply qa|apply ia|apply ta|refine ua ?_ Ra.out)|exact HB.out)⟩⟩
                           ·rw [if_neg c40] at H;exact absurd H (by simp)
                          ·rw [if_neg vU] at H;exact absurd H (by simp)
                         ·rw [if_neg jR] at H;exact absurd H (by simp)
                        ·replace c37:=Bool.eq_false_iff.mpr c37;subst c37;have H1:(gb.l4 k5 Ih bB Fe t112 Bf Rn (wrap64 (Le + 1)) Oa Ja Fa Ia Ca)=some r:=by rw [if_neg (show ¬ (false=true) by decide)] at H;exact H
                         clear H;have H:=H1;clear H1;have H':=ja.mk H;clear H;have GW:wr.cell? ⟨ya,0,none⟩=some (.slice Wa Oa.length Ya):=(ga oa.out 0).trans rfl;have FW:wr.cell? ⟨ya,1,none⟩=some (.int .i64 Ja):=(ga oa.out 1).trans rfl;have EW:wr.cell? ⟨ya,2,none⟩=some (.int .i64 Fa):=(ga oa.out 2).trans rfl;have DW:wr.cell? ⟨ya,3,none⟩=some (.int .i64 Ia):=(ga oa.out 3).trans rfl;have CW:wr.cell? ⟨ya,4,none⟩=some (.slice (some Mi) Ca.length Cb):=(ga oa.out 4).trans rfl;have yV:=aa oa.out 0;have xV:=aa oa.out 1;have wV:=aa oa.out 2;have vV:=aa oa.out 3;have uV:=aa oa.out 4;obtain ⟨aav,Tat,wan⟩:=Kd.ze Hz.out;subst wan;have TC:0 ≤ (Le:Int):=Sa;have SC:Le < (Rn.length:Int):=Sa;obtain ⟨tT,WS,Us⟩:=Kd.Bh (Kd.Wc Hz.out).2.2 Le TC SC;(try rw [← FJ.out] at Us);cases WS;replace TC:=eq_true TC;replace SC:=eq_true SC;go_wp2;(try simp only [← Pj])
                         go_roundg k5
                         case measure=>have:=Rh.out;have:=Xo.out;have:=Es.out;have:=YT.out;have:=lY.out;omega
                         case rel=>exact ⟨(Ih),(bB),(Rn),(wrap64 (Le + 1)),(by first|rfl|(simp;done)|(simp [*];done)),(by first|rfl|(simp;done)|(simp [*];done)),H',⟨by have:=Rh.out;have:=Xo.out;have:=Es.out;have:=YT.out;have:=lY.out;omega⟩,⟨by (try simp only [Pj]);(with_reducible repeat (first|apply Kd.ld|apply Kd.jd|apply Kd.Jd));exact qd.out⟩,⟨by (try simp only [Pj]);(with_reducible repeat (first|apply Kd.yb|apply Kd.xb|apply Kd.Pb));exact Sk.out⟩,⟨by (try simp only [Pj]);(with_reducible repeat (first|apply Kd.yb|apply Kd.xb|apply Kd.Pb));exact Hz.out⟩,⟨by (try simp only [Pj]);(with_reducible repeat (first|refine Aa ?_ _|refine Da ?_|refine Ba ?_ _));exact oa.out⟩,⟨by repeat (first|(with_reducible first|exact HB.out|apply qa|apply ia|apply ta|refine ua ?_ Ra.out)|exact HB.out)⟩⟩
                       ·rw [if_neg zI] at H;exact absurd H (by simp)
                      ·rw [if_neg wJ] at H;exact absurd H (by simp)
                     ·rw [if_neg kR] at H;have Yab:decide (Le < Ia)=false:=decide_eq_false kR;clear kR;have H':=ja.mk H;clear H;have RG:wr.cell? ⟨ya,0,none⟩=some (.slice Wa Oa.length Ya):=(ga oa.out 0).trans rfl;have QG:wr.cell? ⟨ya,1,none⟩=some (.int .i64 Ja):=(ga oa.out 1).trans rfl;have PG:wr.cell? ⟨ya,2,none⟩=some (.int .i64 Fa):=(ga oa.out 2).trans rfl;have OG:wr.cell? ⟨ya,3,none⟩=some (.int .i64 Ia):=(ga oa.out 3).trans rfl;have NG:wr.cell? ⟨ya,4,none⟩=some (.slice (some Mi) Ca.length Cb):=(ga oa.out 4).trans rfl;have PF:=aa oa.out 0;have NF:=aa oa.out 1;have MF:=aa oa.out 2;have LF:=aa oa.out 3;have KF:=aa oa.out 4;go_wp2;(try simp only [← Pj])
                      go_roundg k5
                      case measure=>have:=Rh.out;have:=Xo.out;have:=Es.out;have:=YT.out;have:=lY.out;omega
                      case rel=>exact ⟨(Ih),(bB),(wrap64 (Bf + 1)),(by first|rfl|(simp;done)|(simp [*];done)),(by first|rfl|(simp;done)|(simp [*];done)),H',⟨by have:=Rh.out;have:=Xo.out;have:=Es.out;have:=YT.out;have:=lY.out;omega⟩,⟨by (try simp only [Pj]);(with_reducible repeat (first|apply Kd.ld|apply Kd.jd|apply Kd.Jd));exact Kd.ej qd.out (fun _ hk=>trivial)⟩,⟨by (try simp only [Pj]);(with_reducible repeat (first|apply Kd.yb|apply Kd.xb|apply Kd.Pb));exact Sk.out⟩,⟨by (try simp only [Pj]);(with_reducible repeat (first|refine Aa ?_ _|refine Da ?_|refine Ba ?_ _));exact oa.out⟩,⟨by repeat (first|(with_reducible first|exact HB.out|apply qa|apply ia|apply ta|refine ua ?_ Ra.out)|exact HB.out)⟩⟩
                  ·rw [if_neg vE] at H;exact absurd H (by simp)
                 ·rw [if_neg xJ] at H;exact absurd H (by simp)
                ·rw [if_neg CI] at H;exact absurd H (by simp)
               ·rw [if_neg zD] at H;exact absurd H (by simp)
              ·rw [if_neg uw] at H;have BD:decide (Bf < (t112.length:Int))=false:=decide_eq_false uw;clear uw;have H':=ja.mk H;clear H;obtain ⟨Zau,Qat,van⟩:=Kd.ze Sk.out;subst van;go_wp2
               go_roundg k4
               case measure=>have:=Rh.out;have:=Xo.out;have:=Es.out;have:=YT.out;omega
               case rel=>exact ⟨(Yw),(RP),(wrap64 (Fe - 1)),(by first|rfl|(simp;done)|(simp [*];done)),(by first|rfl|(simp;done)|(simp [*];done)),H',⟨by have:=Rh.out;have:=Xo.out;have:=Es.out;have:=YT.out;omega⟩,⟨by (with_reducible repeat (first|apply Kd.ld|apply Kd.jd|apply Kd.Jd));exact qd.out⟩,⟨by (with_reducible repeat (first|refine Aa ?_ _|refine Da ?_|refine Ba ?_ _));exact oa.out⟩,⟨by repeat (first|(with_reducible first|exact HB.out|apply qa|apply ia|apply ta|refine ua ?_ Ra.out)|exact HB.out)⟩⟩
           ·rw [if_neg Xk] at H;exact absurd H (by simp)
          ·rw [if_neg Zp] at H;exact absurd H (by simp)
         ·rw [if_neg Qo] at H;have Bm:decide (0 ≤ Fe)=false:=decide_eq_false Qo;clear Qo;have H':=ja.mk H;clear H;go_wp2
          go_roundg k3
          case measure=>have:=Rh.out;have:=Xo.out;have:=Es.out;omega
          case rel=>exact ⟨(SP),(Me),(by first|rfl|(simp;done)|(simp [*];done)),H',⟨by have:=Rh.out;have:=Xo.out;have:=Es.out;omega⟩,⟨by (with_reducible repeat (first|apply Kd.ld|apply Kd.jd|apply Kd.Jd));exact qd.out⟩,⟨by (with_reducible repeat (first|refine Aa ?_ _|refine Da ?_|refine Ba ?_ _));exact oa.out⟩,⟨by repeat (first|(with_reducible first|exact HB.out|apply qa|apply ia|apply ta|refine ua ?_ Ra.out)|exact HB.out)⟩⟩
      ·replace DI:=Bool.eq_false_iff.mpr DI;subst DI;have H1:(some Oz)=some r:=by rw [if_neg (show ¬ (false=true) by decide)] at H;exact H
       clear H;have H:=H1;clear H1;obtain rfl:=Option.some.inj H;go_wp2;go_ret;exact ⟨_,by first|rfl|(simp [Ma,La] <;> rfl)|(simp [*,Ma,La] <;> rfl),by (with_reducible repeat (first|apply Kd.ld|apply Kd.jd|apply Kd.Jd));exact qd.out,by repeat (first|(with_reducible first|exact HB.out|apply qa|apply ia|apply ta|refine ua ?_ Ra.out)|exact HB.out)⟩
theorem wP {α:Type} (d:Kd α) (e:Nat) (w:World) (base:Nat) (h:base ≤ w.heap.size):d.R e (w.alloc (.cells #[] e (0,0))) base (fun _=>True) (.slice (some ⟨w.heap.size,0,none⟩) 0 0) []:=by
 refine ⟨fun _ _=>trivial,[],?_,⟨by simp,fun i p hp=>by simp at hp⟩⟩;have h2:=World.ownsRow_lit (base:=base) (e:=e) (size:=d.sz) w #[] 0 h (by simp [maxLen]) (by simp)
 simpa using h2
theorem D4 {α:Type} {d:Kd α} {et e base g n cap i:Nat} {W:World} {ok YJ:Nat→Prop} {D:List (List α)} {v:Value} {xs:List α} (h:Kd.S (Kd.slice et d) e W base (fun k=>ok k∧¬ YJ k) (.slice (some ⟨g,0,none⟩) n cap) D) (hg:∀ k,YJ k→ok k) (hi:i < n) (hx:Kd.R d et W base YJ v xs) :
  Kd.S (Kd.slice et d) e (W.setCell ⟨g,i,none⟩ v) base ok (.slice (some ⟨g,0,none⟩) n cap) (D.set i xs)∧W.grownBy (W.setCell ⟨g,i,none⟩ v) (some g):=by
 obtain ⟨Zo,c,Kw,hM,WE,hcf,mE,hH⟩:=Kd.JD h ([]:List α) (i:Int) (by omega) (by omega);have hH2:=Kd.PT hH hg;have dab:c.length=1:=Kw
 obtain ⟨u,rfl⟩:∃ u,c=[u]:=by
  rcases c with _|⟨u,_|⟨u2,c⟩⟩
  ·simp at dab
  ·exact ⟨u,rfl⟩
  ·simp at dab
 have hs:=Kd.C4 (d:=Kd.slice et d) hH2 (by omega) (by omega) (seg:=[v]) (j:=0) (show 0 + 1 ≤ 1 from by decide) (x':=xs) (Sh:=YJ) (show (Kd.slice et d).M W base YJ xs [v] from ⟨v,rfl,hx⟩) (fun k hk=>Or.inr hk);rw [Int.toNat_natCast,show i * (Kd.slice et d).sz + 0=i from by show i * 1 + 0=i;omega] at hs;exact hs
theorem zT {α:Type} {enc:α→Value} {h1:∀ x,(enc x).oneCell' = true} {et e base g n cap i s:Nat} {W:World} {ok:Nat→Prop} {D:List (List α)} (z:α) (h:Kd.S (Kd.slice et (Kd.scalar enc h1)) e W base ok (.slice (some ⟨g,0,none⟩) n cap) D) (hi:i < n) (hs:s < (D.getD i []).length) :
  ∃ (gi c:Nat),W.cell? ⟨g,i,none⟩=some (.slice (some ⟨gi,0,none⟩) (D.getD i []).length c)∧ok gi∧W.cell? ⟨gi,s,none⟩=some (enc ((D.getD i []).getD s z))∧W.frozen? ⟨gi,s,none⟩=false ∧
   ∀ x,Kd.S (Kd.slice et (Kd.scalar enc h1)) e (W.setCell ⟨gi,s,none⟩ (enc x)) base ok (.slice (some ⟨g,0,none⟩) n cap) (D.set i ((D.getD i []).set s x))∧W.grownBy (W.setCell ⟨gi,s,none⟩ (enc x)) (some gi):=by
 obtain ⟨Zo,c,Kw,hM,WE,hcf,mE,hH⟩:=Kd.JD h ([]:List α) (i:Int) (by omega) (by omega);rw [Int.toNat_natCast] at hM WE hcf;obtain ⟨v,rfl,hR⟩:=hM;obtain ⟨gi,cc,rfl,-⟩:=Kd.Yn hR (by omega);have hb:=hR.1 gi rfl;have hc0:=WE 0 _ rfl;rw [show i * (Kd.slice et (Kd.scalar enc h1)).sz + 0=i from by show i * 1 + 0=i;omega] at hc0;obtain ⟨e1,e2⟩:=Kd.zl z hR (s:Int) (by omega) (by omega);rw [Int.toNat_natCast] at e1 e2;refine ⟨gi,cc,hc0,(mE gi hb).1,e1,e2,fun x=>?_⟩;obtain ⟨p1,p2⟩:=Kd.Hr hR (s:Int) x;rw [Int.toNat_natCast] at p1 p2;refine ⟨?_,p2⟩;have hH2:=Kd.EP hH p2 (fun k hk=>by injection hk with hk;rw [← hk];exact hb);have:=Kd.aM hH2 (x':=(D.getD i []).set s x) (show (Kd.slice et (Kd.scalar enc h1)).M _ base Zo ((D.getD i []).set s x) [.slice (some ⟨gi,0,none⟩) (D.getD i []).length cc] from ⟨_,rfl,p1⟩) (fun k hk=>hk)
 rwa [Int.toNat_natCast] at this
theorem zz {α:Type} (d:Kd α) (e:Nat) (w:World) (base:Nat) (h:base ≤ w.heap.size):Kd.S d e (w.alloc (.cells #[] e (0,0))) base (fun k=>k=w.heap.size) (.slice (some ⟨w.heap.size,0,none⟩) 0 0) []:=by
 have h1:=wP (Kd.tag (fun _=>0) d) e w w.heap.size (Nat.le_refl _);refine ⟨fun _=>0,Kd.Qd (Kd.Td (Kd.Kg h1) (fun k hk=>?_)) h⟩;obtain ⟨_,h2,h3,_⟩:=hk;simp at h3;omega
theorem wT {α:Type} {d:Kd α} {et e base g n cap i:Nat} {W:World} {P:Nat→Prop} {D:List (List α)} (h:Kd.S (Kd.slice et d) e W base P (.slice (some ⟨g,0,none⟩) n cap) D) (hi:i < n) :
  ∃ (A:Option Addr) (c:Nat),W.cell? ⟨g,i,none⟩=some (.slice A (D.getD i []).length c)∧W.frozen? ⟨g,i,none⟩=false∧Kd.R d et W base (fun k=>P k∧k ≠ g∧base ≤ k∧k < W.heap.size) (.slice A (D.getD i []).length c) (D.getD i []):=by
 obtain ⟨Zo,c,Kw,hM,WE,hcf,mE,hH⟩:=Kd.JD h ([]:List α) (i:Int) (by omega) (by omega);rw [Int.toNat_natCast] at hM WE hcf;obtain ⟨v,hc,hR⟩:=hM;obtain ⟨A,cc,rfl⟩:=Kd.ze hR;have h1:=WE 0 _ (by rw [hc];rfl);have h2:=hcf 0;rw [show i * (Kd.slice et d).sz + 0=i from by show i * 1 + 0=i;omega] at h1 h2;exact ⟨A,cc,h1,h2,Kd.Td (Kd.Kg hR) (fun k hk=>⟨(mE k hk.1).1,(mE k hk.1).2,hk.2.1,hk.2.2.1⟩)⟩
structure aq (w:World) (o:Obj) (PB:Nat→Prop) (vX vY:Value) (X Y:List (List Bool)) (wr:World):Prop where
 bl:Below w.heap.size w wr
 hx:wr.heap[w.heap.size]? = some o
 x:Kd.S (Kd.slice 4 Kd.bool) 60 wr w.heap.size PB vX X
 y:Kd.S (Kd.slice 4 Kd.bool) 60 wr w.heap.size (fun k=>¬ PB k∧w.heap.size < k) vY Y
 pb:∀ k,PB k→w.heap.size < k∧k < wr.heap.size
section
variable {w wr W w1:World} {o:Obj} {PB:Nat→Prop} {vX vY v1:Value} {X Y:List (List Bool)} {p:List Bool}
theorem aq.below (h:aq w o PB vX vY X Y wr) (hb:Below wr.heap.size wr W):aq w o PB vX vY X Y W :=
 ⟨Na h.bl hb,Ta h.hx hb,Kd.Nf h.x hb,Kd.Nf h.y hb,fun k hk=>⟨(h.pb k hk).1,Nat.lt_of_lt_of_le (h.pb k hk).2 hb.size⟩⟩
theorem aq.z4 (h:aq w o PB vX vY X Y wr) (hb:Below wr.heap.size wr W) (hs:Kd.S (Kd.slice 4 Kd.bool) 60 w1 w.heap.size (fun k=>PB k ∨ wr.heap.size ≤ k) v1 (X ++ [p])) (hw:Below w.heap.size w w1) (hg:W.grownBy w1 vX.ownBlock) :
  aq w o (fun k=>PB k ∨ (wr.heap.size ≤ k∧k < w1.heap.size)) v1 vY (X ++ [p]) Y w1:=by
 have h2:=h.below hb;have hsz:wr.heap.size ≤ w1.heap.size:=Nat.le_trans hb.size hg.size;have hown:∀ k,vX.ownBlock=some k→PB k:=(Kd.ZJ h.x).1;refine ⟨hw,?_,Kd.ej (Kd.Bz hs) (fun k hk=>hk.1.imp id (fun h3=>⟨h3,hk.2.2.1⟩)),?_,fun k hk=>?_⟩
 ·exact Dd h2.hx hg (fun e=>by have:=(h.pb _ (hown _ e.symm)).1;omega)
 ·refine Kd.ej (Kd.vC (Kd.xT h.y hb) hg (fun k hk e=>hk.1.1 (hown k e.symm))) (fun k hk=>⟨fun h3=>h3.elim hk.1.1 (fun h4=>by have:=hk.2;omega),hk.1.2⟩)
 ·rcases hk with hk|hk
  ·have:=h.pb k hk;exact ⟨this.1,by omega⟩
  ·have:=Jc h.hx;exact ⟨by omega,hk.2⟩
theorem aq.fao (h:aq w o PB vX vY X Y wr) (hb:Below wr.heap.size wr W) (hs:Kd.S (Kd.slice 4 Kd.bool) 60 w1 w.heap.size (fun k=>¬ PB k∧w.heap.size < k) v1 (Y ++ [p])) (hw:Below w.heap.size w w1) (hg:W.grownBy w1 vY.ownBlock) :
  aq w o PB vX v1 X (Y ++ [p]) w1:=by
 have h2:=h.below hb;have hown:∀ k,vY.ownBlock=some k→¬ PB k∧w.heap.size < k:=(Kd.ZJ h.y).1;exact ⟨hw,Dd h2.hx hg (fun e=>by have:=(hown _ e.symm).2;omega),Kd.vC h2.x hg (fun k hk e=>(hown k e.symm).1 hk),hs,fun k hk=>⟨(h2.pb k hk).1,Nat.lt_of_lt_of_le (h2.pb k hk).2 hg.size⟩⟩
end
theorem aq.okX {w wr W:World} {o:Obj} {PB:Nat→Prop} {vX vY:Value} {X Y:List (List Bool)} (h:aq w o PB vX vY X Y wr) (hb:Below wr.heap.size wr W):Kd.S (Kd.slice 4 Kd.bool) 60 W w.heap.size (fun k=>(PB k ∨ wr.heap.size ≤ k)∧¬ wr.heap.size ≤ k) vX X :=
 Kd.ej (Kd.xT h.x hb) (fun k hk=>⟨Or.inl hk.1,by have:=hk.2;omega⟩)
theorem aq.neX {w wr:World} {o:Obj} {PB:Nat→Prop} {vX vY:Value} {X Y:List (List Bool)} (h:aq w o PB vX vY X Y wr):∀ k,wr.heap.size ≤ k→(PB k ∨ wr.heap.size ≤ k)∧some k ≠ vX.ownBlock :=
 fun k hk=>⟨Or.inr hk,fun e=>by have:=(h.pb k ((Kd.ZJ h.x).1 k e.symm)).2;omega⟩
theorem aq.frX {w wr W:World} {o:Obj} {PB:Nat→Prop} {vX vY:Value} {X Y:List (List Bool)} (_:aq w o PB vX vY X Y wr) (hb:Below wr.heap.size wr W):∀ k,W.heap.size ≤ k→PB k ∨ wr.heap.size ≤ k:=fun _ hk=>Or.inr (Nat.le_trans hb.size hk)
theorem aq.okY {w wr W:World} {o:Obj} {PB:Nat→Prop} {vX vY:Value} {X Y:List (List Bool)} (h:aq w o PB vX vY X Y wr) (hb:Below wr.heap.size wr W):Kd.S (Kd.slice 4 Kd.bool) 60 W w.heap.size (fun k=>(¬ PB k∧w.heap.size < k)∧¬ wr.heap.size ≤ k) vY Y :=
 Kd.ej (Kd.xT h.y hb) (fun k hk=>⟨hk.1,by have:=hk.2;omega⟩)
theorem aq.neY {w wr:World} {o:Obj} {PB:Nat→Prop} {vX vY:Value} {X Y:List (List Bool)} (h:aq w o PB vX vY X Y wr):∀ k,wr.heap.size ≤ k→(¬ PB k∧w.heap.size < k)∧some k ≠ vY.ownBlock :=
 fun k hk=>⟨⟨fun e=>by have:=(h.pb k e).2;omega,by have:=Jc h.hx;omega⟩,fun e=>by have:=Kd.TX h.y k e.symm;omega⟩
theorem aq.frY {w wr W:World} {o:Obj} {PB:Nat→Prop} {vX vY:Value} {X Y:List (List Bool)} (h:aq w o PB vX vY X Y wr) (hb:Below wr.heap.size wr W):∀ k,W.heap.size ≤ k→¬ PB k∧w.heap.size < k:=fun k hk=>(h.neY k (Nat.le_trans hb.size hk)).1
theorem tM {W:World} {base N:Nat} {ok:Nat→Prop} {v:Value} {xs:List Bool} (ho:Kd.R Kd.bool 4 W N ok v xs) (hl:base ≤ N):(Kd.slice 4 Kd.bool).M W base ok xs [v]:=⟨v,rfl,Kd.Qd ho hl⟩
theorem aq.forms {w wr:World} {o:Obj} {PB:Nat→Prop} {vX vY:Value} {n m:Nat} (h:aq w o PB vX vY (List.replicate m (List.replicate n false)) (List.replicate m (List.replicate n false)) wr) (hm:0 < m) :
  ∃ gX cX gY cY,vX = .slice (some ⟨gX,0,none⟩) m cX∧vY = .slice (some ⟨gY,0,none⟩) m cY:=by
 obtain ⟨gX,cX,e1,-⟩:=Kd.ID h.x (by rw [List.length_replicate];exact hm);obtain ⟨gY,cY,e2,-⟩:=Kd.ID h.y (by rw [List.length_replicate];exact hm);rw [List.length_replicate] at e1 e2;exact ⟨gX,cX,gY,cY,e1,e2⟩
theorem aq.oal {w wr:World} {o:Obj} {PB:Nat→Prop} {vY:Value} {X Y:List (List Bool)} {gX m cX i s:Nat} (h:aq w o PB (.slice (some ⟨gX,0,none⟩) m cX) vY X Y wr) (hi:i < m) (hs:s < (Sd X i).length) :
  ∃ (gi c:Nat),wr.cell? ⟨gX,i,none⟩=some (.slice (some ⟨gi,0,none⟩) (Sd X i).length c)∧wr.cell? ⟨gi,s,none⟩=some (.bool (seen (Sd X i) s))∧wr.frozen? ⟨gi,s,none⟩=false∧PB gi ∧
   ∀ b,aq w o PB (.slice (some ⟨gX,0,none⟩) m cX) vY (X.set i ((Sd X i).set s b)) Y (wr.setCell ⟨gi,s,none⟩ (.bool b)):=by
 obtain ⟨gi,c,h1,h2,h3,h4,h5⟩:=zT false h.x hi hs;refine ⟨gi,c,h1,h3,h4,h2,fun b=>?_⟩;obtain ⟨h6,hg⟩:=h5 b;have hb:=h.pb gi h2
 exact ⟨h.bl.grown hg (by omega) (fun k e=>by injection e with e;omega),Dd h.hx hg (fun e=>by injection e with e;omega),h6,
  Kd.vC h.y hg (fun k hk e=>by injection e with e;exact hk.1 (e ▸ h2)),fun k hk=>⟨(h.pb k hk).1,Nat.lt_of_lt_of_le (h.pb k hk).2 hg.size⟩⟩
theorem aq.M7 {w wr W:World} {o:Obj} {PB:Nat→Prop} {vX v:Value} {X Y:List (List Bool)} {gY m cY i:Nat} {ok:Nat→Prop} {xs:List Bool} (h:aq w o PB vX (.slice (some ⟨gY,0,none⟩) m cY) X Y wr) (hb:Below wr.heap.size wr W) (hi:i < m) (hR:Kd.R Kd.bool 4 W wr.heap.size ok v xs) :
  aq w o PB vX (.slice (some ⟨gY,0,none⟩) m cY) X (Y.set i xs) (W.setCell ⟨gY,i,none⟩ v):=by
 have h2:=h.below hb;have hl:=Jc h.hx;obtain ⟨h6,hg⟩:=D4 (YJ:=fun k=>wr.heap.size ≤ k) (h.okY hb) (fun k hk=>(h.neY k hk).1) hi (Kd.Qd (Kd.Td (Kd.Kg hR) (fun k hk=>hk.2.1)) (Nat.le_of_lt hl));have hy:=(Kd.ZJ h.y).1 gY rfl
 exact ⟨h2.bl.grown hg h2.bl.size (fun k e=>by injection e with e;omega),Dd h2.hx hg (fun e=>by injection e with e;omega),Kd.vC h2.x hg (fun k hk e=>by injection e with e;exact hy.1 (e ▸ hk)),h6,
  fun k hk=>⟨(h2.pb k hk).1,Nat.lt_of_lt_of_le (h2.pb k hk).2 hg.size⟩⟩
theorem aq.ial {w wr:World} {o:Obj} {PB:Nat→Prop} {vY:Value} {X Y:List (List Bool)} {gX m cX i:Nat} (h:aq w o PB (.slice (some ⟨gX,0,none⟩) m cX) vY X Y wr) (hi:i < m) :
  ∃ (A:Option Addr) (c:Nat),wr.cell? ⟨gX,i,none⟩=some (.slice A (Sd X i).length c)∧Kd.C Kd.bool wr A (Sd X i).length (Sd X i)∧(Sd X i).length ≤ c:=by
 obtain ⟨A,c,h1,_,h2⟩:=wT h.x hi;exact ⟨A,c,h1,(Kd.Wc h2).2.2,(Kd.Wc h2).2.1⟩
theorem aq.NU {w wr:World} {o:Obj} {PB:Nat→Prop} {vX:Value} {X Y:List (List Bool)} {gY m cY i:Nat} (h:aq w o PB vX (.slice (some ⟨gY,0,none⟩) m cY) X Y wr) (hi:i < m) :
  ∃ (A:Option Addr) (c:Nat),wr.cell? ⟨gY,i,none⟩=some (.slice A (Sd Y i).length c)∧wr.frozen? ⟨gY,i,none⟩=false∧(Sd Y i).length ≤ c∧Kd.C Kd.bool wr A (Sd Y i).length (Sd Y i)∧∀ W,Kept wr W PB→Kd.C Kd.bool W A (Sd Y i).length (Sd Y i):=by
 obtain ⟨A,c,h1,hf,h2⟩:=wT h.y hi;exact ⟨A,c,h1,hf,(Kd.Wc h2).2.1,(Kd.Wc h2).2.2,Kd.RD (S:=PB) h2 (fun k hk=>hk.1.1)⟩
structure LvS (bs:List Ke) (X Y:List (List Bool)) (C:Nat) (a:Bool) (q:Nat):Prop where
 le:C ≤ Rp Y
 lt:a=true→C < Rp Y
 so:a=false→∀ k,q ≤ k→k < bs.length→StE bs X Y k
structure M4 (bs:List Ke) (n:Nat) (X0 Y:List (List Bool)) (i:Nat) (X:List (List Bool)):Prop where
 inv:bE bs n X Y
 oth:∀ k,k ≠ i→Sd X k=Sd X0 k
def wU (ts:List Int) (j:Nat) (Y X:List (List Bool)) (i:Nat):Prop:=∀ t ∈ ts.take j,∀ u,seen (Sd Y t.toNat) u=true→seen (Sd X i) u=true
def TkS (t s:Nat) (Y X:List (List Bool)) (i:Nat):Prop:=∀ u,u < s→seen (Sd Y t) u=true→seen (Sd X i) u=true
section
variable {bs:List Ke} {n i s tn:Nat} {X0 X Y:List (List Bool)} {ts:List Int} {j:Nat}
theorem M4.step (h:M4 bs n X0 Y i X) (hE:Lz bs) (hi:i < bs.length) {t:Int} (ht:t ∈ Jr bs i) (htn:t=(tn:Int)) (hs:s < n) (hj:wU ts j Y X i) (hk:TkS tn s Y X i) :
  M4 bs n X0 Y i (X.set i ((Sd X i).set s (seen (Sd X i) s || seen (Sd Y tn) s)))∧wU ts j Y (X.set i ((Sd X i).set s (seen (Sd X i) s || seen (Sd Y tn) s))) i∧TkS tn (s + 1) Y (X.set i ((Sd X i).set s (seen (Sd X i) s || seen (Sd Y tn) s))) i:=by
 have hil:i < X.length:=by rw [h.inv.xl];exact hi
 have nS:s < (Sd X i).length:=by rw [h.inv.xr i hi];exact hs
 have h1:=h.inv.or hE hi ht hs;rw [htn,Int.toNat_natCast] at h1
 have hm:∀ u,seen (Sd X i) u=true→seen (Sd (X.set i ((Sd X i).set s (seen (Sd X i) s || seen (Sd Y tn) s))) i) u=true:=fun u hu=>by
  rw [Sn hil,if_pos rfl,Ti nS]
  by_cases e:s=u
  ·subst e;rw [if_pos rfl,hu];rfl
  ·rw [if_neg e];exact hu
 refine ⟨⟨h1,fun k hk=>?_⟩,fun t ht u hu=>hm u (hj t ht u hu),fun u hu hy=>?_⟩
 ·rw [Sn hil,if_neg (fun e=>hk e.symm)];exact h.oth k hk
 ·by_cases e:s=u
  ·subst e;rw [Sn hil,if_pos rfl,Ti nS,if_pos rfl,hy,Bool.or_true]
  ·exact hm u (hk u (by omega) hy)
theorem wU.next (h:wU ts j Y X i) (hj:j < ts.length) (ht:ts[j]=(tn:Int)) (hk:TkS tn (Sd Y tn).length Y X i):wU ts (j + 1) Y X i:=by
 intro t h1 u hu;rw [List.take_succ_eq_append_getElem hj,List.mem_append,List.mem_singleton] at h1
 rcases h1 with h1|h1
 ·exact h t h1 u hu
 ·rw [h1,ht,Int.toNat_natCast] at hu;exact hk u (Zk hu) hu
theorem LvS.next {C:Nat} {a:Bool} (h:LvS bs X0 Y C a (i + 1)) (hO:Zn bs n) (hi:i < bs.length) (hr:M4 bs n X0 Y i X) (hj:wU (Jr bs i) (Jr bs i).length Y X i) :
  bE bs n X (Y.set i (RA (Ea bs (i:Int)) (Sd X i)))∧LvS bs X (Y.set i (RA (Ea bs (i:Int)) (Sd X i))) C (a || !decide (RA (Ea bs (i:Int)) (Sd X i)=Sd Y i)) i:=by
 have hil:i < Y.length:=by rw [hr.inv.yl];exact hi
 refine ⟨hr.inv.put hO hi,?_⟩
 by_cases he:RA (Ea bs (i:Int)) (Sd X i)=Sd Y i
 ·have hY:Y.set i (RA (Ea bs (i:Int)) (Sd X i))=Y:=by
   rw [he];apply List.ext_getElem (by simp);intro k h1 h2;rw [List.getElem_set]
   by_cases e:i=k
   ·subst e;simp [Sd,List.getD_eq_getElem?_getD,h2]
   ·rw [if_neg e]
  rw [hY,decide_eq_true he];refine ⟨h.le,fun ha=>h.lt (by simpa using ha),fun ha k hk1 hk2=>?_⟩
  by_cases e:k=i
  ·subst e;exact ⟨fun t ht u hu=>hj t (by rw [List.take_length];exact ht) u hu,he.symm⟩
  ·have:=h.so (by simpa using ha) k (by omega) hk2;unfold StE at this ⊢;rw [hr.oth k e];exact this
 ·have:=hr.inv.grow hO hi he;rw [decide_eq_false he];exact ⟨by have:=h.le;omega,fun _=>by have:=h.le;omega,fun ha=>by simp at ha⟩
end
theorem bE.cnt {bs:List Ke} {n:Nat} {X Y:List (List Bool)} (h:bE bs n X Y):Rp Y ≤ n * bs.length:=by
 have:=YH (m:=n) Y (fun i hi=>by rw [h.yr i (by rw [← h.yl];exact hi)];exact Nat.le_refl _)
 rwa [h.yl] at this
abbrev WD (Wa:Option Addr) (n0 Ya:Nat) (Ja Fa:Int) (n:Nat) (Ob:Option Addr) (n4 Cb:Nat):Obj:=.cells #[.slice Wa n0 Ya,.int .i64 Ja,.int .i64 Fa,.int .i64 (n:Int),.slice Ob n4 Cb] 30 (0,0)
theorem QA {w wr:World} {PB:Nat→Prop} {vX vY:Value} {X Y:List (List Bool)} {Wa Ob:Option Addr} {n0 c0 n n4 c4:Nat} {a1 a2:Int} (h:aq w (WD Wa n0 c0 a1 a2 n Ob n4 c4) PB vX vY X Y wr):wr.cell? ⟨w.heap.size,3,none⟩=some (.int .i64 (n:Int)):=(ga h.hx 3).trans rfl
theorem WR {w wr:World} {PB:Nat→Prop} {vX vY:Value} {X Y:List (List Bool)} {Wa Ob:Option Addr} {n0 c0 n n4 c4:Nat} {a1 a2:Int} (h:aq w (WD Wa n0 c0 a1 a2 n Ob n4 c4) PB vX vY X Y wr):wr.cell? ⟨w.heap.size,4,none⟩=some (.slice Ob n4 c4):=(ga h.hx 4).trans rfl
theorem dV {bs:List Ke} (hE:Lz bs) {b j:Nat} (hb:b < bs.length) (hj:j < (Jr bs b).length) {A:Option Addr} {W:World} (hC:Kd.C (Kd.int .i64) W A (Jr bs b).length (Jr bs b)) :
  ∃ (ad:Addr) (t:Nat),A=some ad∧(Jr bs b)[j]=(t:Int)∧t < bs.length∧W.cell? (ad.add j)=some (.int .i64 (t:Int)):=by
 obtain ⟨t0,t1⟩:=hE.2.2 b hb _ (List.getElem_mem hj);obtain ⟨ad,e1,hx⟩:=Kd.Zf hC (j:Int) (by omega) (by omega);rw [Int.toNat_natCast,lp hj] at hx;exact ⟨ad,((Jr bs b)[j]).toNat,e1,(Int.toNat_of_nonneg t0).symm,by omega,by rw [Int.toNat_of_nonneg t0];exact hx⟩
theorem xx {xs:List Bool} {A:Option Addr} {W:World} {s:Nat} (hC:Kd.C Kd.bool W A xs.length xs) (hs:s < xs.length):∃ ad:Addr,A=some ad∧W.cell? (ad.add s)=some (.bool (seen xs s)):=by
 obtain ⟨ad,e1,hx⟩:=Kd.Bh hC (s:Int) (by omega) (by omega);rw [Int.toNat_natCast] at hx;exact ⟨ad,e1,hx⟩
def Zr (code:List lg) (q:Nat) (s:List Bool):List Bool:=(code.drop q).foldr (fun x s=>Em s x) s
theorem Qv (code:List lg) (q:Nat) (s:List Bool):(Zr code q s).length=s.length:=EA _ _
theorem Ut (code:List lg) (s:List Bool):Zr code code.length s=s:=by unfold Zr;rw [List.drop_length];rfl
theorem Tp {code:List lg} {q:Nat} (h:q < code.length) (s:List Bool):Zr code q s=Em (Zr code (q + 1) s) (Ua code (q:Int)):=by
 unfold Zr;rw [List.drop_eq_getElem_cons h,List.foldr_cons,vr h]
theorem ED (b:Ke) (s:List Bool):Zr b.f0 0 (Eh b s)=RA b s:=rfl
theorem vu {bs:List Ke} {n i:Nat} (hO:Zn bs n) (hi:i < bs.length):Gu n (Ea bs (i:Int)):=by
 rw [Qh hi];exact hO.2.2 _ (List.getElem_mem hi)
theorem YC {n q:Nat} {b:Ke} (h:Gu n b) (hq:q < b.f0.length):yu n (Ua b.f0 (q:Int)):=by
 rw [vr hq];exact h.2.2 _ (List.getElem_mem hq)
theorem G4 {W:World} {base n c u:Nat} {ok:Nat→Prop} {A:Option Addr} {xs:List Bool} (h:Kd.R Kd.bool 4 W base ok (.slice A n c) xs) (hu:u < xs.length) :
  ∃ g,A=some ⟨g,0,none⟩∧base ≤ g∧W.cell? ⟨g,u,none⟩=some (.bool (seen xs u))∧W.frozen? ⟨g,u,none⟩=false∧∀ b,Kd.R Kd.bool 4 (W.setCell ⟨g,u,none⟩ (.bool b)) base ok (.slice A n c) (xs.set u b)∧W.grownBy (W.setCell ⟨g,u,none⟩ (.bool b)) (some g):=by
 obtain ⟨g,cap,e,hb,-⟩:=Kd.Yn h (by omega);injection e with e1 e2 e3
 subst e1;obtain ⟨r1,r2⟩:=Kd.zl false h (u:Int) (by omega) (by omega);rw [Int.toNat_natCast] at r1 r2;refine ⟨g,rfl,hb,r1,r2,fun b=>?_⟩;have:=Kd.Hr h (u:Int) b
 rwa [Int.toNat_natCast] at this
end Go.Proofs.Ytkigbdceceeenaa.P
end
section
namespace Go.Proofs.Ytkigbdceceeenaa.P
open Go.RowKit Go.Proofs.Pa.Xb Go.Proofs.Pa.Pd Go.Proofs.Pa.Oe
set_option linter.unusedVariables false
set_option linter.unusedSimpArgs false
theorem Cj {i:Nat} (h:i ≤ 1048576):wrap64 ((i:Int) - 1)=(i:Int) - 1:=by unfold wrap64;omega
theorem succ_pred (i:Nat):((i + 1:Nat):Int) - 1=(i:Int):=by omega
theorem Ls (X:List (List Bool)) (i:Nat):Fc X (i:Int)=Sd X i:=by unfold Fc Sd;rw [Int.toNat_natCast]
def Ql (s:List Bool) (m:Nat):List Int:=((List.range m).filter (fun i=>seen s i)).map (fun (i:Nat)=>(i:Int))
theorem bQ {s:List Bool} {m:Nat} (h:seen s m=true):Ql s (m + 1)=Ql s m ++ [(m:Int)]:=by
 unfold Ql;rw [List.range_succ,List.filter_append,List.map_append];simp [h]
theorem cQ {s:List Bool} {m:Nat} (h:¬ seen s m=true):Ql s (m + 1)=Ql s m:=by
 unfold Ql;rw [List.range_succ,List.filter_append,List.map_append];simp [h]
theorem OE (s:List Bool) (m:Nat):(Ql s m).length ≤ m:=by
 unfold Ql;rw [List.length_map];exact Nat.le_trans (List.length_filter_le _ _) (Nat.le_of_eq List.length_range)
theorem nE (s:List Bool) (hm:s.length ≤ 1048576):∀ (d i:Nat),i + d=s.length→Ev (fun k=>Wd.l0 k (Ql s i) s (s.length:Int) (i:Int)) (Ql s s.length):=by
 intro d
 induction d with
 | zero =>
  intro i hi;obtain rfl:i=s.length:=by omega
  refine Ev.step (fun k=>by rw [Wd.l0]) ?_;exact Ev.neg (by omega) (Ev.now _)
 | succ d ih =>
  intro i hi;have hl:=OE s i;have h:=ih (i + 1) (by omega);refine Ev.step (fun k=>by rw [Wd.l0]) ?_;refine Ev.pos (by omega) (Ev.pos (by omega) (Ev.pos (by omega) ?_));rw [bk,Zd (show i < s.length by omega) (by omega)]
  by_cases hs:seen s i=true
  ·rw [bQ hs] at h;exact Ev.pos hs (Ev.pos (by omega) h)
  ·rw [cQ hs] at h;exact Ev.neg hs h
theorem nL (s:List Bool) (hm:s.length ≤ 1048576):Ev (fun k=>Wd.f k s) (Ql s s.length):=nE s hm s.length 0 (by omega)
theorem nJ (b:Ke) (s:List Bool) (hb:Gu s.length b) (x:List Bool) (hx:x.length=s.length):∀ (q:Nat),q ≤ b.f0.length→Ev (fun k=>Cf.l0 k (Zr b.f0 q x) ((q:Int) - 1) b.f0 b.f1 b.f2 b.f3 b.f4) (Zr b.f0 0 x):=by
 intro q
 induction q with
 | zero =>
  intro _;refine Ev.step (fun k=>by rw [Cf.l0]) ?_;exact Ev.neg (by omega) (Ev.now _)
 | succ q ih =>
  intro hq;have h1:=hb.1;have he:=vJ (Zr b.f0 (q + 1) x) (Ua b.f0 (q:Int)) (by rw [Qv,hx];exact YC hb (by omega));rw [← Tp (by omega)] at he;refine Ev.step (fun k=>by rw [Cf.l0]) ?_;rw [succ_pred];refine Ev.pos (by omega) (Ev.pos (by omega) (Ev.pos (by omega) (Ev.bind he ?_)));rw [Cj (by omega)];exact ih (by omega)
theorem TS (b:Ke) (s:List Bool) (hb:Gu s.length b) (hs:s.length ≤ 1048576):Ev (fun k=>Cf.f k b.f0 b.f1 b.f2 b.f3 b.f4 s) (RA b s):=by
 have hl:=nJ b s hb (Eh b s) (Uk b s) b.f0.length (Nat.le_refl _);rw [Ut,ED] at hl;have h1:=hb.1
 have he:Xf.f b.f0 b.f1 b.f2 b.f3 b.f4 s=some (Eh b s):=by
  unfold Xf.f Eh;rw [Option.bind_some,if_pos (by simp;omega),Option.bind_some,List.nil_append]
  by_cases hf:b.f1=0
  ·rw [if_pos hf,if_pos hf]
  ·have:=hb.2.1 hf;rw [if_neg hf,if_neg hf,if_pos (by omega),if_pos (by omega)]
 unfold Cf.f;refine Ev.bind (Ev.here he) ?_;rw [Cj h1];exact hl
theorem RH (b:Ke) (s:List Bool) (hb:Gu s.length b) (x:List Bool) (hx:x.length=s.length):∀ (q:Nat),q ≤ b.f0.length→Ev (fun k=>Ve.l0 k (Zr b.f0 q x) b.f0 ((q:Int) - 1)) (Zr b.f0 0 x):=by
 intro q
 induction q with
 | zero =>
  intro _;refine Ev.step (fun k=>by rw [Ve.l0]) ?_;exact Ev.neg (by omega) (Ev.now _)
 | succ q ih =>
  intro hq;have h1:=hb.1;have he:=SH (Zr b.f0 (q + 1) x) (Ua b.f0 (q:Int)) (by rw [Qv,hx];exact YC hb (by omega));rw [← Tp (by omega)] at he;refine Ev.step (fun k=>by rw [Ve.l0]) ?_;rw [succ_pred];refine Ev.pos (by omega) (Ev.pos (by omega) (Ev.pos (by omega) (Ev.bind he ?_)));rw [Cj (by omega)];exact ih (by omega)
theorem ZC {bs:List Ke} {n i:Nat} (hO:Zn bs n) (hi:i < bs.length) (X:List (List Bool)) (hX:X.length=bs.length) (hr:(Sd X i).length=n) (l0:List Int) (p v s:Int):Di.f l0 p v s bs X (i:Int)=some (Eh (Ea bs (i:Int)) (Sd X i)):=by
 have hb:=vu hO hi;have hn:=hO.2.1;unfold Di.f Eh;rw [Ls,Option.bind_some,if_pos (by omega),if_pos (by omega),if_pos (by simp;omega),Option.bind_some,List.nil_append,if_pos (by omega)]
 by_cases hf:(Ea bs (i:Int)).f1=0
 ·rw [if_pos hf,if_pos hf]
 ·have:=hb.2.1 hf;rw [if_neg hf,if_neg hf,if_pos (by omega),if_pos (by omega)]
theorem IQ {bs:List Ke} {n i:Nat} (hO:Zn bs n) (hi:i < bs.length) (X:List (List Bool)) (hX:X.length=bs.length) (hr:(Sd X i).length=n) (l0:List Int) (p v s:Int):Ev (fun k=>Ve.f k l0 p v s bs X (i:Int)) (RA (Ea bs (i:Int)) (Sd X i)):=by
 have hb:=vu hO hi;have hl:=RH (Ea bs (i:Int)) (Sd X i) (by rw [hr];exact hb) (Eh (Ea bs (i:Int)) (Sd X i)) (Uk _ _) _ (Nat.le_refl _);rw [Ut,ED] at hl;unfold Ve.f;refine Ev.bind (Ev.here (ZC hO hi X hX hr l0 p v s)) ?_;refine Ev.pos (by omega) (Ev.pos (by omega) ?_);rw [Cj hb.1];exact hl
structure vT (bs:List Ke) (n:Nat) (X:List (List Bool)):Prop where
 len:X.length=bs.length
 row:∀ i,i < bs.length→(Sd X i).length=n
 so:∀ i u,i < bs.length→seen (Sd X i) u=true→LB bs u i
def StS (bs:List Ke) (X:List (List Bool)) (i:Nat):Prop:=∀ t ∈ Jr bs i,∀ u,seen (RA (Ea bs t) (Sd X t.toNat)) u=true→seen (Sd X i) u=true
structure SX (bs:List Ke) (n:Nat) (X0 X:List (List Bool)) (a:Bool):Prop where
 inv:vT bs n X
 le:Rp X0 ≤ Rp X
 lt:a=true→Rp X0 < Rp X
 eq:a=false→X=X0
section
variable {bs:List Ke} {n:Nat} {X0 X:List (List Bool)} {a:Bool}
theorem vT.P7 (h:vT bs n X) (hO:Zn bs n) {i:Nat} {t:Int} (hi:i < bs.length) (ht:t ∈ Jr bs i) {u:Nat} (hu:seen (RA (Ea bs t) (Sd X t.toNat)) u=true):LB bs u i:=by
 obtain ⟨t0,t1⟩:=hO.1.2.2 i hi t ht;have htn:t.toNat < bs.length:=by omega
 have hb:=vu hO htn;rw [Int.toNat_of_nonneg t0] at hb;rw [wu (by rw [h.row _ htn];exact hb)] at hu;cases hc:seen (Sd X t.toNat) u with
 | false=>rw [hc] at hu;exact LB.gen ht hu
 | true=>rw [hc] at hu;exact LB.step ht hu (h.so _ u htn hc)
theorem SX.put (h:SX bs n X0 X a) {i s:Nat} (hi:i < bs.length) (hs:s < n) (hb:LB bs s i) (hns:¬ seen (Sd X i) s=true):SX bs n X0 (X.set i ((Sd X i).set s true)) true:=by
 have hil:i < X.length:=by rw [h.inv.len];exact hi
 have nS:s < (Sd X i).length:=by rw [h.inv.row i hi];exact hs
 have h1:=vD X i ((Sd X i).set s true) hil
 have h2:=(FL (Sd X i) ((Sd X i).set s true) (by rw [List.length_set]) (fun u hu=>by
  rw [Ti nS]
  by_cases e:s=u
  ·rw [if_pos e]
  ·rw [if_neg e];exact hu)).2 (fun e=>hns (by rw [e,Ti nS,if_pos rfl]))
 have h3:=h.le;refine ⟨⟨by rw [List.length_set];exact h.inv.len,fun k hk=>?_,fun k u hk hu=>?_⟩,by omega,fun _=>by omega,fun e=>by cases e⟩
 ·rw [Sn hil]
  by_cases e:i=k
  ·rw [if_pos e,List.length_set];exact h.inv.row i hi
  ·rw [if_neg e];exact h.inv.row k hk
 ·rw [Sn hil] at hu
  by_cases e:i=k
  ·subst e;rw [if_pos rfl,Ti nS] at hu
   by_cases e2:s=u
   ·subst e2;exact hb
   ·rw [if_neg e2] at hu;exact h.inv.so i u hk hu
  ·rw [if_neg e] at hu;exact h.inv.so k u hk hu
theorem vT.done (h:vT bs n X) (hO:Zn bs n) (hst:∀ i,i < bs.length→StS bs X i):X=De bs n:=by
 have hE:=hO.1
 have key:∀ u i,LB bs u i→i < bs.length→seen (Sd X i) u=true:=by
  intro u i hl
  have turn:∀ (i:Nat) (t:Int),i < bs.length→t ∈ Jr bs i→qU u (Ea bs t) (seen (Sd X t.toNat) u)=true→seen (Sd X i) u=true:=by
   intro i t hi ht h1;obtain ⟨t0,t1⟩:=hE.2.2 i hi t ht;have htn:t.toNat < bs.length:=by omega
   have hb:=vu hO htn;rw [Int.toNat_of_nonneg t0] at hb;refine hst i hi t ht u ?_;rw [wu (by rw [h.row _ htn];exact hb)];exact h1
  induction hl with
  | @gen i t ht h1 =>
   intro hi;exact turn i t hi ht (xu (fun hf=>by cases hf) h1)
  | @step i t ht h1 _ ih =>
   intro hi;obtain ⟨t0,t1⟩:=hE.2.2 i hi t ht;exact turn i t hi ht (xu (fun _=>ih (by omega)) h1)
 apply List.ext_getElem
 ·rw [h.len,Zi]
 ·intro i h1 h2;have hi:i < bs.length:=by rw [← h.len];exact h1
  have e1:X[i]=Sd X i:=by simp [Sd,List.getD_eq_getElem?_getD,h1]
  have e2:(De bs n)[i]=Sl bs n i:=by simp [De]
  rw [e1,e2];refine PC (by rw [h.row i hi,jj]) (fun u=>?_)
  constructor
  ·intro hu;have hun:u < n:=by have:=Zk hu;rw [h.row i hi] at this;exact this
   exact (xo hun).2 (h.so i u hi hu)
  ·intro hu;have hun:u < n:=by have:=Zk hu;rw [jj] at this;exact this
   exact key u i ((xo hun).1 hu) hi
theorem vT.start (bs:List Ke) (n:Nat):vT bs n (List.replicate bs.length (List.replicate n false)) :=
 ⟨(bE.start bs n).xl,(bE.start bs n).xr,(bE.start bs n).xs⟩
theorem vT.cnt (h:vT bs n X):Rp X ≤ n * bs.length:=by
 have:=YH (m:=n) X (fun i hi=>by rw [h.row i (by rw [← h.len];exact hi)];exact Nat.le_refl _)
 rwa [h.len] at this
end
section
variable {bs:List Ke} {n:Nat} (l0:List Int) (p v:Int) {R:List (List Bool)} {X0:List (List Bool)}
theorem tL {Q:Prop} {i j:Nat} {ts:List Int} {t:List Bool} (hO:Zn bs n) (hi:i < bs.length) (htl:t.length=n) (hso:∀ u,seen t u=true→LB bs u i)
  (hK:∀ X a,SX bs n X0 X a→(a=false→Q)→(a=false→∀ u,u < n→seen t u=true→seen (Sd X0 i) u=true)→Ev (fun k=>gb.l3 k X a (i:Int) ts (wrap64 ((j:Int) + 1)) l0 p v (n:Int) bs) R) :
  ∀ (d s:Nat) (X:List (List Bool)) (a:Bool),s + d=n→SX bs n X0 X a→(a=false→Q)→(a=false→∀ u,u < s→seen t u=true→seen (Sd X0 i) u=true)→Ev (fun k=>gb.l4 k X a (i:Int) ts (j:Int) t (s:Int) l0 p v (n:Int) bs) R:=by
 intro d
 induction d with
 | zero =>
  intro s X a hs hP hQ hD;obtain rfl:s=n:=by omega
  refine Ev.step (fun k=>by rw [gb.l4]) ?_;exact Ev.neg (by omega) (hK X a hP hQ hD)
 | succ d ih =>
  intro s X a hs hP hQ hD;have hsn:s < n:=by omega
  have hn:=hO.2.1;have hxl:=hP.inv.len;have hxr:=hP.inv.row i hi;refine Ev.step (fun k=>by rw [gb.l4]) ?_;refine Ev.pos (by omega) (Ev.pos (by omega) (Ev.pos (by omega) ?_));rw [bk,Zd hsn (by omega),Ls,bk,Int.toNat_natCast,Int.toNat_natCast]
  by_cases hts:seen t s=true
  ·refine Ev.pos hts (Ev.pos (by omega) (Ev.pos (by omega) (Ev.pos (by omega) ?_)))
   by_cases hx:seen (Sd X i) s=true
   ·refine Ev.pos hx (ih (s + 1) X a (by omega) hP hQ (fun ha u hu hu2=>?_))
    by_cases e:u=s
    ·subst e;rw [← hP.eq ha];exact hx
    ·exact hD ha u (by omega) hu2
   ·exact Ev.neg hx (ih (s + 1) _ true (by omega) (hP.put hi hsn (hso s hts) hx) (fun ha=>by cases ha) (fun ha=>by cases ha))
  ·refine Ev.neg hts (ih (s + 1) X a (by omega) hP hQ (fun ha u hu hu2=>?_))
   by_cases e:u=s
   ·subst e;exact absurd hu2 hts
   ·exact hD ha u (by omega) hu2
theorem uL {Q:Prop} {i:Nat} (hO:Zn bs n) (hi:i < bs.length)
  (hK:∀ X a,SX bs n X0 X a→(a=false→Q)→(a=false→StS bs X0 i)→Ev (fun k=>gb.l2 k X a (wrap64 ((i:Int) - 1)) l0 p v (n:Int) bs) R) :
  ∀ (d j:Nat) (X:List (List Bool)) (a:Bool),j + d=(Jr bs i).length→SX bs n X0 X a→(a=false→Q)→(a=false→∀ t ∈ (Jr bs i).take j,∀ u,seen (RA (Ea bs t) (Sd X0 t.toNat)) u=true→seen (Sd X0 i) u=true)→Ev (fun k=>gb.l3 k X a (i:Int) (Jr bs i) (j:Int) l0 p v (n:Int) bs) R:=by
 have h2:(Jr bs i).length ≤ 2:=dJ _;intro d
 induction d with
 | zero =>
  intro j X a hj hP hQ hD;obtain rfl:j=(Jr bs i).length:=by omega
  refine Ev.step (fun k=>by rw [gb.l3]) ?_;refine Ev.neg (by omega) (hK X a hP hQ (fun ha t ht=>hD ha t (by rw [List.take_length];exact ht)))
 | succ d ih =>
  intro j X a hj hP hQ hD;have hjl:j < (Jr bs i).length:=by omega
  have hn:=hO.2.1;have htm:=List.getElem_mem hjl;obtain ⟨t0,t1⟩:=hO.1.2.2 i hi _ htm;have hxl:=hP.inv.len;obtain ⟨tn,htn⟩:∃ tn:Nat,(Jr bs i)[j]=(tn:Int):=⟨_,(Int.toNat_of_nonneg t0).symm⟩;have htb:tn < bs.length:=by omega
  have hb:=vu hO htb;have hr:=hP.inv.row tn htb;refine Ev.step (fun k=>by rw [gb.l3]) ?_;rw [lp hjl,htn,Ls];refine Ev.pos (by omega) (Ev.pos (by omega) (Ev.pos (by omega) (Ev.pos (by omega) (Ev.pos (by omega) (Ev.bind (TS _ (Sd X tn) (by rw [hr];exact hb) (by omega)) ?_)))));refine tL l0 p v (X0:=X0) (Q:=a=false) hO hi (by rw [lq];exact hr) (fun u hu=>hP.inv.P7 hO hi htm (by rw [htn,Int.toNat_natCast];exact hu)) (fun X' a' IX hQ' hD'=>?_) n 0 X a (by omega) hP id (fun ha u hu=>by omega);rw [Zd hjl (by omega)];refine ih (j + 1) X' a' (by omega) IX (fun ha=>hQ (hQ' ha)) (fun ha t ht u hu=>?_);have hX:=hP.eq (hQ' ha);rw [List.take_succ_eq_append_getElem hjl,List.mem_append,List.mem_singleton] at ht
  rcases ht with ht|ht
  ·exact hD (hQ' ha) t ht u hu
  ·rw [ht,htn,Int.toNat_natCast,← hX] at hu;have hun:u < n:=by have:=Zk hu;rw [lq,hr] at this;exact this
   exact hD' ha u hun hu
theorem vL (hO:Zn bs n)
  (hK:∀ X a,SX bs n X0 X a→(a=false→∀ i,i < bs.length→StS bs X0 i)→Ev (fun k=>gb.l1 k X a l0 p v (n:Int) bs) R) :
  ∀ (q:Nat) (X:List (List Bool)) (a:Bool),q ≤ bs.length→SX bs n X0 X a→(a=false→∀ i,q ≤ i→i < bs.length→StS bs X0 i)→Ev (fun k=>gb.l2 k X a ((q:Int) - 1) l0 p v (n:Int) bs) R:=by
 intro q
 induction q with
 | zero =>
  intro X a hq hP hD;refine Ev.step (fun k=>by rw [gb.l2]) ?_;exact Ev.neg (by omega) (hK X a hP (fun ha i hi=>hD ha i (Nat.zero_le _) hi))
 | succ q ih =>
  intro X a hq hP hD;have hb:=hO.1.2.1;refine Ev.step (fun k=>by rw [gb.l2]) ?_;rw [succ_pred];refine Ev.pos (by omega) (Ev.pos (by omega) (Ev.pos (by omega) (Ev.bind (Ev.here (dQ (Ea bs (q:Int)))) ?_)));refine uL l0 p v (X0:=X0) (Q:=a=false) hO (show q < bs.length by omega) (fun X' a' IX hQ' hD'=>?_) _ 0 X a (Nat.zero_add _) hP id (fun _ t ht=>by simp at ht);rw [Cj (by omega)];refine ih X' a' (by omega) IX (fun ha i hi1 hi2=>?_)
  by_cases e:i=q
  ·subst e;exact hD' ha
  ·exact hD (hQ' ha) i (by omega) hi2
theorem wL (hO:Zn bs n):∀ (m:Nat) (X:List (List Bool)) (a:Bool),n * bs.length - Rp X + (if a=true then 1 else 0) ≤ m→vT bs n X→(a=false→∀ i,i < bs.length→StS bs X i)→Ev (fun k=>gb.l1 k X a l0 p v (n:Int) bs) (De bs n):=by
 intro m
 induction m with
 | zero =>
  intro X a hm hI hD;cases a with
  | true=>rw [if_pos rfl] at hm;omega
  | false =>
   rw [← hI.done hO (hD rfl)];refine Ev.step (fun k=>by rw [gb.l1]) ?_;exact Ev.neg (by simp) (Ev.now _)
 | succ m ih =>
  intro X a hm hI hD;cases a with
  | false =>
   rw [← hI.done hO (hD rfl)];refine Ev.step (fun k=>by rw [gb.l1]) ?_;exact Ev.neg (by simp) (Ev.now _)
  | true =>
   rw [if_pos rfl] at hm;refine Ev.step (fun k=>by rw [gb.l1]) ?_;refine Ev.pos rfl ?_;rw [Cj hO.1.2.1];refine vL l0 p v (X0:=X) hO (fun X' a' IX hD'=>?_) _ X false (Nat.le_refl _) ⟨hI,Nat.le_refl _,(fun e=>by cases e),(fun _=>rfl)⟩ (fun _ i h1 h2=>by omega);have hc:=IX.inv.cnt;refine ih X' a' ?_ IX.inv (fun ha=>?_)
   ·cases a' with
    | true=>have:=IX.lt rfl;rw [if_pos rfl];omega
    | false=>have:=IX.le;rw [if_neg (by simp)];omega
   ·rw [IX.eq ha];exact hD' ha
theorem xL (hO:Zn bs n):∀ (d j:Nat),j + d=bs.length→Ev (fun k=>gb.l0 k (List.replicate j (List.replicate n false)) (j:Int) l0 p v (n:Int) bs) (De bs n):=by
 have hb:=hO.1.2.1;have hn:=hO.2.1;intro d
 induction d with
 | zero =>
  intro j hj;obtain rfl:j=bs.length:=by omega
  refine Ev.step (fun k=>by rw [gb.l0]) ?_;exact Ev.neg (by omega) (wL l0 p v hO _ _ true (Nat.le_refl _) (vT.start bs n) (fun e=>by cases e))
 | succ d ih =>
  intro j hj;have h:=ih (j + 1) (by omega);rw [List.replicate_succ'] at h;refine Ev.step (fun k=>by rw [gb.l0]) ?_;rw [Int.toNat_natCast,Zd (show j < bs.length by omega) (by omega)];exact Ev.pos (by omega) (Ev.pos (by omega) (Ev.pos (by omega) (Ev.pos (by rw [List.length_replicate];omega) h)))
theorem oL (hO:Zn bs n):Ev (fun k=>gb.f k l0 p v (n:Int) bs) (De bs n):=xL l0 p v hO bs.length 0 (by omega)
end
end Go.Proofs.Ytkigbdceceeenaa.P
end
