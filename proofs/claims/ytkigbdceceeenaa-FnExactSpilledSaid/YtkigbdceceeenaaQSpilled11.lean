import Derived.Shelf.Abstract
import Derived.Outline
import Derived.RegionTactic
import Derived.StillTailTactics
import Derived.Test.YtkigbdceceeenaaQSpilled1
import Derived.Test.YtkigbdceceeenaaQSpilled3
import Derived.Test.YtkigbdceceeenaaQSpilled8
import Derived.Test.YtkigbdceceeenaaQSpilled9
import Derived.Test.YtkigbdceceeenaaQSpilled10
import Derived.Test.YtkigbdceceeenaaQSpilled7
import Derived.Test.YtkigbdceceeenaaQSpilled6
set_option maxHeartbeats 16000000
set_option maxRecDepth 100000
section
namespace Go.Proofs.Ytkigbdceceeenaa.P
open Go.RowKit Go.Proofs.Ma.Wb Go.Proofs.Ma.Jd Go.Proofs.Ma.Fe
set_option linter.unusedVariables false
set_option linter.unusedSimpArgs false
def tl (x:Le):List Int:=Og x ++ (if Xm x ≥ 0 then [Xm x] else [])
def jl (b:He):List Int:=if b.f1=0 then [] else [b.f2]
def qU (b:He):List Int:=jl b ++ b.f0.flatMap tl
def YZ (bs:List He) (n:Nat):List Bool:=(bs.flatMap qU).foldl Vg (List.replicate n false)
theorem E1 (bs:List He) (n:Nat):(YZ bs n).length=n:=by unfold YZ;rw [Si,List.length_replicate]
noncomputable def Pg.f (Qa:List Int) (Ja:Int) (Ga:Int) (Ia:Int) (Aa:List (He)):Option (List Bool):=open Classical in if 0 ≤ Ia∧Lm Aa Ia.toNat then some (YZ Aa Ia.toNat) else none
structure sN (w:World) (o:Obj) (N:Nat) (A:Option Addr) (n c:Nat) (s:List Bool) (wr:World):Prop where
 bw:Below w.heap.size w wr
 hx:wr.heap[w.heap.size]? = some o
 r:Kd.R Kd.bool 4 wr w.heap.size (fun k=>w.heap.size < k∧k < N) (.slice A n c) s
 l:s.length=n
 z:N ≤ wr.heap.size
section
variable {w wr W:World} {o:Obj} {N n c:Nat} {A:Option Addr} {s:List Bool}
theorem sN.below (h:sN w o N A n c s wr) (hb:Below wr.heap.size wr W):sN w o N A n c s W:=⟨Na h.bw hb,Va h.hx hb,Kd.oc h.r hb,h.l,Nat.le_trans h.z hb.size⟩
theorem sN.put {u:Int} (h:sN w o N A n c s wr) (hu:0 ≤ u∧u < (n:Int)):∃ (g z:Nat),A=some ⟨g,0,none⟩∧u=(z:Int)∧z < n∧wr.cell? ⟨g,z,none⟩=some (.bool (seen s z))∧wr.frozen? ⟨g,z,none⟩=false∧sN w o N A n c (Vg s u) (wr.setCell ⟨g,z,none⟩ (.bool true))∧Kept wr (wr.setCell ⟨g,z,none⟩ (.bool true)) (fun k=>w.heap.size < k∧k < N):=by
 obtain ⟨h0,h1⟩:=hu;obtain ⟨z,rfl⟩:∃ z:Nat,u=(z:Int):=⟨u.toNat,(Int.toNat_of_nonneg h0).symm⟩;obtain ⟨g,rfl,hb,hc,hf,hp⟩:=uY h.r (show z < s.length by rw [h.l];omega);have hg:=h.r.1 g rfl;have hk:Kept wr (wr.setCell ⟨g,z,none⟩ (.bool true)) (fun k=>w.heap.size < k∧k < N):=(Kept.refl wr _).setCell (p:=⟨g,z,none⟩) (Or.inl hg) (.bool true);refine ⟨g,z,rfl,rfl,by omega,hc,hf,⟨h.bw.setCell hb _,Ve h.hx hk (fun e=>by omega),?_,by unfold Vg;rw [List.length_set];exact h.l,Nat.le_trans h.z hk.1⟩,hk⟩;unfold Vg;rw [Int.toNat_natCast];exact (hp true).1
end
theorem Pg.calls (Wa:Option Addr) (Xa:Nat) (Qa:List Int) (Ja:Int) (Ga:Int) (Ia:Int) (Jb:Option Addr) (yb:Nat) (Aa:List (He)) (r:List Bool) (w:World) (Od:Kd.C (Kd.int .i64) w Wa Qa.length Qa) (Md:Qa.length ≤ Xa) (Re:Kd.C iq w Jb Aa.length Aa) (Qe:Aa.length ≤ yb) (h:Pg.f Qa Ja Ga Ia Aa=some r) :
  Calls Try.prog 60 #[.agg #[.slice Wa Qa.length Xa,.int .i64 Ja,.int .i64 Ga,.int .i64 Ia,.slice Jb Aa.length yb]] w fun e w'=>∃ wm:Value,e = .returned (wm)∧Kd.R Kd.bool 4 w' w.heap.size (fun _=>True) wm r∧Below w.heap.size w w':=by
 unfold Pg.f at h
 by_cases hf:0 ≤ Ia∧Lm Aa Ia.toNat
 case neg=>rw [if_neg hf] at h;cases h
 rw [if_pos hf] at h;obtain rfl:=Option.some.inj h;obtain ⟨hn0,hO⟩:=hf;obtain ⟨n,rfl⟩:∃ n:Nat,Ia=(n:Int):=⟨Ia.toNat,(Int.toNat_of_nonneg hn0).symm⟩;rw [Int.toNat_natCast] at hO ⊢;clear h hn0;have HO:=ga.mk hO;have hn:n ≤ 1048576:=hO.2.1;have hm1:Aa.length ≤ 1048576:=hO.1.2.1;clear hO;have gH:=ga.mk Re;have wN:=ga.mk Qe;have JC:=ga.mk (qa (Below.refl w.heap.size w) (.cells #[.slice Wa Qa.length Xa,.int .i64 Ja,.int .i64 Ga,.int .i64 (n:Int),.slice Jb Aa.length yb] 30 (0,0)));have HX0:=ga.mk (Mj w (.cells #[.slice Wa Qa.length Xa,.int .i64 Ja,.int .i64 Ga,.int .i64 (n:Int),.slice Jb Aa.length yb] 30 (0,0)));have HZ0:=ga.mk (show (w.alloc (.cells #[.slice Wa Qa.length Xa,.int .i64 Ja,.int .i64 Ga,.int .i64 (n:Int),.slice Jb Aa.length yb] 30 (0,0))).heap.size=w.heap.size + 1 by simp);clear Od Re Md Qe;go_enter Try.func60,Try.ntmps60
 go_upto_region 1 with (fail)
 generalize w.alloc (.cells #[.slice Wa Qa.length Xa,.int .i64 Ja,.int .i64 Ga,.int .i64 (n:Int),.slice Jb Aa.length yb] 30 (0,0))=w1 at JC HX0 HZ0 ⊢;have br:w1.cell? ⟨w.heap.size,3,none⟩=some (.int .i64 (n:Int)):=(ia HX0.out 3).trans rfl;have R9:(0:Int) ≤ (n:Int):=by omega
 have R_:=ga.mk (show ((n:Int)).toNat * 1 ≤ 281474976710656 from by omega)
 go_upto_region 2 with (first|((with_reducible refine qb (N:=11) rfl ?_);refine Kd.Kv Kd.bool (w0:=w1) w1.heap.size 4 rfl (N:=11) rfl 60 _ _ rfl (n:Int) rfl rfl Try.underlying60 (.bool false) 1 Qv rfl (by decide) (by omega) false (ok:=fun k=>True) (Di:=fun k=>True) rfl (fun _ hk=>hk) trivial R9 R_.out (Below.refl _ _) (Nat.le_refl _) ?_;intro v11 w2 ho hb hg hat;rw [Int.toNat_natCast] at ho;obtain ⟨A,c,Xae⟩:=Kd.Bd ho;rw [List.length_replicate] at Xae;subst Xae;have HS2:=ga.mk ho;have uu:=ga.mk hb;clear ho hb hg hat br))
 have T_:=ga.mk (show sN w (sy Wa Qa.length Xa Ja Ga n Jb Aa.length yb) w2.heap.size A n c (List.replicate n false) w2 from
  ⟨Na JC.out uu.out,Va HX0.out uu.out,Kd.Wd (Kd.Xd (Kd.Bg HS2.out) (fun k hk=>⟨by have:=hk.2.1;have:=HZ0.out;omega,hk.2.2.1⟩)) (by have:=HZ0.out;omega),List.length_replicate,Nat.le_refl _⟩)
 clear JC HX0 HZ0 HS2 uu;generalize w2.heap.size=N at T_;go_wp2
 go_loopg [4] Aa.length (fun gg v4 wr=>∃ (i:Nat) (s:List Bool),v4 = .int .i64 i∧i ≤ Aa.length∧Aa.length - i ≤ gg∧ga (((Aa.drop i).flatMap qU).foldl Vg s=YZ Aa n)∧ga (sN w (sy Wa Qa.length Xa Ja Ga n Jb Aa.length yb) N A n c s wr))
 case atStart=>exact ⟨0,_,rfl,Nat.zero_le _,by omega,⟨rfl⟩,T_⟩
 case round =>
  clear T_;(try clear iU);(try clear HI);obtain ⟨i,s,rfl,hi,xV,iU,HI⟩:=hrel;have Tr:wr.cell? ⟨w.heap.size,4,none⟩=some (.slice Jb Aa.length yb):=(ia HI.out.hx 4).trans rfl
  by_cases hlt:i < Aa.length
  ·have Pt:decide ((i:Int) < (Aa.length:Int))=true:=decide_eq_true (by omega);have i1:0 ≤ (i:Int):=by omega
   have i2:(i:Int) < (Aa.length:Int):=by omega
   obtain ⟨ag,Ac,cc,e1,hc0,Xk,fy,oC,aK,Xv,AX⟩:=Fj gH.out (i:Int) (by omega) (by omega);subst e1;simp only [Int.toNat_natCast] at hc0 Xk fy oC aK;have LZ:=ga.mk AX;have m8:=ga.mk Xv;replace hc0:=dc hc0 (Kept.mc HI.out.bw (fun _=>False)) id;replace Xk:=dc Xk (Kept.mc HI.out.bw (fun _=>False)) id;replace fy:=dc fy (Kept.mc HI.out.bw (fun _=>False)) id;replace oC:=dc oC (Kept.mc HI.out.bw (fun _=>False)) id;replace aK:=dc aK (Kept.mc HI.out.bw (fun _=>False)) id;clear AX Xv
   go_upto_region 6 with (fail)
   have uw:=qa (Below.refl wr.heap.size wr) (.cells #[.slice Ac (za Aa (i:Int)).f0.length cc,.int .i64 (za Aa (i:Int)).f1,.int .i64 (za Aa (i:Int)).f2,.int .i64 (za Aa (i:Int)).f3,.int .i64 (za Aa (i:Int)).f4] 59 (0,0));have Sy:=Mj wr (.cells #[.slice Ac (za Aa (i:Int)).f0.length cc,.int .i64 (za Aa (i:Int)).f1,.int .i64 (za Aa (i:Int)).f2,.int .i64 (za Aa (i:Int)).f3,.int .i64 (za Aa (i:Int)).f4] 59 (0,0));generalize wr.alloc (.cells #[.slice Ac (za Aa (i:Int)).f0.length cc,.int .i64 (za Aa (i:Int)).f1,.int .i64 (za Aa (i:Int)).f2,.int .i64 (za Aa (i:Int)).f3,.int .i64 (za Aa (i:Int)).f4] 59 (0,0))=Wr at uw Sy ⊢;have IC:=ga.mk (HI.out.below uw);have Bm:=ga.mk Sy;have pP:=ga.mk (show N ≤ wr.heap.size from HI.out.z);have wP:=ga.mk (Ot HO.out hlt)
   have V7:=ga.mk (show ((Aa.drop (i + 1)).flatMap qU).foldl Vg ((qU (za Aa (i:Int))).foldl Vg s)=YZ Aa n from by
    have h:=iU.out;rw [List.drop_eq_getElem_cons hlt,List.flatMap_cons,List.foldl_append] at h;rw [mh hlt]
    exact h)
   have hbl:(za Aa (i:Int)).f0.length ≤ 1048576:=wP.out.1;clear uw Sy HI Tr hc0 Xk fy oC aK i1 i2 Pt iU;generalize wr.heap.size=q7 at Bm pP ⊢;have Q9:Wr.cell? ⟨q7,1,none⟩=some (.int .i64 (za Aa (i:Int)).f1):=(ia Bm.out 1).trans rfl
   by_cases dJ:(za Aa (i:Int)).f1=0
   ·have CK:=ga.mk (show ((za Aa (i:Int)).f0.flatMap tl).foldl Vg s=(qU (za Aa (i:Int))).foldl Vg s from by unfold qU jl;rw [if_pos dJ];rfl);rw [dJ] at Q9;clear dJ
    go_upto_region 8 with (fail)
    clear Q9;have mD:=IC;have gz:=Bm;clear IC Bm;generalize qU (za Aa (i:Int))=TB at CK V7;go_wp2
    go_loopg [6] (za Aa (i:Int)).f0.length (fun g6 v6 wr=>∃ (k:Nat) (s1:List Bool),v6 = .int .i64 k∧k ≤ (za Aa (i:Int)).f0.length∧(za Aa (i:Int)).f0.length - k ≤ g6∧ga ((((za Aa (i:Int)).f0.drop k).flatMap tl).foldl Vg s1=TB.foldl Vg s)∧ga (sN w (sy Wa Qa.length Xa Ja Ga n (some ag) Aa.length yb) N A n c s1 wr)∧ga (wr.heap[q7]? = some (.cells #[.slice Ac (za Aa (i:Int)).f0.length cc,.int .i64 (za Aa (i:Int)).f1,.int .i64 (za Aa (i:Int)).f2,.int .i64 (za Aa (i:Int)).f3,.int .i64 (za Aa (i:Int)).f4] 59 (0,0))))
    case atStart=>exact ⟨0,_,rfl,Nat.zero_le _,by omega,CK,mD,gz⟩
    case round =>
     clear CK mD gz;(try clear CK);(try clear HI);(try clear HQ);obtain ⟨k,s1,rfl,hk,hg6,CK,HI,HQ⟩:=hrel;have Sx:wr.cell? ⟨q7,0,none⟩=some (.slice Ac (za Aa (i:Int)).f0.length cc):=(ia HQ.out 0).trans rfl
     by_cases qN:k < (za Aa (i:Int)).f0.length
     ·have CQ:decide ((k:Int) < ((za Aa (i:Int)).f0.length:Int))=true:=decide_eq_true (by omega);have p1:0 ≤ (k:Int):=by omega
      have p2:(k:Int) < ((za Aa (i:Int)).f0.length:Int):=by omega
      obtain ⟨aI,e6,k0,k1,k2,k3,k4,k5,k6⟩:=Jm LZ.out (k:Int) (by omega) (by omega);subst e6;simp only [Int.toNat_natCast] at k0 k1 k2 k3 k4 k5 k6;have TK:=ga.mk (jw wP.out qN)
      have nP:=ga.mk (show (((za Aa (i:Int)).f0.drop (k + 1)).flatMap tl).foldl Vg ((tl (Ea (za Aa (i:Int)).f0 (k:Int))).foldl Vg s1)=TB.foldl Vg s from by
       have h:=CK.out;rw [List.drop_eq_getElem_cons qN,List.flatMap_cons,List.foldl_append] at h;rw [Rk qN]
       exact h)
      generalize Ea (za Aa (i:Int)).f0 (k:Int)=x at k0 k1 k2 k3 k4 k5 k6 TK nP;have FZ:=ga.mk (And.intro k0 (And.intro k1 (And.intro k2 (And.intro k3 (And.intro k4 (And.intro k5 k6))))));replace k0:=dc k0 (Kept.mc HI.out.bw (fun _=>False)) id;replace k1:=dc k1 (Kept.mc HI.out.bw (fun _=>False)) id;replace k2:=dc k2 (Kept.mc HI.out.bw (fun _=>False)) id;replace k3:=dc k3 (Kept.mc HI.out.bw (fun _=>False)) id;replace k4:=dc k4 (Kept.mc HI.out.bw (fun _=>False)) id;replace k5:=dc k5 (Kept.mc HI.out.bw (fun _=>False)) id;replace k6:=dc k6 (Kept.mc HI.out.bw (fun _=>False)) id;obtain ⟨ku,hku⟩:=Ev.rounds (gK x);have HKU:=ga.mk hku;obtain ⟨wk,rfl⟩:∃ wk,wk=wr:=⟨_,rfl⟩;clear hku CK
      go_upto_region 12 with (first|(go_at_call 74;(with_reducible refine (Ke.calls ku x.f0 x.f1 x.f2 x.f3 x.f4 x.f5 x.f6 (Og x) wk HKU.out).mono ?_);rintro e um ⟨v15,rfl,ho,hb⟩;obtain ⟨Au,cu,rfl⟩:=Kd.Bd ho;have UY:=ga.mk ho;have Pp:=ga.mk hb;clear ho hb Sx k0 k1 k2 k3 k4 k5 k6))
      have aN:=ga.mk (HI.out.below Pp.out);have qB:=ga.mk (Va HQ.out Pp.out);have HUR:=ga.mk (show ∀ W,Kept um W (fun k=>w.heap.size < k∧k < N)→Kd.C (Kd.int .i64) W Au (Og x).length (Og x) from fun W hk=>(Kd.Vb (Kd.Km (Kd.Xd (Kd.Bg UY.out) (fun k hk=>hk.2.1):Kd.R (Kd.int .i64) _ um _ (fun k=>wk.heap.size ≤ k) _ _) hk (fun k hk e=>by have:=HI.out.z;omega))).2.2);have C0:(Og x).length ≤ 1048576:=by have:=Vt x;omega
      have HUO:=ga.mk (show ∀ u ∈ Og x,0 ≤ u∧u < (n:Int) from TK.out.1);obtain ⟨xy,C9⟩:=JO TK.out;have Q0:=ga.mk xy;have HDX:=ga.mk C9;have HMD:=ga.mk (fun h=>OG TK.out h);have HTL:=ga.mk (show (tl x).foldl Vg s1=(if Xm x ≥ 0 then [Xm x] else []).foldl Vg ((Og x).foldl Vg s1) from by unfold tl;rw [List.foldl_append]);clear HI HQ Pp UY xy C9 p1 p2 CQ;generalize Og x=us at HUR C0 HUO HTL ⊢;go_wp2
      go_loopg [8] us.length (fun g8 v8 wr=>∃ (j:Nat) (s2:List Bool),v8 = .int .i64 j∧j ≤ us.length∧us.length - j ≤ g8∧ga ((us.drop j).foldl Vg s2=us.foldl Vg s1)∧ga (sN w (sy Wa Qa.length Xa Ja Ga n (some ag) Aa.length yb) N A n c s2 wr)∧ga (wr.heap[q7]? = some (.cells #[.slice (some aI) (za Aa (i:Int)).f0.length cc,.int .i64 (za Aa (i:Int)).f1,.int .i64 (za Aa (i:Int)).f2,.int .i64 (za Aa (i:Int)).f3,.int .i64 (za Aa (i:Int)).f4] 59 (0,0)))∧ga (Kept um wr (fun k=>w.heap.size < k∧k < N)))
      case atStart=>exact ⟨0,s1,rfl,Nat.zero_le _,by omega,⟨rfl⟩,aN,qB,⟨Kept.refl _ _⟩⟩
      case round =>
       clear aN qB;(try clear T7);(try clear HI);(try clear HQ);(try clear HK);obtain ⟨j,s2,rfl,hj,hg8,T7,HI,HQ,HK⟩:=hrel
       by_cases hjl:j < us.length
       ·have hjb:decide ((j:Int) < (us.length:Int))=true:=decide_eq_true (by omega);have j1:0 ≤ (j:Int):=by omega
        have j2:(j:Int) < (us.length:Int):=by omega
        obtain ⟨ad,e1,Xk⟩:=FH (HUR.out wr HK.out) hjl;subst e1;obtain ⟨g,z,eA,ez,hzn,ey,hfz,hput,hkp⟩:=HI.out.put (HUO.out _ (List.getElem_mem hjl));subst eA;rw [ez] at Xk;have z1:0 ≤ (z:Int):=by omega
        have z2:(z:Int) < (n:Int):=by omega
        have Wac:=ga.mk (show (us.drop (j + 1)).foldl Vg (Vg s2 us[j])=us.foldl Vg s1 from by
         have h:=T7.out;rw [List.drop_eq_getElem_cons hjl,List.foldl_cons] at h
         exact h)
        have Jad:=ga.mk hput;have kad:=ga.mk (Ve HQ.out hkp (fun e=>by have:=pP.out;omega));have Had:=ga.mk (HK.out.Fp hkp (fun _ h=>Or.inl h));clear hput hkp ez;go_wp2
        go_roundg (us.length - (j + 1))
        case measure=>omega
        case rel=>exact ⟨j + 1,_,by go_num,by omega,by omega,Wac,Jad,kad,Had⟩
       ·have hjb:decide ((j:Int) < (us.length:Int))=false:=decide_eq_false (by omega);have hue:=T7.out;rw [List.drop_eq_nil_of_le (by omega),List.foldl_nil] at hue;obtain ⟨JV,rfl⟩:∃ JV,JV=wr:=⟨_,rfl⟩;have U7:=HTL.out;rw [← hue] at U7;have BK:=ga.mk U7;clear U7 HTL hue T7;have Sx:JV.cell? ⟨q7,0,none⟩=some (.slice (some aI) (za Aa (i:Int)).f0.length cc):=(ia HQ.out 0).trans rfl;obtain ⟨k0,k1,k2,k3,k4,k5,k6⟩:=FZ.out;replace k0:=dc k0 (Kept.mc HI.out.bw (fun _=>False)) id;replace k1:=dc k1 (Kept.mc HI.out.bw (fun _=>False)) id;replace k2:=dc k2 (Kept.mc HI.out.bw (fun _=>False)) id;replace k3:=dc k3 (Kept.mc HI.out.bw (fun _=>False)) id;replace k4:=dc k4 (Kept.mc HI.out.bw (fun _=>False)) id;replace k5:=dc k5 (Kept.mc HI.out.bw (fun _=>False)) id;replace k6:=dc k6 (Kept.mc HI.out.bw (fun _=>False)) id;have p1:0 ≤ (k:Int):=by omega
        have p2:(k:Int) < ((za Aa (i:Int)).f0.length:Int):=by omega
        by_cases hm:Xm x ≥ 0
        ·obtain ⟨D,hD⟩:∃ D:Nat,Xm x=(D:Int):=⟨(Xm x).toNat,(Int.toNat_of_nonneg hm).symm⟩;have hDn:D < n:=by have:=HMD.out hm;omega
         have xy:=Q0.out;rw [decide_eq_true hm] at xy;have bG:=ga.mk xy;have HF1:=ga.mk (show x.f1=(D:Int) from (HDX.out hm).trans hD);have lP:=BK.out;rw [if_pos hm,hD] at lP;have kP:=ga.mk lP;clear lP BK xy hm hD
         go_upto_region 17 with (first|(go_at_call 73;(with_reducible refine (Ig.calls x.f0 x.f1 x.f2 x.f3 x.f4 x.f5 x.f6 true JV bG.out).mono ?_);rintro e js ⟨rfl,hb⟩;have tB:=ga.mk hb;clear hb Sx k0 k1 k2 k3 k4 k5 k6))
         have VF:=ga.mk (HI.out.below tB.out);have DK:=ga.mk (Va HQ.out tB.out);obtain ⟨g,z,eA,ez,hzn,ey,hfz,hput,hkp⟩:=VF.out.put (u:=(D:Int)) ⟨by omega,by omega⟩;subst eA;obtain rfl:D=z:=by omega
         have Sx:js.cell? ⟨q7,0,none⟩=some (.slice (some aI) (za Aa (i:Int)).f0.length cc):=(ia DK.out 0).trans rfl;obtain ⟨-,k1,-⟩:=FZ.out;replace k1:=dc k1 (Kept.mc VF.out.bw (fun _=>False)) id;rw [HF1.out] at k1;have z1:0 ≤ (D:Int):=by omega
         have z2:(D:Int) < (n:Int):=by omega
         have Vv:=ga.mk (show sN w (sy Wa Qa.length Xa Ja Ga n (some ag) Aa.length yb) N (some ⟨g,0,none⟩) n c ((tl x).foldl Vg s1) _ from by rw [kP.out];exact hput);have qP:=ga.mk (Ve DK.out hkp (fun e=>by have:=pP.out;omega));clear hput hkp ez HI HQ VF DK;go_wp2
         go_roundg ((za Aa (i:Int)).f0.length - (k + 1))
         case measure=>omega
         case rel=>exact ⟨k + 1,_,by go_num,by omega,by omega,nP,Vv,qP⟩
        ·have xy:=Q0.out;rw [decide_eq_false hm] at xy;have bG:=ga.mk xy;have lP:=BK.out;rw [if_neg hm,List.foldl_nil] at lP;have kP:=ga.mk lP;clear lP BK xy hm;go_wp2_with (first|(go_at_call 73;(with_reducible refine (Ig.calls x.f0 x.f1 x.f2 x.f3 x.f4 x.f5 x.f6 false JV bG.out).mono ?_);rintro e js ⟨rfl,hb⟩;have tB:=ga.mk hb;clear hb Sx k0 k1 k2 k3 k4 k5 k6));have Vv:=ga.mk (show sN w (sy Wa Qa.length Xa Ja Ga n (some ag) Aa.length yb) N A n c ((tl x).foldl Vg s1) _ from by rw [kP.out];exact HI.out.below tB.out);have qP:=ga.mk (Va HQ.out tB.out)
         go_roundg ((za Aa (i:Int)).f0.length - (k + 1))
         case measure=>omega
         case rel=>exact ⟨k + 1,_,by go_num,by omega,by omega,nP,Vv,qP⟩
     ·have CQ:decide ((k:Int) < ((za Aa (i:Int)).f0.length:Int))=false:=decide_eq_false (by omega);have htb:=CK.out;rw [List.drop_eq_nil_of_le (by omega),List.flatMap_nil,List.foldl_nil] at htb;have mP:=V7.out;rw [← htb] at mP;have Yac:=ga.mk mP;clear mP htb;go_wp2
      go_roundg (Aa.length - (i + 1))
      case measure=>omega
      case rel=>exact ⟨i + 1,s1,by go_num,by omega,by omega,Yac,HI⟩
   ·have hu:=wP.out.2.1 dJ;obtain ⟨gA,z,eA,ez,hzn,ey,hfz,hput,hkp⟩:=IC.out.put hu;subst eA;have h72:Wr.cell? ⟨q7,2,none⟩=some (.int .i64 (z:Int)):=by rw [← ez];exact (ia Bm.out 2).trans rfl
    have CK:=ga.mk (show ((za Aa (i:Int)).f0.flatMap tl).foldl Vg (Vg s (za Aa (i:Int)).f2)=(qU (za Aa (i:Int))).foldl Vg s from by unfold qU jl;rw [if_neg dJ,List.foldl_append];rfl);have hfb:(((za Aa (i:Int)).f1:Int) != 0)=true:=by simpa using dJ
    have hfd:¬ ((za Aa (i:Int)).f1=0):=dJ;have z1:0 ≤ (z:Int):=by omega
    have z2:(z:Int) < (n:Int):=by omega
    have mD:=ga.mk hput;have gz:=ga.mk (Ve Bm.out hkp (fun e=>by have:=pP.out;omega));clear hput hkp ez hu IC Bm
    go_upto_region 8 with (fail)
    clear Q9 h72 ey hfz hfb hfd z1 z2;generalize Wr.setCell ⟨gA,z,none⟩ (.bool true)=Ky at mD gz ⊢;obtain ⟨s0,hs0⟩:∃ s0,s0=s:=⟨_,rfl⟩;rw [← hs0] at CK V7 mD;generalize Vg s0 (za Aa (i:Int)).f2=s9 at CK mD;generalize qU (za Aa (i:Int))=TB at CK V7;go_wp2
    go_loopg [6] (za Aa (i:Int)).f0.length (fun g6 v6 wr=>∃ (k:Nat) (s1:List Bool),v6 = .int .i64 k∧k ≤ (za Aa (i:Int)).f0.length∧(za Aa (i:Int)).f0.length - k ≤ g6∧ga ((((za Aa (i:Int)).f0.drop k).flatMap tl).foldl Vg s1=TB.foldl Vg s0)∧ga (sN w (sy Wa Qa.length Xa Ja Ga n (some ag) Aa.length yb) N (some ⟨gA,0,none⟩) n c s1 wr)∧ga (wr.heap[q7]? = some (.cells #[.slice Ac (za Aa (i:Int)).f0.length cc,.int .i64 (za Aa (i:Int)).f1,.int .i64 (za Aa (i:Int)).f2,.int .i64 (za Aa (i:Int)).f3,.int .i64 (za Aa (i:Int)).f4] 59 (0,0))))
    case atStart=>exact ⟨0,_,rfl,Nat.zero_le _,by omega,CK,mD,gz⟩
    case round =>
     clear CK mD gz;(try clear CK);(try clear HI);(try clear HQ);obtain ⟨k,s1,rfl,hk,hg6,CK,HI,HQ⟩:=hrel;have Sx:wr.cell? ⟨q7,0,none⟩=some (.slice Ac (za Aa (i:Int)).f0.length cc):=(ia HQ.out 0).trans rfl
     by_cases qN:k < (za Aa (i:Int)).f0.length
     ·have CQ:decide ((k:Int) < ((za Aa (i:Int)).f0.length:Int))=true:=decide_eq_true (by omega);have p1:0 ≤ (k:Int):=by omega
      have p2:(k:Int) < ((za Aa (i:Int)).f0.length:Int):=by omega
      obtain ⟨aI,e6,k0,k1,k2,k3,k4,k5,k6⟩:=Jm LZ.out (k:Int) (by omega) (by omega);subst e6;simp only [Int.toNat_natCast] at k0 k1 k2 k3 k4 k5 k6;have TK:=ga.mk (jw wP.out qN)
      have nP:=ga.mk (show (((za Aa (i:Int)).f0.drop (k + 1)).flatMap tl).foldl Vg ((tl (Ea (za Aa (i:Int)).f0 (k:Int))).foldl Vg s1)=TB.foldl Vg s0 from by
       have h:=CK.out;rw [List.drop_eq_getElem_cons qN,List.flatMap_cons,List.foldl_append] at h;rw [Rk qN]
       exact h)
      generalize Ea (za Aa (i:Int)).f0 (k:Int)=x at k0 k1 k2 k3 k4 k5 k6 TK nP;have FZ:=ga.mk (And.intro k0 (And.intro k1 (And.intro k2 (And.intro k3 (And.intro k4 (And.intro k5 k6))))));replace k0:=dc k0 (Kept.mc HI.out.bw (fun _=>False)) id;replace k1:=dc k1 (Kept.mc HI.out.bw (fun _=>False)) id;replace k2:=dc k2 (Kept.mc HI.out.bw (fun _=>False)) id;replace k3:=dc k3 (Kept.mc HI.out.bw (fun _=>False)) id;replace k4:=dc k4 (Kept.mc HI.out.bw (fun _=>False)) id;replace k5:=dc k5 (Kept.mc HI.out.bw (fun _=>False)) id;replace k6:=dc k6 (Kept.mc HI.out.bw (fun _=>False)) id;obtain ⟨ku,hku⟩:=Ev.rounds (gK x);have HKU:=ga.mk hku;obtain ⟨wk,rfl⟩:∃ wk,wk=wr:=⟨_,rfl⟩;clear hku CK
      go_upto_region 12 with (first|(go_at_call 74;(with_reducible refine (Ke.calls ku x.f0 x.f1 x.f2 x.f3 x.f4 x.f5 x.f6 (Og x) wk HKU.out).mono ?_);rintro e um ⟨v15,rfl,ho,hb⟩;obtain ⟨Au,cu,rfl⟩:=Kd.Bd ho;have UY:=ga.mk ho;have Pp:=ga.mk hb;clear ho hb Sx k0 k1 k2 k3 k4 k5 k6))
      have aN:=ga.mk (HI.out.below Pp.out);have qB:=ga.mk (Va HQ.out Pp.out);have HUR:=ga.mk (show ∀ W,Kept um W (fun k=>w.heap.size < k∧k < N)→Kd.C (Kd.int .i64) W Au (Og x).length (Og x) from fun W hk=>(Kd.Vb (Kd.Km (Kd.Xd (Kd.Bg UY.out) (fun k hk=>hk.2.1):Kd.R (Kd.int .i64) _ um _ (fun k=>wk.heap.size ≤ k) _ _) hk (fun k hk e=>by have:=HI.out.z;omega))).2.2);have C0:(Og x).length ≤ 1048576:=by have:=Vt x;omega
      have HUO:=ga.mk (show ∀ u ∈ Og x,0 ≤ u∧u < (n:Int) from TK.out.1);obtain ⟨xy,C9⟩:=JO TK.out;have Q0:=ga.mk xy;have HDX:=ga.mk C9;have HMD:=ga.mk (fun h=>OG TK.out h);have HTL:=ga.mk (show (tl x).foldl Vg s1=(if Xm x ≥ 0 then [Xm x] else []).foldl Vg ((Og x).foldl Vg s1) from by unfold tl;rw [List.foldl_append]);clear HI HQ Pp UY xy C9 p1 p2 CQ;generalize Og x=us at HUR C0 HUO HTL ⊢;go_wp2
      go_loopg [8] us.length (fun g8 v8 wr=>∃ (j:Nat) (s2:List Bool),v8 = .int .i64 j∧j ≤ us.length∧us.length - j ≤ g8∧ga ((us.drop j).foldl Vg s2=us.foldl Vg s1)∧ga (sN w (sy Wa Qa.length Xa Ja Ga n (some ag) Aa.length yb) N (some ⟨gA,0,none⟩) n c s2 wr)∧ga (wr.heap[q7]? = some (.cells #[.slice (some aI) (za Aa (i:Int)).f0.length cc,.int .i64 (za Aa (i:Int)).f1,.int .i64 (za Aa (i:Int)).f2,.int .i64 (za Aa (i:Int)).f3,.int .i64 (za Aa (i:Int)).f4] 59 (0,0)))∧ga (Kept um wr (fun k=>w.heap.size < k∧k < N)))
      case atStart=>exact ⟨0,s1,rfl,Nat.zero_le _,by omega,⟨rfl⟩,aN,qB,⟨Kept.refl _ _⟩⟩
      case round =>
       clear aN qB;(try clear T7);(try clear HI);(try clear HQ);(try clear HK);obtain ⟨j,s2,rfl,hj,hg8,T7,HI,HQ,HK⟩:=hrel
       by_cases hjl:j < us.length
       ·have hjb:decide ((j:Int) < (us.length:Int))=true:=decide_eq_true (by omega);have j1:0 ≤ (j:Int):=by omega
        have j2:(j:Int) < (us.length:Int):=by omega
        obtain ⟨ad,e1,Xk⟩:=FH (HUR.out wr HK.out) hjl;subst e1;obtain ⟨g,z,eA,ez,hzn,ey,hfz,hput,hkp⟩:=HI.out.put (HUO.out _ (List.getElem_mem hjl));obtain rfl:gA=g:=by injection eA with eA;injection eA
        rw [ez] at Xk;have z1:0 ≤ (z:Int):=by omega
        have z2:(z:Int) < (n:Int):=by omega
        have Wac:=ga.mk (show (us.drop (j + 1)).foldl Vg (Vg s2 us[j])=us.foldl Vg s1 from by
         have h:=T7.out;rw [List.drop_eq_getElem_cons hjl,List.foldl_cons] at h
         exact h)
        have Jad:=ga.mk hput;have kad:=ga.mk (Ve HQ.out hkp (fun e=>by have:=pP.out;omega));have Had:=ga.mk (HK.out.Fp hkp (fun _ h=>Or.inl h));clear hput hkp ez;go_wp2
        go_roundg (us.length - (j + 1))
        case measure=>omega
        case rel=>exact ⟨j + 1,_,by go_num,by omega,by omega,Wac,Jad,kad,Had⟩
       ·have hjb:decide ((j:Int) < (us.length:Int))=false:=decide_eq_false (by omega);have hue:=T7.out;rw [List.drop_eq_nil_of_le (by omega),List.foldl_nil] at hue;obtain ⟨JV,rfl⟩:∃ JV,JV=wr:=⟨_,rfl⟩;have U7:=HTL.out;rw [← hue] at U7;have BK:=ga.mk U7;clear U7 HTL hue T7;have Sx:JV.cell? ⟨q7,0,none⟩=some (.slice (some aI) (za Aa (i:Int)).f0.length cc):=(ia HQ.out 0).trans rfl;obtain ⟨k0,k1,k2,k3,k4,k5,k6⟩:=FZ.out;replace k0:=dc k0 (Kept.mc HI.out.bw (fun _=>False)) id;replace k1:=dc k1 (Kept.mc HI.out.bw (fun _=>False)) id;replace k2:=dc k2 (Kept.mc HI.out.bw (fun _=>False)) id;replace k3:=dc k3 (Kept.mc HI.out.bw (fun _=>False)) id;replace k4:=dc k4 (Kept.mc HI.out.bw (fun _=>False)) id;replace k5:=dc k5 (Kept.mc HI.out.bw (fun _=>False)) id;replace k6:=dc k6 (Kept.mc HI.out.bw (fun _=>False)) id;have p1:0 ≤ (k:Int):=by omega
        have p2:(k:Int) < ((za Aa (i:Int)).f0.length:Int):=by omega
        by_cases hm:Xm x ≥ 0
        ·obtain ⟨D,hD⟩:∃ D:Nat,Xm x=(D:Int):=⟨(Xm x).toNat,(Int.toNat_of_nonneg hm).symm⟩;have hDn:D < n:=by have:=HMD.out hm;omega
         have xy:=Q0.out;rw [decide_eq_true hm] at xy;have bG:=ga.mk xy;have HF1:=ga.mk (show x.f1=(D:Int) from (HDX.out hm).trans hD);have lP:=BK.out;rw [if_pos hm,hD] at lP;have kP:=ga.mk lP;clear lP BK xy hm hD
         go_upto_region 17 with (first|(go_at_call 73;(with_reducible refine (Ig.calls x.f0 x.f1 x.f2 x.f3 x.f4 x.f5 x.f6 true JV bG.out).mono ?_);rintro e js ⟨rfl,hb⟩;have tB:=ga.mk hb;clear hb Sx k0 k1 k2 k3 k4 k5 k6))
         have VF:=ga.mk (HI.out.below tB.out);have DK:=ga.mk (Va HQ.out tB.out);obtain ⟨g,z,eA,ez,hzn,ey,hfz,hput,hkp⟩:=VF.out.put (u:=(D:Int)) ⟨by omega,by omega⟩;obtain rfl:gA=g:=by injection eA with eA;injection eA
         obtain rfl:D=z:=by omega
         have Sx:js.cell? ⟨q7,0,none⟩=some (.slice (some aI) (za Aa (i:Int)).f0.length cc):=(ia DK.out 0).trans rfl;obtain ⟨-,k1,-⟩:=FZ.out;replace k1:=dc k1 (Kept.mc VF.out.bw (fun _=>False)) id;rw [HF1.out] at k1;have z1:0 ≤ (D:Int):=by omega
         have z2:(D:Int) < (n:Int):=by omega
         have Vv:=ga.mk (show sN w (sy Wa Qa.length Xa Ja Ga n (some ag) Aa.length yb) N (some ⟨gA,0,none⟩) n c ((tl x).foldl Vg s1) _ from by rw [kP.out];exact hput);have qP:=ga.mk (Ve DK.out hkp (fun e=>by have:=pP.out;omega));clear hput hkp ez HI HQ VF DK;go_wp2
         go_roundg ((za Aa (i:Int)).f0.length - (k + 1))
         case measure=>omega
         case rel=>exact ⟨k + 1,_,by go_num,by omega,by omega,nP,Vv,qP⟩
        ·have xy:=Q0.out;rw [decide_eq_false hm] at xy;have bG:=ga.mk xy;have lP:=BK.out;rw [if_neg hm,List.foldl_nil] at lP;have kP:=ga.mk lP;clear lP BK xy hm;go_wp2_with (first|(go_at_call 73;(with_reducible refine (Ig.calls x.f0 x.f1 x.f2 x.f3 x.f4 x.f5 x.f6 false JV bG.out).mono ?_);rintro e js ⟨rfl,hb⟩;have tB:=ga.mk hb;clear hb Sx k0 k1 k2 k3 k4 k5 k6));have Vv:=ga.mk (show sN w (sy Wa Qa.length Xa Ja Ga n (some ag) Aa.length yb) N (some ⟨gA,0,none⟩) n c ((tl x).foldl Vg s1) _ from by rw [kP.out];exact HI.out.below tB.out);have qP:=ga.mk (Va HQ.out tB.out)
         go_roundg ((za Aa (i:Int)).f0.length - (k + 1))
         case measure=>omega
         case rel=>exact ⟨k + 1,_,by go_num,by omega,by omega,nP,Vv,qP⟩
     ·have CQ:decide ((k:Int) < ((za Aa (i:Int)).f0.length:Int))=false:=decide_eq_false (by omega);have htb:=CK.out;rw [List.drop_eq_nil_of_le (by omega),List.flatMap_nil,List.foldl_nil] at htb;have mP:=V7.out;rw [← htb] at mP;have Yac:=ga.mk mP;clear mP htb;go_wp2
      go_roundg (Aa.length - (i + 1))
      case measure=>omega
      case rel=>exact ⟨i + 1,s1,by go_num,by omega,by omega,Yac,HI⟩
  ·have Pt:decide ((i:Int) < (Aa.length:Int))=false:=decide_eq_false (by omega);have heq:=iU.out;rw [List.drop_eq_nil_of_le (by omega),List.flatMap_nil,List.foldl_nil] at heq;subst heq;go_wp2;go_ret;exact ⟨_,rfl,Kd.Xd HI.out.r (fun _ _=>trivial),HI.out.bw⟩
end Go.Proofs.Ytkigbdceceeenaa.P
end
section
namespace Go.Proofs.Ytkigbdceceeenaa.P
open Go.RowKit Go.Proofs.Ma.Wb Go.Proofs.Ma.Jd Go.Proofs.Ma.Fe
set_option linter.unusedVariables false
set_option linter.unusedSimpArgs false
attribute [local go_sem] Gi Xi Jj ak Sh Rh Yi Wi
noncomputable def ud.l0:Nat→List Int→List Int→List Bool→Int→List Int→Int→Int→Int→List (He)→Option (List Int)
 | 0,_,_,_,_,_,_,_,_,_=>none
 | k + 1,x1,x5,x6,x7,Fc,Uc,Mc,Ic,jc=>if x7 < Ic then (if 0 ≤ x7 then (if x7 < (x6.length:Int) then (if sg false x6 x7=true then (if x7 < (x1.length:Int) then (if (rd x1 x7)=(-1) then (if x5.length < 17592186044416 then (ud.l0 k x1 (x5 ++ [x7]) x6 (wrap64 (x7 + 1)) Fc Uc Mc Ic jc) else (none)) else (ud.l0 k x1 x5 x6 (wrap64 (x7 + 1)) Fc Uc Mc Ic jc)) else (none)) else (ud.l0 k x1 x5 x6 (wrap64 (x7 + 1)) Fc Uc Mc Ic jc)) else (none)) else (none)) else (some x5)
noncomputable def ud.f (k:Nat) (Qa:List Int) (Ja:Int) (Ga:Int) (Ia:Int) (Aa:List (He)) (l1:List Int):Option (List Int):=(some (([]:List Int):List Int)).bind fun Dd=>((Mb.f k Qa Ja Ga Ia Aa l1).bind fun t105=>(if t105=true then ((Pg.f Qa Ja Ga Ia Aa).bind fun t106=>(ud.l0 k l1 Dd t106 0 Qa Ja Ga Ia Aa)) else (some Dd)))
theorem ud.calls (k:Nat) (Wa:Option Addr) (Xa:Nat) (Qa:List Int) (Ja:Int) (Ga:Int) (Ia:Int) (Jb:Option Addr) (yb:Nat) (Aa:List (He)) (A1:Option Addr) (c1:Nat) (l1:List Int) (r:List Int) (w:World) (Od:Kd.C (Kd.int .i64) w Wa Qa.length Qa) (Md:Qa.length ≤ Xa) (Re:Kd.C iq w Jb Aa.length Aa) (Qe:Aa.length ≤ yb) (Kp:Kd.C (Kd.int .i64) w A1 l1.length l1) (Xk:l1.length ≤ c1) (h:ud.f k Qa Ja Ga Ia Aa l1=some r) :
  Calls Try.prog 31 #[.agg #[.slice Wa Qa.length Xa,.int .i64 Ja,.int .i64 Ga,.int .i64 Ia,.slice Jb Aa.length yb],.slice A1 l1.length c1] w fun e w'=>∃ wm:Value,e = .returned (wm)∧Kd.R (Kd.int .i64) 3 w' w.heap.size (fun _=>True) wm r∧Below w.heap.size w w':=by
 have KB:=Try.underlying30;have fe:=ga.mk Od;have ye:=ga.mk Md;clear Od Md;have We:=ga.mk Re;have Xf:=ga.mk Qe;clear Re Qe;have Uo:=ga.mk Kp;have FG:=ga.mk Xk;clear Kp Xk;have HB:=ga.mk (Below.refl w.heap.size w);have H:((some (([]:List Int):List Int)).bind fun Dd=>((Mb.f k Qa Ja Ga Ia Aa l1).bind fun t105=>(if t105=true then ((Pg.f Qa Ja Ga Ia Aa).bind fun t106=>(ud.l0 k l1 Dd t106 0 Qa Ja Ga Ia Aa)) else (some Dd))))=some r:=h;clear h;obtain ⟨Dd,kf⟩:∃ y_:List Int,y_=(([]:List Int)):=⟨_,rfl⟩;replace H:((Mb.f k Qa Ja Ga Ia Aa l1).bind fun t105=>(if t105=true then ((Pg.f Qa Ja Ga Ia Aa).bind fun t106=>(ud.l0 k l1 Dd t106 0 Qa Ja Ga Ia Aa)) else (some Dd)))=some r:=by first|(rw [kf];with_reducible exact H)|(have Td:=(Option.bind_some _ _).symm.trans H;rw [kf];with_reducible exact Td)|(have Td:=(Option.bind_some _ _).symm.trans H;with_reducible exact Td)|with_reducible exact H|(rw [kf];exact H)|exact H
 have Ci:=ga.mk kf;clear kf;replace H:=Option.bind_eq_some_iff.mp H;obtain ⟨t105,Zv,H⟩:=H;replace H:(if t105=true then ((Pg.f Qa Ja Ga Ia Aa).bind fun t106=>(ud.l0 k l1 Dd t106 0 Qa Ja Ga Ia Aa)) else (some Dd))=some r:=H;have A3:=ga.mk Zv;clear Zv
 by_cases c4:t105=true
 ·subst c4;have H1:((Pg.f Qa Ja Ga Ia Aa).bind fun t106=>(ud.l0 k l1 Dd t106 0 Qa Ja Ga Ia Aa))=some r:=by rw [if_pos rfl] at H;exact H
  clear H;have H:=H1;clear H1;replace H:=Option.bind_eq_some_iff.mp H;obtain ⟨t106,gN,H⟩:=H;replace H:(ud.l0 k l1 Dd t106 0 Qa Ja Ga Ia Aa)=some r:=H;have A5:=ga.mk gN;clear gN;have H':=ga.mk H;clear H;go_enter Try.func31,Try.ntmps31;go_wp2_with (first|((with_reducible refine qb (N:=2) rfl ?_);refine Ib ?hg (N:=2) ?hd (cs:=#[.slice Wa Qa.length Xa,.int .i64 Ja,.int .i64 Ga,.int .i64 Ia,.slice Jb Aa.length yb]) (t:=30) ?hr ?_;(case hd=>rfl);(case hg=>rfl);(case hr=>first|(go_simp;done)|(go_simp;rfl));intro ya hg w6 Sb hb;have Cb:=ga.mk (Na CaH hb);have Eb:=ga.mk (Sb);have Rb:=ga.mk ((by rw [hg];exact (La CaH):w.heap.size ≤ ya));have Gc:=ga.mk ((by rw [hg];exact (La CaH):w.heap.size ≤ ya));clear HB;have HB:=Cb;have oa:=Eb;have Nd:=Rb;have Ta:=Gc;clear Cb Eb Rb Gc hb Sb hg)|((with_reducible refine qb (N:=8) rfl ?_);refine Kd.Vj (Kd.int .i64) _ 3 ?hg (N:=8) ?hd (xs:=([]:List Int)) (inner:=[]) (ok:=fun _=>True) (Di:=fun _=>True) ?hr ?hp (fun _ hk=>hk) trivial (Below.refl _ _) (Nat.le_refl _) (by simp) ?_;(case hd=>rfl);(case hg=>rfl);(case hr=>first|(go_simp;done)|(go_simp;rfl));(case hp=>exact (Sd.none _ _));intro Sm w7 ho8 hb Wm Ye;clear Wm Ye;(first|rw [← Ci.out] at ho8|(simp only [Int.reduceToNat] at ho8;rw [← Ci.out] at ho8));have Cb:=ga.mk (Kd.Wd ho8 (La BaH));have Eb:=ga.mk (Va (g:=ya) (o:=.cells #[.slice Wa Qa.length Xa,.int .i64 Ja,.int .i64 Ga,.int .i64 Ia,.slice Jb Aa.length yb] 30 (0,0)) DaH hb);have Rb:=ga.mk (Na BaH hb);clear oa HB;have Cg:=Cb;have oa:=Eb;have HB:=Rb;clear Cb Eb Rb hb ho8;have Qh:w7.cell? ⟨ya,0,none⟩=some (.slice Wa Qa.length Xa):=(ia oa.out 0).trans rfl;have Ph:w7.cell? ⟨ya,1,none⟩=some (.int .i64 Ja):=(ia oa.out 1).trans rfl;have Oh:w7.cell? ⟨ya,2,none⟩=some (.int .i64 Ga):=(ia oa.out 2).trans rfl;have Nh:w7.cell? ⟨ya,3,none⟩=some (.int .i64 Ia):=(ia oa.out 3).trans rfl;have Mh:w7.cell? ⟨ya,4,none⟩=some (.slice Jb Aa.length yb):=(ia oa.out 4).trans rfl;have Lh:=aa oa.out 0;have Kh:=aa oa.out 1;have Jh:=aa oa.out 2;have Ih:=aa oa.out 3;have Hh:=aa oa.out 4)|((with_reducible refine Bb (f:=21) rfl ?_);refine Tc (some 11) rfl rfl Try.func21 (by kernel_rfl) rfl #[.agg #[.slice Wa Qa.length Xa,.int .i64 Ja,.int .i64 Ga,.int .i64 Ia,.slice Jb Aa.length yb],.slice A1 l1.length c1] rfl FaH ?_;(with_reducible refine (Mb.calls k _ _ Qa Ja Ga Ia _ _ Aa _ _ l1 true _ ?yc ?uc ?td ?qd ?Hp ?Gp A3.out).mono ?_);(case yc=>repeat (first|exact (Kd.Ab fe.out HB.out)|(with_reducible refine Kd.Lb ?_ _)|(with_reducible refine Kd.Kb ?_ _)|(with_reducible refine Kd.Xb ?_)));(case uc=>exact ye.out);(case td=>repeat (first|exact (Kd.Ab We.out HB.out)|(with_reducible refine Kd.Lb ?_ _)|(with_reducible refine Kd.Kb ?_ _)|(with_reducible refine Kd.Xb ?_)));(case qd=>exact Xf.out);(case Hp=>repeat (first|exact (Kd.Ab Uo.out HB.out)|(with_reducible refine Kd.Lb ?_ _)|(with_reducible refine Kd.Kb ?_ _)|(with_reducible refine Kd.Xb ?_)));(case Gp=>exact FG.out);rintro e Yp ⟨rfl,hb⟩;refine ⟨_,rfl,?_⟩;have Cb:=ga.mk (Kd.oc faI hb);have Eb:=ga.mk (Va (g:=ya) (o:=.cells #[.slice Wa Qa.length Xa,.int .i64 Ja,.int .i64 Ga,.int .i64 Ia,.slice Jb Aa.length yb] 30 (0,0)) DaH hb);have Rb:=ga.mk (Na BaH hb);clear Cg oa HB;have Cg:=Cb;have oa:=Eb;have HB:=Rb;clear Cb Eb Rb;(try clear hb);(try clear jj);(try clear hk);(try clear hi);have qo:Yp.cell? ⟨ya,0,none⟩=some (.slice Wa Qa.length Xa):=(ia oa.out 0).trans rfl;have oo:Yp.cell? ⟨ya,1,none⟩=some (.int .i64 Ja):=(ia oa.out 1).trans rfl;have mo:Yp.cell? ⟨ya,2,none⟩=some (.int .i64 Ga):=(ia oa.out 2).trans rfl;have jo:Yp.cell? ⟨ya,3,none⟩=some (.int .i64 Ia):=(ia oa.out 3).trans rfl;have fo:Yp.cell? ⟨ya,4,none⟩=some (.slice Jb Aa.length yb):=(ia oa.out 4).trans rfl;have eo:=aa oa.out 0;have Zn:=aa oa.out 1;have Yn:=aa oa.out 2;have Xn:=aa oa.out 3;have Wn:=aa oa.out 4)|((with_reducible refine Bb (f:=60) rfl ?_);refine Tc (some 15) rfl rfl Try.func60 (by kernel_rfl) rfl #[.agg #[.slice Wa Qa.length Xa,.int .i64 Ja,.int .i64 Ga,.int .i64 Ia,.slice Jb Aa.length yb]] rfl FaH ?_;(with_reducible refine (Pg.calls _ _ Qa Ja Ga Ia _ _ Aa t106 _ ?yc ?uc ?td ?qd A5.out).mono ?_);(case yc=>repeat (first|exact (Kd.Ab fe.out HB.out)|(with_reducible refine Kd.Lb ?_ _)|(with_reducible refine Kd.Kb ?_ _)|(with_reducible refine Kd.Xb ?_)));(case uc=>exact ye.out);(case td=>repeat (first|exact (Kd.Ab We.out HB.out)|(with_reducible refine Kd.Lb ?_ _)|(with_reducible refine Kd.Kb ?_ _)|(with_reducible refine Kd.Xb ?_)));(case qd=>exact Xf.out);rintro e Xr ⟨NV,rfl,Hi,hb⟩;refine ⟨_,rfl,?_⟩;have Cb:=ga.mk (Kd.oc faI hb);have Eb:=ga.mk (Kd.Wd Hi (La BaH));have Rb:=ga.mk (Va (g:=ya) (o:=.cells #[.slice Wa Qa.length Xa,.int .i64 Ja,.int .i64 Ga,.int .i64 Ia,.slice Jb Aa.length yb] 30 (0,0)) DaH hb);have Gc:=ga.mk (Na BaH hb);clear Cg oa HB;have Cg:=Cb;have Ok:=Eb;have oa:=Rb;have HB:=Gc;clear Cb Eb Rb Gc;(try clear hb);(try clear jj);(try clear hk);(try clear hi);(try clear Hi)))
  go_loopg [5,7] k (fun kq v5 v7 w'=>∃ (Ka:List Int) (Ng:Int),v7 = .int .i64 Ng∧ga (ud.l0 kq l1 Ka t106 Ng Qa Ja Ga Ia Aa=some r)∧ga (kq ≤ k)∧ga (Kd.R (Kd.int .i64) 3 w' w.heap.size (fun _=>True) v5 Ka)∧ga (Kd.R Kd.bool 4 w' w.heap.size (fun _=>True) NV t106)∧ga (w'.heap[ya]? = some (.cells #[(.slice Wa Qa.length Xa),.int .i64 Ja,.int .i64 Ga,.int .i64 Ia,(.slice Jb Aa.length yb)] 30 (0,0)))∧ga (Below w.heap.size w w'))
  case atStart=>exact ⟨(Dd),(0),IaH,H',⟨Nat.le_refl _⟩,⟨XaH⟩,⟨by (with_reducible repeat (first|apply Kd.mb|apply Kd.jb|apply Kd.Gb));exact Ok.out⟩,⟨HaH⟩,⟨EaH⟩⟩
  case round =>
   clear H'
   try clear c1
   try clear c2
   try clear p2
   try clear c3
   try clear c4
   try clear c6
   try clear qo
   try clear oo
   try clear mo
   try clear jo
   try clear fo
   try clear Qh
   try clear Ph
   try clear Oh
   try clear Nh
   try clear Mh
   try clear eo
   try clear Zn
   try clear Yn
   try clear Xn
   try clear Wn
   try clear Lh
   try clear Kh
   try clear Jh
   try clear Ih
   try clear Hh
   (try clear HA);(try clear pg);(try clear Zh);(try clear GC);(try clear oa);(try clear HB);obtain ⟨Ka,Ng,rfl,HA,pg,Zh,GC,oa,HB⟩:=hrel;cases gk with
   | zero=>exact absurd HA.out (by simp [ud.l0])
   | succ k1 =>
    have H:=HA.out;clear HA;simp only [ud.l0] at H
    by_cases VC:Ng < Ia
    ·rw [if_pos VC] at H;have f_:decide (Ng < Ia)=true:=decide_eq_true VC;clear VC
     by_cases nL:0 ≤ Ng
     ·rw [if_pos nL] at H;have d_:decide (0 ≤ Ng)=true:=decide_eq_true nL;clear nL
      by_cases Yv:Ng < (t106.length:Int)
      ·rw [if_pos Yv] at H;have zw:decide (Ng < (t106.length:Int))=true:=decide_eq_true Yv;clear Yv;obtain ⟨eak,GX⟩:∃ b_:Bool,b_=(sg false t106 Ng):=⟨_,rfl⟩;replace H:(if eak=true then (if Ng < (l1.length:Int) then (if (rd l1 Ng)=(-1) then (if Ka.length < 17592186044416 then (ud.l0 k1 l1 (Ka ++ [Ng]) t106 (wrap64 (Ng + 1)) Qa Ja Ga Ia Aa) else (none)) else (ud.l0 k1 l1 Ka t106 (wrap64 (Ng + 1)) Qa Ja Ga Ia Aa)) else (none)) else (ud.l0 k1 l1 Ka t106 (wrap64 (Ng + 1)) Qa Ja Ga Ia Aa))=some r:=by rw [← GX] at H;exact H
       have FY:=ga.mk GX;clear GX
       by_cases Ym:eak=true
       ·subst Ym;have H1:(if Ng < (l1.length:Int) then (if (rd l1 Ng)=(-1) then (if Ka.length < 17592186044416 then (ud.l0 k1 l1 (Ka ++ [Ng]) t106 (wrap64 (Ng + 1)) Qa Ja Ga Ia Aa) else (none)) else (ud.l0 k1 l1 Ka t106 (wrap64 (Ng + 1)) Qa Ja Ga Ia Aa)) else (none))=some r:=by rw [if_pos rfl] at H;exact H
        clear H;have H:=H1;clear H1
        by_cases Ko:Ng < (l1.length:Int)
        ·rw [if_pos Ko] at H;have Jo:decide (Ng < (l1.length:Int))=true:=decide_eq_true Ko;clear Ko
         by_cases Ll:(rd l1 Ng)=(-1)
         ·rw [if_pos Ll] at H;have Kr:((rd l1 Ng) == (-1))=true:=beq_iff_eq.mpr Ll;have IM:((rd l1 Ng) != (-1))=false:=bne_eq_false_iff_eq.mpr Ll;clear Ll
          by_cases vm:Ka.length < 17592186044416
          ·rw [if_pos vm] at H;have GY:=ga.mk vm;clear vm;obtain ⟨Zm,sj⟩:∃ y_:List Int,y_=(Ka ++ [Ng]):=⟨_,rfl⟩;replace H:(ud.l0 k1 l1 Zm t106 (wrap64 (Ng + 1)) Qa Ja Ga Ia Aa)=some r:=by first|(rw [sj];with_reducible exact H)|(have Td:=(Option.bind_some _ _).symm.trans H;rw [sj];with_reducible exact Td)|(have Td:=(Option.bind_some _ _).symm.trans H;with_reducible exact Td)|with_reducible exact H|(rw [sj];exact H)|exact H
           have Hy:=ga.mk sj;clear sj;have H':=ga.mk H;clear H;have WA:wr.cell? ⟨ya,0,none⟩=some (.slice Wa Qa.length Xa):=(ia oa.out 0).trans rfl;have VA:wr.cell? ⟨ya,1,none⟩=some (.int .i64 Ja):=(ia oa.out 1).trans rfl;have UA:wr.cell? ⟨ya,2,none⟩=some (.int .i64 Ga):=(ia oa.out 2).trans rfl;have TA:wr.cell? ⟨ya,3,none⟩=some (.int .i64 Ia):=(ia oa.out 3).trans rfl;have SA:wr.cell? ⟨ya,4,none⟩=some (.slice Jb Aa.length yb):=(ia oa.out 4).trans rfl;have DA:=aa oa.out 0;have CA:=aa oa.out 1;have BA:=aa oa.out 2;have AA:=aa oa.out 3;have zA:=aa oa.out 4;obtain ⟨EaG,dac,k7⟩:=Kd.Bd GC.out;subst k7;have cg:0 ≤ (Ng:Int):=Ua;have bg:Ng < (t106.length:Int):=Ua;obtain ⟨Tf,Yk,Pd⟩:=Kd.Mg (Kd.Vb GC.out).2.2 Ng cg bg;(try rw [← FY.out] at Pd);cases Yk;replace cg:=eq_true cg;replace bg:=eq_true bg;have Vi:0 ≤ (Ng:Int):=Ua;have Ui:Ng < (l1.length:Int):=Ua;obtain ⟨xo,Cr,Oe⟩:=Kd.Rf Uo.out Ng Vi Ui;cases Cr;replace Oe:=Sa HB.out Oe;replace Vi:=eq_true Vi;replace Ui:=eq_true Ui;go_wp2_with (first|((with_reducible refine we (b:=.append) (xs:=#[.tmp 33,.tmp 35]) rfl ?_);at_builtin;refine Kd.Xh (Kd.int .i64) (w0:=w) w.heap.size rfl (.tmp 33) (.tmp 35) 22 3 (.int .i64 0) 8 rfl Try.underlying22 info3 rfl (by decide) (by omega) u5 Ka Ng [.int .i64 Ng] (fun _=>True) (fun _=>False) rfl rfl ?aP (fun _ hk=>hk.elim) ?aF ?aO ?aB ?aS ?aL ?_;(case aP=>exact rfl);(case aB=>exact BaH);(case aF=>exact (fun _ _=>trivial));(case aO=>exact taI);(case aS=>exact (La BaH));(case aL=>have:=GY.out;omega);intro MV Qq ho hb hg hat;rw [← Hy.out] at ho;have Cb:=ga.mk (Kd.Jv (by (with_reducible repeat (first|apply Kd.mb|apply Kd.jb|apply Kd.Gb));exact GC.out) (Kd.Ht taI) (by decide) hg);have Eb:=ga.mk (xd (g:=ya) (o:=.cells #[.slice Wa Qa.length Xa,.int .i64 Ja,.int .i64 Ga,.int .i64 Ia,.slice Jb Aa.length yb] 30 (0,0)) DaH hg (Kd.Fk Zh.out oa.out (by decide)));have Rb:=ga.mk (hb);have Gc:=ga.mk (ho);clear GC oa HB Zh;have GC:=Cb;have oa:=Eb;have HB:=Rb;have Bw:=Gc;clear Cb Eb Rb Gc ho hb hg hat))
           go_roundg k1
           case measure=>have:=pg.out;omega
           case rel=>exact ⟨(Zm),(wrap64 (Ng + 1)),IaH,H',⟨by have:=pg.out;omega⟩,⟨by (with_reducible repeat (first|apply Kd.mb|apply Kd.jb|apply Kd.Gb));exact Bw.out⟩,⟨by (with_reducible repeat (first|apply Kd.mb|apply Kd.jb|apply Kd.Gb));exact GC.out⟩,⟨HaH⟩,⟨EaH⟩⟩
          ·rw [if_neg vm] at H;exact absurd H (by simp)
         ·rw [if_neg Ll] at H;have Kr:((rd l1 Ng) == (-1))=false:=beq_eq_false_iff_ne.mpr Ll;have IM:((rd l1 Ng) != (-1))=true:=bne_iff_ne.mpr Ll;have H':=ga.mk H;clear H;have Nq:wr.cell? ⟨ya,0,none⟩=some (.slice Wa Qa.length Xa):=(ia oa.out 0).trans rfl;have Mq:wr.cell? ⟨ya,1,none⟩=some (.int .i64 Ja):=(ia oa.out 1).trans rfl;have Kq:wr.cell? ⟨ya,2,none⟩=some (.int .i64 Ga):=(ia oa.out 2).trans rfl;have Jq:wr.cell? ⟨ya,3,none⟩=some (.int .i64 Ia):=(ia oa.out 3).trans rfl;have Iq:wr.cell? ⟨ya,4,none⟩=some (.slice Jb Aa.length yb):=(ia oa.out 4).trans rfl;have Hq:=aa oa.out 0;have Gq:=aa oa.out 1;have Fq:=aa oa.out 2;have Dq:=aa oa.out 3;have Cq:=aa oa.out 4;obtain ⟨CaG,ZaE,aax⟩:=Kd.Bd GC.out;subst aax;have cg:0 ≤ (Ng:Int):=Ua;have bg:Ng < (t106.length:Int):=Ua;obtain ⟨Tf,Yk,Pd⟩:=Kd.Mg (Kd.Vb GC.out).2.2 Ng cg bg;(try rw [← FY.out] at Pd);cases Yk;replace cg:=eq_true cg;replace bg:=eq_true bg;have Vi:0 ≤ (Ng:Int):=Ua;have Ui:Ng < (l1.length:Int):=Ua;obtain ⟨xo,Cr,Oe⟩:=Kd.Rf Uo.out Ng Vi Ui;cases Cr;replace Oe:=Sa HB.out Oe;replace Vi:=eq_true Vi;replace Ui:=eq_true Ui;go_wp2
          go_roundg k1
          case measure=>have:=pg.out;omega
          case rel=>exact ⟨(Ka),(wrap64 (Ng + 1)),IaH,H',⟨by have:=pg.out;omega⟩,⟨daI⟩,⟨by (with_reducible repeat (first|apply Kd.mb|apply Kd.jb|apply Kd.Gb));exact GC.out⟩,⟨HaH⟩,⟨EaH⟩⟩
        ·rw [if_neg Ko] at H;exact absurd H (by simp)
       ·replace Ym:=Bool.eq_false_iff.mpr Ym;subst Ym;have H1:(ud.l0 k1 l1 Ka t106 (wrap64 (Ng + 1)) Qa Ja Ga Ia Aa)=some r:=by rw [if_neg (show ¬ (false=true) by decide)] at H;exact H
        clear H;have H:=H1;clear H1;have H':=ga.mk H;clear H;have ov:wr.cell? ⟨ya,0,none⟩=some (.slice Wa Qa.length Xa):=(ia oa.out 0).trans rfl;have nv:wr.cell? ⟨ya,1,none⟩=some (.int .i64 Ja):=(ia oa.out 1).trans rfl;have jv:wr.cell? ⟨ya,2,none⟩=some (.int .i64 Ga):=(ia oa.out 2).trans rfl;have gv:wr.cell? ⟨ya,3,none⟩=some (.int .i64 Ia):=(ia oa.out 3).trans rfl;have cv:wr.cell? ⟨ya,4,none⟩=some (.slice Jb Aa.length yb):=(ia oa.out 4).trans rfl;have Ou:=aa oa.out 0;have Nu:=aa oa.out 1;have Mu:=aa oa.out 2;have Lu:=aa oa.out 3;have Ku:=aa oa.out 4;obtain ⟨AaG,XaE,Yaw⟩:=Kd.Bd GC.out;subst Yaw;have cg:0 ≤ (Ng:Int):=Ua;have bg:Ng < (t106.length:Int):=Ua;obtain ⟨Tf,Yk,Pd⟩:=Kd.Mg (Kd.Vb GC.out).2.2 Ng cg bg;(try rw [← FY.out] at Pd);cases Yk;replace cg:=eq_true cg;replace bg:=eq_true bg;go_wp2
        go_roundg k1
        case measure=>have:=pg.out;omega
        case rel=>exact ⟨(Ka),(wrap64 (Ng + 1)),IaH,H',⟨by have:=pg.out;omega⟩,⟨daI⟩,⟨by (with_reducible repeat (first|apply Kd.mb|apply Kd.jb|apply Kd.Gb));exact GC.out⟩,⟨HaH⟩,⟨EaH⟩⟩
      ·rw [if_neg Yv] at H;exact absurd H (by simp)
     ·rw [if_neg nL] at H;exact absurd H (by simp)
    ·rw [if_neg VC] at H;have f_:decide (Ng < Ia)=false:=decide_eq_false VC;clear VC;obtain rfl:=Option.some.inj H;have XJ:wr.cell? ⟨ya,0,none⟩=some (.slice Wa Qa.length Xa):=(ia oa.out 0).trans rfl;have WJ:wr.cell? ⟨ya,1,none⟩=some (.int .i64 Ja):=(ia oa.out 1).trans rfl;have VJ:wr.cell? ⟨ya,2,none⟩=some (.int .i64 Ga):=(ia oa.out 2).trans rfl;have UJ:wr.cell? ⟨ya,3,none⟩=some (.int .i64 Ia):=(ia oa.out 3).trans rfl;have TJ:wr.cell? ⟨ya,4,none⟩=some (.slice Jb Aa.length yb):=(ia oa.out 4).trans rfl;have WI:=aa oa.out 0;have VI:=aa oa.out 1;have UI:=aa oa.out 2;have TI:=aa oa.out 3;have SI:=aa oa.out 4;go_wp2;go_ret;exact ⟨_,by first|rfl|(simp [Pa,Oa] <;> rfl)|(simp [*,Pa,Oa] <;> rfl),daI,EaH⟩
 ·replace c4:=Bool.eq_false_iff.mpr c4;subst c4;have H1:(some Dd)=some r:=by rw [if_neg (show ¬ (false=true) by decide)] at H;exact H
  clear H;have H:=H1;clear H1;obtain rfl:=Option.some.inj H;go_enter Try.func31,Try.ntmps31;go_wp2_with (first|((with_reducible refine qb (N:=2) rfl ?_);refine Ib ?hg (N:=2) ?hd (cs:=#[.slice Wa Qa.length Xa,.int .i64 Ja,.int .i64 Ga,.int .i64 Ia,.slice Jb Aa.length yb]) (t:=30) ?hr ?_;(case hd=>rfl);(case hg=>rfl);(case hr=>first|(go_simp;done)|(go_simp;rfl));intro ya hg rH Sb hb;have Cb:=ga.mk (Na CaH hb);have Eb:=ga.mk (Sb);have Rb:=ga.mk ((by rw [hg];exact (La CaH):w.heap.size ≤ ya));have Gc:=ga.mk ((by rw [hg];exact (La CaH):w.heap.size ≤ ya));clear HB;have HB:=Cb;have oa:=Eb;have Nd:=Rb;have Ta:=Gc;clear Cb Eb Rb Gc hb Sb hg)|((with_reducible refine qb (N:=8) rfl ?_);refine Kd.Vj (Kd.int .i64) _ 3 ?hg (N:=8) ?hd (xs:=([]:List Int)) (inner:=[]) (ok:=fun _=>True) (Di:=fun _=>True) ?hr ?hp (fun _ hk=>hk) trivial (Below.refl _ _) (Nat.le_refl _) (by simp) ?_;(case hd=>rfl);(case hg=>rfl);(case hr=>first|(go_simp;done)|(go_simp;rfl));(case hp=>exact (Sd.none _ _));intro Sm xB UW hb Wm Ye;clear Wm Ye;(first|rw [← Ci.out] at UW|(simp only [Int.reduceToNat] at UW;rw [← Ci.out] at UW));have Cb:=ga.mk (Kd.Wd UW (La BaH));have Eb:=ga.mk (Va (g:=ya) (o:=.cells #[.slice Wa Qa.length Xa,.int .i64 Ja,.int .i64 Ga,.int .i64 Ia,.slice Jb Aa.length yb] 30 (0,0)) DaH hb);have Rb:=ga.mk (Na BaH hb);clear oa HB;have Cg:=Cb;have oa:=Eb;have HB:=Rb;clear Cb Eb Rb hb UW;have VD:xB.cell? ⟨ya,0,none⟩=some (.slice Wa Qa.length Xa):=(ia oa.out 0).trans rfl;have UD:xB.cell? ⟨ya,1,none⟩=some (.int .i64 Ja):=(ia oa.out 1).trans rfl;have TD:xB.cell? ⟨ya,2,none⟩=some (.int .i64 Ga):=(ia oa.out 2).trans rfl;have SD:xB.cell? ⟨ya,3,none⟩=some (.int .i64 Ia):=(ia oa.out 3).trans rfl;have RD:xB.cell? ⟨ya,4,none⟩=some (.slice Jb Aa.length yb):=(ia oa.out 4).trans rfl;have BD:=aa oa.out 0;have zD:=aa oa.out 1;have yD:=aa oa.out 2;have xD:=aa oa.out 3;have wD:=aa oa.out 4)|((with_reducible refine Bb (f:=21) rfl ?_);refine Tc (some 11) rfl rfl Try.func21 (by kernel_rfl) rfl #[.agg #[.slice Wa Qa.length Xa,.int .i64 Ja,.int .i64 Ga,.int .i64 Ia,.slice Jb Aa.length yb],.slice A1 l1.length c1] rfl FaH ?_;(with_reducible refine (Mb.calls k _ _ Qa Ja Ga Ia _ _ Aa _ _ l1 false _ ?yc ?uc ?td ?qd ?Hp ?Gp A3.out).mono ?_);(case yc=>repeat (first|exact (Kd.Ab fe.out HB.out)|(with_reducible refine Kd.Lb ?_ _)|(with_reducible refine Kd.Kb ?_ _)|(with_reducible refine Kd.Xb ?_)));(case uc=>exact ye.out);(case td=>repeat (first|exact (Kd.Ab We.out HB.out)|(with_reducible refine Kd.Lb ?_ _)|(with_reducible refine Kd.Kb ?_ _)|(with_reducible refine Kd.Xb ?_)));(case qd=>exact Xf.out);(case Hp=>repeat (first|exact (Kd.Ab Uo.out HB.out)|(with_reducible refine Kd.Lb ?_ _)|(with_reducible refine Kd.Kb ?_ _)|(with_reducible refine Kd.Xb ?_)));(case Gp=>exact FG.out);rintro e MP ⟨rfl,hb⟩;refine ⟨_,rfl,?_⟩;have Cb:=ga.mk (Kd.oc faI hb);have Eb:=ga.mk (Va (g:=ya) (o:=.cells #[.slice Wa Qa.length Xa,.int .i64 Ja,.int .i64 Ga,.int .i64 Ia,.slice Jb Aa.length yb] 30 (0,0)) DaH hb);have Rb:=ga.mk (Na BaH hb);clear Cg oa HB;have Cg:=Cb;have oa:=Eb;have HB:=Rb;clear Cb Eb Rb;(try clear hb);(try clear jj);(try clear hk);(try clear hi)));go_ret;exact ⟨_,by first|rfl|(simp [Pa,Oa] <;> rfl)|(simp [*,Pa,Oa] <;> rfl),XaH,EaH⟩
mutual
noncomputable def Fb.j0:Nat→List Int→Bool→List Int→Int→Int→Int→List (He)→Option (Bool)
 | 0,_,_,_,_,_,_,_=>none
 | k + 1,x1,x18,Fc,Uc,Mc,Ic,jc=>if x18=true then (some false) else ((Ej.f Fc Uc Mc Ic jc).bind fun t103=>(Fb.l0 k x1 t103 (t103.length:Int) 0))
noncomputable def Fb.l0:Nat→List Int→List (List Bool)→Int→Int→Option (Bool)
 | 0,_,_,_,_=>none
 | k + 1,x1,W0,x21,dw=>if dw < x21 then (if 0 ≤ dw then (if dw < (W0.length:Int) then (if dw < (x1.length:Int) then ((Kg.f (rd x1 dw) (-1) 11).bind fun t108=>(if t108=true then (Fb.l1 k x1 dw W0 x21 dw (Rc W0 dw) ((Rc W0 dw).length:Int) 0) else (some false))) else (none)) else (none)) else (none)) else (some true)
noncomputable def Fb.l1:Nat→List Int→Int→List (List Bool)→Int→Int→List Bool→Int→Int→Option (Bool)
 | 0,_,_,_,_,_,_,_,_=>none
 | k + 1,x1,x5,W0,x21,dw,mN,x34,V0=>if V0 < x34 then (if 0 ≤ V0 then (if V0 < (mN.length:Int) then (if sg false mN V0=true then (if 0 ≤ x5 then (if x5 < (x1.length:Int) then (if (rd x1 x5) ≥ 0 then (if V0 < (x1.length:Int) then (if (rd x1 x5)=(rd x1 V0) then (some false) else (Fb.l1 k x1 x5 W0 x21 dw mN x34 (wrap64 (V0 + 1)))) else (none)) else (Fb.l1 k x1 x5 W0 x21 dw mN x34 (wrap64 (V0 + 1)))) else (none)) else (none)) else (Fb.l1 k x1 x5 W0 x21 dw mN x34 (wrap64 (V0 + 1)))) else (none)) else (none)) else (Fb.l0 k x1 W0 x21 (wrap64 (dw + 1)))
end
noncomputable def Fb.f (k:Nat) (Qa:List Int) (Ja:Int) (Ga:Int) (Ia:Int) (Aa:List (He)) (l1:List Int):Option (Bool):=(ic.f k Qa Ja Ga Ia Aa).bind fun t102=>(if t102=true then (Fb.j0 k l1 ((l1.length:Int) != Ia) Qa Ja Ga Ia Aa) else (Fb.j0 k l1 true Qa Ja Ga Ia Aa))
theorem Fb.calls (k:Nat) (Wa:Option Addr) (Xa:Nat) (Qa:List Int) (Ja:Int) (Ga:Int) (Ia:Int) (Jb:Option Addr) (yb:Nat) (Aa:List (He)) (A1:Option Addr) (c1:Nat) (l1:List Int) (r:Bool) (w:World) (Od:Kd.C (Kd.int .i64) w Wa Qa.length Qa) (Md:Qa.length ≤ Xa) (Re:Kd.C iq w Jb Aa.length Aa) (Qe:Aa.length ≤ yb) (Kp:Kd.C (Kd.int .i64) w A1 l1.length l1) (Xk:l1.length ≤ c1) (h:Fb.f k Qa Ja Ga Ia Aa l1=some r) :
  Calls Try.prog 58 #[.agg #[.slice Wa Qa.length Xa,.int .i64 Ja,.int .i64 Ga,.int .i64 Ia,.slice Jb Aa.length yb],.slice A1 l1.length c1] w fun e w'=>e = .returned (.bool r)∧Below w.heap.size w w':=by
 have KB:=Try.underlying30;have fe:=ga.mk Od;have ye:=ga.mk Md;clear Od Md;have We:=ga.mk Re;have Xf:=ga.mk Qe;clear Re Qe;have Uo:=ga.mk Kp;have FG:=ga.mk Xk;clear Kp Xk;have HB:=ga.mk (Below.refl w.heap.size w);have H:((ic.f k Qa Ja Ga Ia Aa).bind fun t102=>(if t102=true then (Fb.j0 k l1 ((l1.length:Int) != Ia) Qa Ja Ga Ia Aa) else (Fb.j0 k l1 true Qa Ja Ga Ia Aa)))=some r:=h;clear h;have pV:=ga.mk H;clear H;go_enter Try.func58,Try.ntmps58
 go_upto_region 1 with (first|((with_reducible refine qb (N:=2) rfl ?_);(try (refine Wg (by rfl) ?_;dsimp only));refine Ib ?hg (N:=2) ?hd (cs:=#[.slice Wa Qa.length Xa,.int .i64 Ja,.int .i64 Ga,.int .i64 Ia,.slice Jb Aa.length yb]) (t:=30) ?hr ?_;(case hd=>rfl);(case hg=>rfl);(case hr=>first|(go_simp;done)|(go_simp;rfl));intro ya hg w4 Sb hb;have Cb:=ga.mk (Na CaH hb);have Eb:=ga.mk (Sb);have Rb:=ga.mk ((by rw [hg];exact (La CaH):w.heap.size ≤ ya));have Gc:=ga.mk ((by rw [hg];exact (La CaH):w.heap.size ≤ ya));clear HB;have HB:=Cb;have oa:=Eb;have Nd:=Rb;have Ta:=Gc;clear Cb Eb Rb Gc hb Sb hg))
 repeat (go_quiet (first|((with_reducible refine qb (N:=2) rfl ?_);(try (refine Wg (by rfl) ?_;dsimp only));refine Ib ?hg (N:=2) ?hd (cs:=#[.slice Wa Qa.length Xa,.int .i64 Ja,.int .i64 Ga,.int .i64 Ia,.slice Jb Aa.length yb]) (t:=30) ?hr ?_;(case hd=>rfl);(case hg=>rfl);(case hr=>first|(go_simp;done)|(go_simp;rfl));intro ya hg w4 Sb hb;have Cb:=ga.mk (Na CaH hb);have Eb:=ga.mk (Sb);have Rb:=ga.mk ((by rw [hg];exact (La CaH):w.heap.size ≤ ya));have Gc:=ga.mk ((by rw [hg];exact (La CaH):w.heap.size ≤ ya));clear HB;have HB:=Cb;have oa:=Eb;have Nd:=Rb;have Ta:=Gc;clear Cb Eb Rb Gc hb Sb hg));go_upto_region 1 with (first|((with_reducible refine qb (N:=2) rfl ?_);(try (refine Wg (by rfl) ?_;dsimp only));refine Ib ?hg (N:=2) ?hd (cs:=#[.slice Wa Qa.length Xa,.int .i64 Ja,.int .i64 Ga,.int .i64 Ia,.slice Jb Aa.length yb]) (t:=30) ?hr ?_;(case hd=>rfl);(case hg=>rfl);(case hr=>first|(go_simp;done)|(go_simp;rfl));intro ya hg w4 Sb hb;have Cb:=ga.mk (Na CaH hb);have Eb:=ga.mk (Sb);have Rb:=ga.mk ((by rw [hg];exact (La CaH):w.heap.size ≤ ya));have Gc:=ga.mk ((by rw [hg];exact (La CaH):w.heap.size ≤ ya));clear HB;have HB:=Cb;have oa:=Eb;have Nd:=Rb;have Ta:=Gc;clear Cb Eb Rb Gc hb Sb hg)))
 (try simp only [Act.put,List.setIfInBounds_toArray,List.set_cons_zero,List.set_cons_succ])
 go_cut [18] (fun v18 wc=>∃ (kq:Nat) (DP:Bool),v18 = .bool DP∧ga (Fb.j0 kq l1 DP Qa Ja Ga Ia Aa=some r)∧ga (kq ≤ k)∧ga (wc.heap[ya]? = some (.cells #[(.slice Wa Qa.length Xa),.int .i64 Ja,.int .i64 Ga,.int .i64 Ia,(.slice Jb Aa.length yb)] 30 (0,0)))∧ga (Below w.heap.size w wc))
 case first =>
  have H:=pV.out;clear pV;replace H:=Option.bind_eq_some_iff.mp H;obtain ⟨t102,gN,H⟩:=H;replace H:(if t102=true then (Fb.j0 k l1 ((l1.length:Int) != Ia) Qa Ja Ga Ia Aa) else (Fb.j0 k l1 true Qa Ja Ga Ia Aa))=some r:=H;have A5:=ga.mk gN;clear gN
  by_cases c6:t102=true
  ·subst c6;have H1:(Fb.j0 k l1 ((l1.length:Int) != Ia) Qa Ja Ga Ia Aa)=some r:=by rw [if_pos rfl] at H;exact H
   clear H;have H:=H1;clear H1;have H':=ga.mk H;clear H;have Dk:w4.cell? ⟨ya,0,none⟩=some (.slice Wa Qa.length Xa):=(ia oa.out 0).trans rfl;have Ck:w4.cell? ⟨ya,1,none⟩=some (.int .i64 Ja):=(ia oa.out 1).trans rfl;have Bk:w4.cell? ⟨ya,2,none⟩=some (.int .i64 Ga):=(ia oa.out 2).trans rfl;have Ak:w4.cell? ⟨ya,3,none⟩=some (.int .i64 Ia):=(ia oa.out 3).trans rfl;have zk:w4.cell? ⟨ya,4,none⟩=some (.slice Jb Aa.length yb):=(ia oa.out 4).trans rfl;have xk:=aa oa.out 0;have vk:=aa oa.out 1;have uk:=aa oa.out 2;have sk:=aa oa.out 3;have qk:=aa oa.out 4;go_wp2_with (first|(go_at_call 46;(with_reducible refine (ic.calls k _ _ Qa Ja Ga Ia _ _ Aa true _ ?yc ?uc ?td ?qd A5.out).mono ?_);(case yc=>repeat (first|exact (Kd.Ab fe.out HB.out)|(with_reducible refine Kd.Lb ?_ _)|(with_reducible refine Kd.Kb ?_ _)|(with_reducible refine Kd.Xb ?_)));(case uc=>exact ye.out);(case td=>repeat (first|exact (Kd.Ab We.out HB.out)|(with_reducible refine Kd.Lb ?_ _)|(with_reducible refine Kd.Kb ?_ _)|(with_reducible refine Kd.Xb ?_)));(case qd=>exact Xf.out);rintro e w8 ⟨rfl,hb⟩;have Cb:=ga.mk (Va (g:=ya) (o:=.cells #[.slice Wa Qa.length Xa,.int .i64 Ja,.int .i64 Ga,.int .i64 Ia,.slice Jb Aa.length yb] 30 (0,0)) DaH hb);have Eb:=ga.mk (Na BaH hb);clear oa HB;have oa:=Cb;have HB:=Eb;clear Cb Eb;(try clear hb);(try clear jj);(try clear hk);(try clear hi);have Qh:w8.cell? ⟨ya,0,none⟩=some (.slice Wa Qa.length Xa):=(ia oa.out 0).trans rfl;have Ph:w8.cell? ⟨ya,1,none⟩=some (.int .i64 Ja):=(ia oa.out 1).trans rfl;have Oh:w8.cell? ⟨ya,2,none⟩=some (.int .i64 Ga):=(ia oa.out 2).trans rfl;have Nh:w8.cell? ⟨ya,3,none⟩=some (.int .i64 Ia):=(ia oa.out 3).trans rfl;have Mh:w8.cell? ⟨ya,4,none⟩=some (.slice Jb Aa.length yb):=(ia oa.out 4).trans rfl;have Lh:=aa oa.out 0;have Kh:=aa oa.out 1;have Jh:=aa oa.out 2;have Ih:=aa oa.out 3;have Hh:=aa oa.out 4))
   repeat (go_quiet (first|(go_at_call 46;(with_reducible refine (ic.calls k _ _ Qa Ja Ga Ia _ _ Aa true _ ?yc ?uc ?td ?qd A5.out).mono ?_);(case yc=>repeat (first|exact (Kd.Ab fe.out HB.out)|(with_reducible refine Kd.Lb ?_ _)|(with_reducible refine Kd.Kb ?_ _)|(with_reducible refine Kd.Xb ?_)));(case uc=>exact ye.out);(case td=>repeat (first|exact (Kd.Ab We.out HB.out)|(with_reducible refine Kd.Lb ?_ _)|(with_reducible refine Kd.Kb ?_ _)|(with_reducible refine Kd.Xb ?_)));(case qd=>exact Xf.out);rintro e w8 ⟨rfl,hb⟩;have Cb:=ga.mk (Va (g:=ya) (o:=.cells #[.slice Wa Qa.length Xa,.int .i64 Ja,.int .i64 Ga,.int .i64 Ia,.slice Jb Aa.length yb] 30 (0,0)) DaH hb);have Eb:=ga.mk (Na BaH hb);clear oa HB;have oa:=Cb;have HB:=Eb;clear Cb Eb;(try clear hb);(try clear jj);(try clear hk);(try clear hi);have Qh:w8.cell? ⟨ya,0,none⟩=some (.slice Wa Qa.length Xa):=(ia oa.out 0).trans rfl;have Ph:w8.cell? ⟨ya,1,none⟩=some (.int .i64 Ja):=(ia oa.out 1).trans rfl;have Oh:w8.cell? ⟨ya,2,none⟩=some (.int .i64 Ga):=(ia oa.out 2).trans rfl;have Nh:w8.cell? ⟨ya,3,none⟩=some (.int .i64 Ia):=(ia oa.out 3).trans rfl;have Mh:w8.cell? ⟨ya,4,none⟩=some (.slice Jb Aa.length yb):=(ia oa.out 4).trans rfl;have Lh:=aa oa.out 0;have Kh:=aa oa.out 1;have Jh:=aa oa.out 2;have Ih:=aa oa.out 3;have Hh:=aa oa.out 4));try go_wp2_with (first|(go_at_call 46;(with_reducible refine (ic.calls k _ _ Qa Ja Ga Ia _ _ Aa true _ ?yc ?uc ?td ?qd A5.out).mono ?_);(case yc=>repeat (first|exact (Kd.Ab fe.out HB.out)|(with_reducible refine Kd.Lb ?_ _)|(with_reducible refine Kd.Kb ?_ _)|(with_reducible refine Kd.Xb ?_)));(case uc=>exact ye.out);(case td=>repeat (first|exact (Kd.Ab We.out HB.out)|(with_reducible refine Kd.Lb ?_ _)|(with_reducible refine Kd.Kb ?_ _)|(with_reducible refine Kd.Xb ?_)));(case qd=>exact Xf.out);rintro e w8 ⟨rfl,hb⟩;have Cb:=ga.mk (Va (g:=ya) (o:=.cells #[.slice Wa Qa.length Xa,.int .i64 Ja,.int .i64 Ga,.int .i64 Ia,.slice Jb Aa.length yb] 30 (0,0)) DaH hb);have Eb:=ga.mk (Na BaH hb);clear oa HB;have oa:=Cb;have HB:=Eb;clear Cb Eb;(try clear hb);(try clear jj);(try clear hk);(try clear hi);have Qh:w8.cell? ⟨ya,0,none⟩=some (.slice Wa Qa.length Xa):=(ia oa.out 0).trans rfl;have Ph:w8.cell? ⟨ya,1,none⟩=some (.int .i64 Ja):=(ia oa.out 1).trans rfl;have Oh:w8.cell? ⟨ya,2,none⟩=some (.int .i64 Ga):=(ia oa.out 2).trans rfl;have Nh:w8.cell? ⟨ya,3,none⟩=some (.int .i64 Ia):=(ia oa.out 3).trans rfl;have Mh:w8.cell? ⟨ya,4,none⟩=some (.slice Jb Aa.length yb):=(ia oa.out 4).trans rfl;have Lh:=aa oa.out 0;have Kh:=aa oa.out 1;have Jh:=aa oa.out 2;have Ih:=aa oa.out 3;have Hh:=aa oa.out 4)))
   go_meet
   case rel=>exact ⟨_,(((l1.length:Int) != Ia)),IaH,H',⟨by first|omega|exact Nat.le_refl _⟩,⟨HaH⟩,⟨EaH⟩⟩
  ·replace c6:=Bool.eq_false_iff.mpr c6;subst c6;have H1:(Fb.j0 k l1 true Qa Ja Ga Ia Aa)=some r:=by rw [if_neg (show ¬ (false=true) by decide)] at H;exact H
   clear H;have H:=H1;clear H1;have H':=ga.mk H;clear H;have Ai:w4.cell? ⟨ya,0,none⟩=some (.slice Wa Qa.length Xa):=(ia oa.out 0).trans rfl;have zi:w4.cell? ⟨ya,1,none⟩=some (.int .i64 Ja):=(ia oa.out 1).trans rfl;have si:w4.cell? ⟨ya,2,none⟩=some (.int .i64 Ga):=(ia oa.out 2).trans rfl;have ri:w4.cell? ⟨ya,3,none⟩=some (.int .i64 Ia):=(ia oa.out 3).trans rfl;have qi:w4.cell? ⟨ya,4,none⟩=some (.slice Jb Aa.length yb):=(ia oa.out 4).trans rfl;have ni:=aa oa.out 0;have ki:=aa oa.out 1;have ji:=aa oa.out 2;have ei:=aa oa.out 3;have di:=aa oa.out 4;go_wp2_with (first|(go_at_call 46;(with_reducible refine (ic.calls k _ _ Qa Ja Ga Ia _ _ Aa false _ ?yc ?uc ?td ?qd A5.out).mono ?_);(case yc=>repeat (first|exact (Kd.Ab fe.out HB.out)|(with_reducible refine Kd.Lb ?_ _)|(with_reducible refine Kd.Kb ?_ _)|(with_reducible refine Kd.Xb ?_)));(case uc=>exact ye.out);(case td=>repeat (first|exact (Kd.Ab We.out HB.out)|(with_reducible refine Kd.Lb ?_ _)|(with_reducible refine Kd.Kb ?_ _)|(with_reducible refine Kd.Xb ?_)));(case qd=>exact Xf.out);rintro e Xj ⟨rfl,hb⟩;have Cb:=ga.mk (Va (g:=ya) (o:=.cells #[.slice Wa Qa.length Xa,.int .i64 Ja,.int .i64 Ga,.int .i64 Ia,.slice Jb Aa.length yb] 30 (0,0)) DaH hb);have Eb:=ga.mk (Na BaH hb);clear oa HB;have oa:=Cb;have HB:=Eb;clear Cb Eb;(try clear hb);(try clear jj);(try clear hk);(try clear hi)))
   repeat (go_quiet (first|(go_at_call 46;(with_reducible refine (ic.calls k _ _ Qa Ja Ga Ia _ _ Aa false _ ?yc ?uc ?td ?qd A5.out).mono ?_);(case yc=>repeat (first|exact (Kd.Ab fe.out HB.out)|(with_reducible refine Kd.Lb ?_ _)|(with_reducible refine Kd.Kb ?_ _)|(with_reducible refine Kd.Xb ?_)));(case uc=>exact ye.out);(case td=>repeat (first|exact (Kd.Ab We.out HB.out)|(with_reducible refine Kd.Lb ?_ _)|(with_reducible refine Kd.Kb ?_ _)|(with_reducible refine Kd.Xb ?_)));(case qd=>exact Xf.out);rintro e Xj ⟨rfl,hb⟩;have Cb:=ga.mk (Va (g:=ya) (o:=.cells #[.slice Wa Qa.length Xa,.int .i64 Ja,.int .i64 Ga,.int .i64 Ia,.slice Jb Aa.length yb] 30 (0,0)) DaH hb);have Eb:=ga.mk (Na BaH hb);clear oa HB;have oa:=Cb;have HB:=Eb;clear Cb Eb;(try clear hb);(try clear jj);(try clear hk);(try clear hi)));try go_wp2_with (first|(go_at_call 46;(with_reducible refine (ic.calls k _ _ Qa Ja Ga Ia _ _ Aa false _ ?yc ?uc ?td ?qd A5.out).mono ?_);(case yc=>repeat (first|exact (Kd.Ab fe.out HB.out)|(with_reducible refine Kd.Lb ?_ _)|(with_reducible refine Kd.Kb ?_ _)|(with_reducible refine Kd.Xb ?_)));(case uc=>exact ye.out);(case td=>repeat (first|exact (Kd.Ab We.out HB.out)|(with_reducible refine Kd.Lb ?_ _)|(with_reducible refine Kd.Kb ?_ _)|(with_reducible refine Kd.Xb ?_)));(case qd=>exact Xf.out);rintro e Xj ⟨rfl,hb⟩;have Cb:=ga.mk (Va (g:=ya) (o:=.cells #[.slice Wa Qa.length Xa,.int .i64 Ja,.int .i64 Ga,.int .i64 Ia,.slice Jb Aa.length yb] 30 (0,0)) DaH hb);have Eb:=ga.mk (Na BaH hb);clear oa HB;have oa:=Cb;have HB:=Eb;clear Cb Eb;(try clear hb);(try clear jj);(try clear hk);(try clear hi))))
   go_meet
   case rel=>exact ⟨_,(true),IaH,H',⟨by first|omega|exact Nat.le_refl _⟩,⟨HaH⟩,⟨EaH⟩⟩
 case rest =>
  clear pV
  try clear c1
  try clear p2
  try clear c5
  try clear c6
  try clear Ai
  try clear zi
  try clear si
  try clear ri
  try clear qi
  try clear Dk
  try clear Ck
  try clear Bk
  try clear Ak
  try clear zk
  try clear Qh
  try clear Ph
  try clear Oh
  try clear Nh
  try clear Mh
  try clear ni
  try clear ki
  try clear ji
  try clear ei
  try clear di
  try clear xk
  try clear vk
  try clear uk
  try clear sk
  try clear qk
  try clear Lh
  try clear Kh
  try clear Jh
  try clear Ih
  try clear Hh
  obtain ⟨kq,DP,rfl,HA,ZM,oa,HB⟩:=hcut;cases kq with
  | zero=>exact absurd HA.out (by simp [Fb.j0])
  | succ L2 =>
   have H:=HA.out;clear HA;simp only [Fb.j0] at H
   by_cases gu:DP=true
   ·subst gu;have H1:(some false)=some r:=by rw [if_pos rfl] at H;exact H
    clear H;have H:=H1;clear H1;obtain rfl:=Option.some.inj H;go_wp2
    repeat (go_quiet (fail);try go_wp2)
    go_ret;exact ⟨by first|rfl|(simp [Pa,Oa] <;> rfl)|(simp [*,Pa,Oa] <;> rfl),EaH⟩
   ·replace gu:=Bool.eq_false_iff.mpr gu;subst gu;have H1:((Ej.f Qa Ja Ga Ia Aa).bind fun t103=>(Fb.l0 L2 l1 t103 (t103.length:Int) 0))=some r:=by rw [if_neg (show ¬ (false=true) by decide)] at H;exact H
    clear H;have H:=H1;clear H1;replace H:=Option.bind_eq_some_iff.mp H;obtain ⟨t103,kN,H⟩:=H;replace H:(Fb.l0 L2 l1 t103 (t103.length:Int) 0)=some r:=H;have uV:=ga.mk kN;clear kN;have H':=ga.mk H;clear H;have Eh:wc.cell? ⟨ya,0,none⟩=some (.slice Wa Qa.length Xa):=(ia oa.out 0).trans rfl;have Dh:wc.cell? ⟨ya,1,none⟩=some (.int .i64 Ja):=(ia oa.out 1).trans rfl;have Ch:wc.cell? ⟨ya,2,none⟩=some (.int .i64 Ga):=(ia oa.out 2).trans rfl;have Bh:wc.cell? ⟨ya,3,none⟩=some (.int .i64 Ia):=(ia oa.out 3).trans rfl;have Ah:wc.cell? ⟨ya,4,none⟩=some (.slice Jb Aa.length yb):=(ia oa.out 4).trans rfl;have zh:=aa oa.out 0;have yh:=aa oa.out 1;have xh:=aa oa.out 2;have wh:=aa oa.out 3;have uh:=aa oa.out 4;go_wp2_with (first|(go_at_call 59;(with_reducible refine (Ej.calls _ _ Qa Ja Ga Ia _ _ Aa t103 _ ?yc ?uc ?td ?qd uV.out).mono ?_);(case yc=>repeat (first|exact (Kd.Ab fe.out HB.out)|(with_reducible refine Kd.Lb ?_ _)|(with_reducible refine Kd.Kb ?_ _)|(with_reducible refine Kd.Xb ?_)));(case uc=>exact ye.out);(case td=>repeat (first|exact (Kd.Ab We.out HB.out)|(with_reducible refine Kd.Lb ?_ _)|(with_reducible refine Kd.Kb ?_ _)|(with_reducible refine Kd.Xb ?_)));(case qd=>exact Xf.out);rintro e um ⟨tL,rfl,Hi,hb⟩;have Cb:=ga.mk (Kd.Cp Hi (La BaH));have Eb:=ga.mk (Va (g:=ya) (o:=.cells #[.slice Wa Qa.length Xa,.int .i64 Ja,.int .i64 Ga,.int .i64 Ia,.slice Jb Aa.length yb] 30 (0,0)) DaH hb);have Rb:=ga.mk (Na BaH hb);clear oa HB;have Sr:=Cb;have oa:=Eb;have HB:=Rb;clear Cb Eb Rb;(try clear hb);(try clear jj);(try clear hk);(try clear hi);(try clear Hi);obtain ⟨ZK,yG,yO⟩:=Kd.Bi Sr.out;subst yO))
    repeat (go_quiet (first|(go_at_call 59;(with_reducible refine (Ej.calls _ _ Qa Ja Ga Ia _ _ Aa t103 _ ?yc ?uc ?td ?qd uV.out).mono ?_);(case yc=>repeat (first|exact (Kd.Ab fe.out HB.out)|(with_reducible refine Kd.Lb ?_ _)|(with_reducible refine Kd.Kb ?_ _)|(with_reducible refine Kd.Xb ?_)));(case uc=>exact ye.out);(case td=>repeat (first|exact (Kd.Ab We.out HB.out)|(with_reducible refine Kd.Lb ?_ _)|(with_reducible refine Kd.Kb ?_ _)|(with_reducible refine Kd.Xb ?_)));(case qd=>exact Xf.out);rintro e um ⟨tL,rfl,Hi,hb⟩;have Cb:=ga.mk (Kd.Cp Hi (La BaH));have Eb:=ga.mk (Va (g:=ya) (o:=.cells #[.slice Wa Qa.length Xa,.int .i64 Ja,.int .i64 Ga,.int .i64 Ia,.slice Jb Aa.length yb] 30 (0,0)) DaH hb);have Rb:=ga.mk (Na BaH hb);clear oa HB;have Sr:=Cb;have oa:=Eb;have HB:=Rb;clear Cb Eb Rb;(try clear hb);(try clear jj);(try clear hk);(try clear hi);(try clear Hi);obtain ⟨ZK,yG,yO⟩:=Kd.Bi Sr.out;subst yO));try go_wp2_with (first|(go_at_call 59;(with_reducible refine (Ej.calls _ _ Qa Ja Ga Ia _ _ Aa t103 _ ?yc ?uc ?td ?qd uV.out).mono ?_);(case yc=>repeat (first|exact (Kd.Ab fe.out HB.out)|(with_reducible refine Kd.Lb ?_ _)|(with_reducible refine Kd.Kb ?_ _)|(with_reducible refine Kd.Xb ?_)));(case uc=>exact ye.out);(case td=>repeat (first|exact (Kd.Ab We.out HB.out)|(with_reducible refine Kd.Lb ?_ _)|(with_reducible refine Kd.Kb ?_ _)|(with_reducible refine Kd.Xb ?_)));(case qd=>exact Xf.out);rintro e um ⟨tL,rfl,Hi,hb⟩;have Cb:=ga.mk (Kd.Cp Hi (La BaH));have Eb:=ga.mk (Va (g:=ya) (o:=.cells #[.slice Wa Qa.length Xa,.int .i64 Ja,.int .i64 Ga,.int .i64 Ia,.slice Jb Aa.length yb] 30 (0,0)) DaH hb);have Rb:=ga.mk (Na BaH hb);clear oa HB;have Sr:=Cb;have oa:=Eb;have HB:=Rb;clear Cb Eb Rb;(try clear hb);(try clear jj);(try clear hk);(try clear hi);(try clear Hi);obtain ⟨ZK,yG,yO⟩:=Kd.Bi Sr.out;subst yO)))
    go_loopg [22] L2 (fun kq v22 w'=>∃ (Sc:Int),v22 = .int .i64 Sc∧ga (Fb.l0 kq l1 t103 (t103.length:Int) Sc=some r)∧ga (kq ≤ L2)∧ga (Kd.S (Kd.slice 4 Kd.bool) 60 w' w.heap.size (fun _=>True) (.slice ZK t103.length yG) t103)∧ga (w'.heap[ya]? = some (.cells #[(.slice Wa Qa.length Xa),.int .i64 Ja,.int .i64 Ga,.int .i64 Ia,(.slice Jb Aa.length yb)] 30 (0,0)))∧ga (Below w.heap.size w w'))
    case atStart=>exact ⟨(0),IaH,H',⟨Nat.le_refl _⟩,⟨by (with_reducible repeat (first|apply Kd.uf|apply Kd.tf|apply Kd.dg));exact Sr.out⟩,⟨HaH⟩,⟨EaH⟩⟩
    case round =>
     clear H'
     try clear c1
     try clear p2
     try clear c5
     try clear c6
     try clear gu
     try clear Ai
     try clear zi
     try clear si
     try clear ri
     try clear qi
     try clear Eh
     try clear Dh
     try clear Ch
     try clear Bh
     try clear Ah
     try clear Dk
     try clear Ck
     try clear Bk
     try clear Ak
     try clear zk
     try clear Qh
     try clear Ph
     try clear Oh
     try clear Nh
     try clear Mh
     try clear ni
     try clear ki
     try clear ji
     try clear ei
     try clear di
     try clear zh
     try clear yh
     try clear xh
     try clear wh
     try clear uh
     try clear xk
     try clear vk
     try clear uk
     try clear sk
     try clear qk
     try clear Lh
     try clear Kh
     try clear Jh
     try clear Ih
     try clear Hh
     try clear p2
     (try clear HA);(try clear Cm);(try clear Jt);(try clear oa);(try clear HB);obtain ⟨Sc,rfl,HA,Cm,Jt,oa,HB⟩:=hrel;cases gk with
     | zero=>exact absurd HA.out (by simp [Fb.l0])
     | succ k2 =>
      have H:=HA.out;clear HA;simp only [Fb.l0] at H
      by_cases Ym:Sc < (t103.length:Int)
      ·rw [if_pos Ym] at H;have zm:decide (Sc < (t103.length:Int))=true:=decide_eq_true Ym;clear Ym
       by_cases Ko:0 ≤ Sc
       ·rw [if_pos Ko] at H;have Jo:decide (0 ≤ Sc)=true:=decide_eq_true Ko;clear Ko
        by_cases Ll:Sc < (t103.length:Int)
        ·rw [if_pos Ll] at H;have Kr:decide (Sc < (t103.length:Int))=true:=decide_eq_true Ll;clear Ll
         by_cases vm:Sc < (l1.length:Int)
         ·rw [if_pos vm] at H;have Jr:decide (Sc < (l1.length:Int))=true:=decide_eq_true vm;clear vm;replace H:=Option.bind_eq_some_iff.mp H;obtain ⟨t108,QZ,H⟩:=H;replace H:(if t108=true then (Fb.l1 k2 l1 Sc t103 (t103.length:Int) Sc (Rc t103 Sc) ((Rc t103 Sc).length:Int) 0) else (some false))=some r:=H;have zP:=ga.mk QZ;clear QZ
          by_cases bH:t108=true
          ·subst bH;have H1:(Fb.l1 k2 l1 Sc t103 (t103.length:Int) Sc (Rc t103 Sc) ((Rc t103 Sc).length:Int) 0)=some r:=by rw [if_pos rfl] at H;exact H
           clear H;have H:=H1;clear H1;have H':=ga.mk H;clear H;have Yq:0 ≤ (Sc:Int):=Ua;have Wq:Sc < (t103.length:Int):=Ua;obtain ⟨Sv,VZ,xac,mK,Al,nA,sA⟩:=Qo (Kd.me Jt.out).2.2 Sc Yq Wq;cases mK;obtain ⟨vaj,bO,eO,mF⟩:=Kd.Gy Jt.out [] Sc Yq (by first|exact Wq|exact Ua|(have e_:=(Kd.me Jt.out).1;omega));obtain ⟨C1,rfl,Bv⟩:=eO;have Rn:=mF 0 _ rfl;rw [Nat.add_zero,show ((Kd.slice 4 Kd.bool)).sz=1 from rfl,Nat.mul_one] at Rn;replace Rn:=Option.some.inj (Rn.symm.trans Al);rw [Rn] at Bv;have j8:=ga.mk (show Kd.R Kd.bool 4 _ _ _ _ (Rc t103 Sc) from Bv);clear Rn Bv mF bO;have Jk:=ga.mk sA;have C8:=ga.mk nA;clear sA nA;replace Yq:=eq_true Yq;replace Wq:=eq_true Wq;have Zx:0 ≤ (Sc:Int):=Ua;have Yx:Sc < (l1.length:Int):=Ua;obtain ⟨Fy,FO,Fs⟩:=Kd.Rf Uo.out Sc Zx Yx;cases FO
           try replace Fs:=Sa HB.out Fs
           replace Zx:=eq_true Zx;replace Yx:=eq_true Yx;go_wp2_with (first|(go_at_call 55;(with_reducible refine (Kg.calls (rd l1 Sc) (-1) 11 true _ zP.out).mono ?_);rintro e w' ⟨rfl,⟨nd,rfl⟩⟩;(try first|exact ⟨rfl,_,World.drewN_drewN _ _ _⟩|exact ⟨rfl,_,Eq.trans (World.drewN_drewN _ _ _) (congrArg (World.drewN _) (Nat.add_assoc _ _ _))⟩)))
           repeat (go_quiet (first|(go_at_call 55;(with_reducible refine (Kg.calls (rd l1 Sc) (-1) 11 true _ zP.out).mono ?_);rintro e w' ⟨rfl,⟨nd,rfl⟩⟩;(try first|exact ⟨rfl,_,World.drewN_drewN _ _ _⟩|exact ⟨rfl,_,Eq.trans (World.drewN_drewN _ _ _) (congrArg (World.drewN _) (Nat.add_assoc _ _ _))⟩)));try go_wp2_with (first|(go_at_call 55;(with_reducible refine (Kg.calls (rd l1 Sc) (-1) 11 true _ zP.out).mono ?_);rintro e w' ⟨rfl,⟨nd,rfl⟩⟩;(try first|exact ⟨rfl,_,World.drewN_drewN _ _ _⟩|exact ⟨rfl,_,Eq.trans (World.drewN_drewN _ _ _) (congrArg (World.drewN _) (Nat.add_assoc _ _ _))⟩))))
           go_loopg [35] k2 (fun kq v35 w'=>∃ (jg:Int),v35 = .int .i64 jg∧ga (Fb.l1 kq l1 Sc t103 (t103.length:Int) Sc (Rc t103 Sc) ((Rc t103 Sc).length:Int) jg=some r)∧ga (kq ≤ k2)∧ga (Kd.S (Kd.slice 4 Kd.bool) 60 w' w.heap.size (fun _=>True) (.slice (some Sv) t103.length yG) t103)∧ga (w'.heap[ya]? = some (.cells #[(.slice Wa Qa.length Xa),.int .i64 Ja,.int .i64 Ga,.int .i64 Ia,(.slice Jb Aa.length yb)] 30 (0,0)))∧ga (Kd.C Kd.bool w' VZ (Rc t103 Sc).length (Rc t103 Sc))∧ga (Below w.heap.size w w'))
           case atStart=>exact ⟨(0),IaH,H',⟨Nat.le_refl _⟩,⟨oaI⟩,⟨HaH⟩,⟨haI⟩,⟨EaH⟩⟩
           case round =>
            clear H'
            try clear c1
            try clear p1
            try clear q1
            try clear hx1
            try clear c2
            try clear p2
            try clear c5
            try clear c6
            try clear Gt
            try clear LG
            try clear JG
            try clear SU
            try clear gu
            try clear Ym
            try clear zm
            try clear Ko
            try clear Jo
            try clear Ll
            try clear Kr
            try clear vm
            try clear Jr
            try clear bH
            try clear Ai
            try clear zi
            try clear si
            try clear ri
            try clear qi
            try clear Eh
            try clear Dh
            try clear Ch
            try clear Bh
            try clear Ah
            try clear Dk
            try clear Ck
            try clear Bk
            try clear Ak
            try clear zk
            try clear Qh
            try clear Ph
            try clear Oh
            try clear Nh
            try clear Mh
            try clear ni
            try clear ki
            try clear ji
            try clear ei
            try clear di
            try clear zh
            try clear yh
            try clear xh
            try clear wh
            try clear uh
            try clear xk
            try clear vk
            try clear uk
            try clear sk
            try clear qk
            try clear Lh
            try clear Kh
            try clear Jh
            try clear Ih
            try clear Hh
            try clear Al
            try clear Fs
            try clear Yq
            try clear Zx
            try clear p2
            try clear Wq
            try clear Yx
            (try clear HA);(try clear Rp);(try clear Jt);(try clear oa);(try clear Jk);(try clear HB);obtain ⟨jg,rfl,HA,Rp,Jt,oa,Jk,HB⟩:=hrel;cases gk with
            | zero=>exact absurd HA.out (by simp [Fb.l1])
            | succ k3 =>
             have H:=HA.out;clear HA;simp only [Fb.l1] at H
             by_cases Dy:jg < ((Rc t103 Sc).length:Int)
             ·rw [if_pos Dy] at H;have AF:decide (jg < ((Rc t103 Sc).length:Int))=true:=decide_eq_true Dy;clear Dy
              by_cases zF:0 ≤ jg
              ·rw [if_pos zF] at H;have ZX:decide (0 ≤ jg)=true:=decide_eq_true zF;clear zF
               by_cases kD:jg < ((Rc t103 Sc).length:Int)
               ·rw [if_pos kD] at H;have aH:decide (jg < ((Rc t103 Sc).length:Int))=true:=decide_eq_true kD;clear kD;obtain ⟨bak,DX⟩:∃ b_:Bool,b_=(sg false (Rc t103 Sc) jg):=⟨_,rfl⟩;replace H:(if bak=true then (if 0 ≤ Sc then (if Sc < (l1.length:Int) then (if (rd l1 Sc) ≥ 0 then (if jg < (l1.length:Int) then (if (rd l1 Sc)=(rd l1 jg) then (some false) else (Fb.l1 k3 l1 Sc t103 (t103.length:Int) Sc (Rc t103 Sc) ((Rc t103 Sc).length:Int) (wrap64 (jg + 1)))) else (none)) else (Fb.l1 k3 l1 Sc t103 (t103.length:Int) Sc (Rc t103 Sc) ((Rc t103 Sc).length:Int) (wrap64 (jg + 1)))) else (none)) else (none)) else (Fb.l1 k3 l1 Sc t103 (t103.length:Int) Sc (Rc t103 Sc) ((Rc t103 Sc).length:Int) (wrap64 (jg + 1))))=some r:=by rw [← DX] at H;exact H
                have JT:=ga.mk DX;clear DX
                by_cases UC:bak=true
                ·subst UC;have H1:(if 0 ≤ Sc then (if Sc < (l1.length:Int) then (if (rd l1 Sc) ≥ 0 then (if jg < (l1.length:Int) then (if (rd l1 Sc)=(rd l1 jg) then (some false) else (Fb.l1 k3 l1 Sc t103 (t103.length:Int) Sc (Rc t103 Sc) ((Rc t103 Sc).length:Int) (wrap64 (jg + 1)))) else (none)) else (Fb.l1 k3 l1 Sc t103 (t103.length:Int) Sc (Rc t103 Sc) ((Rc t103 Sc).length:Int) (wrap64 (jg + 1)))) else (none)) else (none))=some r:=by rw [if_pos rfl] at H;exact H
                 clear H;have H:=H1;clear H1
                 by_cases yF:0 ≤ Sc
                 ·rw [if_pos yF] at H;have FM:decide (0 ≤ Sc)=true:=decide_eq_true yF;clear yF
                  by_cases wB:Sc < (l1.length:Int)
                  ·rw [if_pos wB] at H;have Cy:decide (Sc < (l1.length:Int))=true:=decide_eq_true wB;clear wB
                   by_cases dz:(rd l1 Sc) ≥ 0
                   ·rw [if_pos dz] at H;have TC:decide (0 ≤ (rd l1 Sc))=true:=decide_eq_true dz;clear dz
                    by_cases fV:jg < (l1.length:Int)
                    ·rw [if_pos fV] at H;have V9:decide (jg < (l1.length:Int))=true:=decide_eq_true fV;clear fV
                     by_cases AV:(rd l1 Sc)=(rd l1 jg)
                     ·rw [if_pos AV] at H;have Uaj:((rd l1 Sc) == (rd l1 jg))=true:=beq_iff_eq.mpr AV;have Taj:((rd l1 Sc) != (rd l1 jg))=false:=bne_eq_false_iff_eq.mpr AV;clear AV;obtain rfl:=Option.some.inj H;have cg:0 ≤ (jg:Int):=Ua;have bg:jg < ((Rc t103 Sc).length:Int):=Ua;obtain ⟨Tf,Yk,Pd⟩:=Kd.Mg Jk.out jg cg bg;(try rw [← JT.out] at Pd);cases Yk
                      try replace Pd:=Sa HB.out Pd
                      replace cg:=eq_true cg;replace bg:=eq_true bg;have Vi:0 ≤ (Sc:Int):=Ua;have Ui:Sc < (l1.length:Int):=Ua;obtain ⟨xo,Cr,Oe⟩:=Kd.Rf Uo.out Sc Vi Ui;obtain rfl:Fy=xo:=(by injection Cr)
                      try replace Oe:=Sa HB.out Oe
                      replace Vi:=eq_true Vi;replace Ui:=eq_true Ui;have Nt:0 ≤ (Sc:Int):=Ua;have Mt:Sc < (l1.length:Int):=Ua;obtain ⟨Hj,kK,Kj⟩:=Kd.Rf Uo.out Sc Nt Mt;obtain rfl:Fy=Hj:=(by injection kK)
                      try replace Kj:=Sa HB.out Kj
                      replace Nt:=eq_true Nt;replace Mt:=eq_true Mt;have Oy:0 ≤ (jg:Int):=Ua;have My:jg < (l1.length:Int):=Ua;obtain ⟨EF,EO,zn⟩:=Kd.Rf Uo.out jg Oy My;obtain rfl:Fy=EF:=(by injection EO)
                      try replace zn:=Sa HB.out zn
                      replace Oy:=eq_true Oy;replace My:=eq_true My;go_wp2
                      repeat (go_quiet (fail);try go_wp2)
                      go_ret;exact ⟨by first|rfl|(simp [Pa,Oa] <;> rfl)|(simp [*,Pa,Oa] <;> rfl),EaH⟩
                     ·rw [if_neg AV] at H;have Uaj:((rd l1 Sc) == (rd l1 jg))=false:=beq_eq_false_iff_ne.mpr AV;have Taj:((rd l1 Sc) != (rd l1 jg))=true:=bne_iff_ne.mpr AV;have H':=ga.mk H;clear H;have cg:0 ≤ (jg:Int):=Ua;have bg:jg < ((Rc t103 Sc).length:Int):=Ua;obtain ⟨Tf,Yk,Pd⟩:=Kd.Mg Jk.out jg cg bg;(try rw [← JT.out] at Pd);cases Yk
                      try replace Pd:=Sa HB.out Pd
                      replace cg:=eq_true cg;replace bg:=eq_true bg;have Vi:0 ≤ (Sc:Int):=Ua;have Ui:Sc < (l1.length:Int):=Ua;obtain ⟨xo,Cr,Oe⟩:=Kd.Rf Uo.out Sc Vi Ui;obtain rfl:Fy=xo:=(by injection Cr)
                      try replace Oe:=Sa HB.out Oe
                      replace Vi:=eq_true Vi;replace Ui:=eq_true Ui;have Nt:0 ≤ (Sc:Int):=Ua;have Mt:Sc < (l1.length:Int):=Ua;obtain ⟨Hj,kK,Kj⟩:=Kd.Rf Uo.out Sc Nt Mt;obtain rfl:Fy=Hj:=(by injection kK)
                      try replace Kj:=Sa HB.out Kj
                      replace Nt:=eq_true Nt;replace Mt:=eq_true Mt;have Oy:0 ≤ (jg:Int):=Ua;have My:jg < (l1.length:Int):=Ua;obtain ⟨EF,EO,zn⟩:=Kd.Rf Uo.out jg Oy My;obtain rfl:Fy=EF:=(by injection EO)
                      try replace zn:=Sa HB.out zn
                      replace Oy:=eq_true Oy;replace My:=eq_true My;go_wp2
                      repeat (go_quiet (fail);try go_wp2)
                      go_roundg k3
                      case measure=>have:=ZM.out;have:=Cm.out;have:=Rp.out;omega
                      case rel=>exact ⟨(wrap64 (jg + 1)),IaH,H',⟨by have:=ZM.out;have:=Cm.out;have:=Rp.out;omega⟩,⟨oaI⟩,⟨HaH⟩,⟨haI⟩,⟨EaH⟩⟩
                    ·rw [if_neg fV] at H;exact absurd H (by simp)
                   ·rw [if_neg dz] at H;have TC:decide (0 ≤ (rd l1 Sc))=false:=decide_eq_false dz;clear dz;have H':=ga.mk H;clear H;have cg:0 ≤ (jg:Int):=Ua;have bg:jg < ((Rc t103 Sc).length:Int):=Ua;obtain ⟨Tf,Yk,Pd⟩:=Kd.Mg Jk.out jg cg bg;(try rw [← JT.out] at Pd);cases Yk
                    try replace Pd:=Sa HB.out Pd
                    replace cg:=eq_true cg;replace bg:=eq_true bg;have Vi:0 ≤ (Sc:Int):=Ua;have Ui:Sc < (l1.length:Int):=Ua;obtain ⟨xo,Cr,Oe⟩:=Kd.Rf Uo.out Sc Vi Ui;obtain rfl:Fy=xo:=(by injection Cr)
                    try replace Oe:=Sa HB.out Oe
                    replace Vi:=eq_true Vi;replace Ui:=eq_true Ui;go_wp2
                    repeat (go_quiet (fail);try go_wp2)
                    go_roundg k3
                    case measure=>have:=ZM.out;have:=Cm.out;have:=Rp.out;omega
                    case rel=>exact ⟨(wrap64 (jg + 1)),IaH,H',⟨by have:=ZM.out;have:=Cm.out;have:=Rp.out;omega⟩,⟨oaI⟩,⟨HaH⟩,⟨haI⟩,⟨EaH⟩⟩
                  ·rw [if_neg wB] at H;exact absurd H (by simp)
                 ·rw [if_neg yF] at H;exact absurd H (by simp)
                ·replace UC:=Bool.eq_false_iff.mpr UC;subst UC;have H1:(Fb.l1 k3 l1 Sc t103 (t103.length:Int) Sc (Rc t103 Sc) ((Rc t103 Sc).length:Int) (wrap64 (jg + 1)))=some r:=by rw [if_neg (show ¬ (false=true) by decide)] at H;exact H
                 clear H;have H:=H1;clear H1;have H':=ga.mk H;clear H;have cg:0 ≤ (jg:Int):=Ua;have bg:jg < ((Rc t103 Sc).length:Int):=Ua;obtain ⟨Tf,Yk,Pd⟩:=Kd.Mg Jk.out jg cg bg;(try rw [← JT.out] at Pd);cases Yk
                 try replace Pd:=Sa HB.out Pd
                 replace cg:=eq_true cg;replace bg:=eq_true bg;go_wp2
                 repeat (go_quiet (fail);try go_wp2)
                 go_roundg k3
                 case measure=>have:=ZM.out;have:=Cm.out;have:=Rp.out;omega
                 case rel=>exact ⟨(wrap64 (jg + 1)),IaH,H',⟨by have:=ZM.out;have:=Cm.out;have:=Rp.out;omega⟩,⟨oaI⟩,⟨HaH⟩,⟨haI⟩,⟨EaH⟩⟩
               ·rw [if_neg kD] at H;exact absurd H (by simp)
              ·rw [if_neg zF] at H;exact absurd H (by simp)
             ·rw [if_neg Dy] at H;have AF:decide (jg < ((Rc t103 Sc).length:Int))=false:=decide_eq_false Dy;clear Dy;have H':=ga.mk H;clear H;go_wp2
              repeat (go_quiet (fail);try go_wp2)
              go_roundg k3
              case measure=>have:=ZM.out;have:=Cm.out;have:=Rp.out;omega
              case rel=>exact ⟨(wrap64 (Sc + 1)),IaH,H',⟨by have:=ZM.out;have:=Cm.out;have:=Rp.out;omega⟩,⟨oaI⟩,⟨HaH⟩,⟨EaH⟩⟩
          ·replace bH:=Bool.eq_false_iff.mpr bH;subst bH;have H1:(some false)=some r:=by rw [if_neg (show ¬ (false=true) by decide)] at H;exact H
           clear H;have H:=H1;clear H1;obtain rfl:=Option.some.inj H;have Yq:0 ≤ (Sc:Int):=Ua;have Wq:Sc < (t103.length:Int):=Ua;obtain ⟨Sv,VZ,xac,mK,Al,nA,sA⟩:=Qo (Kd.me Jt.out).2.2 Sc Yq Wq;cases mK;obtain ⟨vaj,bO,eO,mF⟩:=Kd.Gy Jt.out [] Sc Yq (by first|exact Wq|exact Ua|(have e_:=(Kd.me Jt.out).1;omega));obtain ⟨C1,rfl,Bv⟩:=eO;have Rn:=mF 0 _ rfl;rw [Nat.add_zero,show ((Kd.slice 4 Kd.bool)).sz=1 from rfl,Nat.mul_one] at Rn;replace Rn:=Option.some.inj (Rn.symm.trans Al);rw [Rn] at Bv;have j8:=ga.mk (show Kd.R Kd.bool 4 _ _ _ _ (Rc t103 Sc) from Bv);clear Rn Bv mF bO;have Jk:=ga.mk sA;have C8:=ga.mk nA;clear sA nA;replace Yq:=eq_true Yq;replace Wq:=eq_true Wq;have Zx:0 ≤ (Sc:Int):=Ua;have Yx:Sc < (l1.length:Int):=Ua;obtain ⟨Fy,FO,Fs⟩:=Kd.Rf Uo.out Sc Zx Yx;cases FO
           try replace Fs:=Sa HB.out Fs
           replace Zx:=eq_true Zx;replace Yx:=eq_true Yx;go_wp2_with (first|(go_at_call 55;(with_reducible refine (Kg.calls (rd l1 Sc) (-1) 11 false _ zP.out).mono ?_);rintro e w' ⟨rfl,⟨nd,rfl⟩⟩;(try first|exact ⟨rfl,_,World.drewN_drewN _ _ _⟩|exact ⟨rfl,_,Eq.trans (World.drewN_drewN _ _ _) (congrArg (World.drewN _) (Nat.add_assoc _ _ _))⟩)))
           repeat (go_quiet (first|(go_at_call 55;(with_reducible refine (Kg.calls (rd l1 Sc) (-1) 11 false _ zP.out).mono ?_);rintro e w' ⟨rfl,⟨nd,rfl⟩⟩;(try first|exact ⟨rfl,_,World.drewN_drewN _ _ _⟩|exact ⟨rfl,_,Eq.trans (World.drewN_drewN _ _ _) (congrArg (World.drewN _) (Nat.add_assoc _ _ _))⟩)));try go_wp2_with (first|(go_at_call 55;(with_reducible refine (Kg.calls (rd l1 Sc) (-1) 11 false _ zP.out).mono ?_);rintro e w' ⟨rfl,⟨nd,rfl⟩⟩;(try first|exact ⟨rfl,_,World.drewN_drewN _ _ _⟩|exact ⟨rfl,_,Eq.trans (World.drewN_drewN _ _ _) (congrArg (World.drewN _) (Nat.add_assoc _ _ _))⟩))))
           go_ret;exact ⟨by first|rfl|(simp [Pa,Oa] <;> rfl)|(simp [*,Pa,Oa] <;> rfl),EaH⟩
         ·rw [if_neg vm] at H;exact absurd H (by simp)
        ·rw [if_neg Ll] at H;exact absurd H (by simp)
       ·rw [if_neg Ko] at H;exact absurd H (by simp)
      ·rw [if_neg Ym] at H;have zm:decide (Sc < (t103.length:Int))=false:=decide_eq_false Ym;clear Ym;obtain rfl:=Option.some.inj H;go_wp2
       repeat (go_quiet (fail);try go_wp2)
       go_ret;exact ⟨by first|rfl|(simp [Pa,Oa] <;> rfl)|(simp [*,Pa,Oa] <;> rfl),EaH⟩
end Go.Proofs.Ytkigbdceceeenaa.P
end
