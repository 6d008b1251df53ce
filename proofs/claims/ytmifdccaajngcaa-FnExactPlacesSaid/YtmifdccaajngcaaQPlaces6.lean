import Derived.Shelf.Abstract
import Derived.Outline
import Derived.RegionTactic
import Derived.Deep.QuietTactic
import Derived.BigQuiet
import Derived.Test.YtmifdccaajngcaaQPlaces1
import Derived.Test.YtmifdccaajngcaaQPlaces5
import Derived.Test.YtmifdccaajngcaaQPlaces4
import Derived.Test.YtmifdccaajngcaaQPlaces2
import Derived.Test.YtmifdccaajngcaaQPlaces3
set_option maxHeartbeats 8000000
set_option maxRecDepth 100000
section
namespace Go.Proofs.Ytmifdccaajngcaa.P
open Go.RowKit Go.Proofs.Sa.Ec Go.Proofs.Sa.Bf Go.Proofs.Sa.Yg
set_option linter.unusedVariables false
set_option linter.unusedSimpArgs false
def Qs (s:Int) (x:yf):Bool:=(!(x.f0 == 1) || Tj s x.f2) && (!(x.f0 == 2) || (Tj s x.f2 && Tj s x.f3)) && decide (mg x < s)
def xo (s:Int) (code:List yf):Bool:=decide (0 ≤ s) && decide (s ≤ 1000) && decide (code.length ≤ 1048576) && code.all (Qs s)
def Rg (xs:List mm) (nx:Int) (code:List yf):List mm × Int:=code.foldl (fun p x=>cj p.1 p.2 x) (xs,nx)
theorem KJ (xs:List mm) (nx:Int) (x:yf):nx ≤ (wo xs nx x).2∧(wo xs nx x).2 ≤ nx + 1:=by
 unfold wo
 repeat' split
 all_goals simp only
 all_goals omega
theorem YE (xs:List mm) (nx:Int) (x:yf):nx ≤ (cj xs nx x).2∧(cj xs nx x).2 ≤ nx + 1∧(cj xs nx x).1.length=xs.length:=by
 unfold cj
 have:=KJ xs nx x
 split
 ·exact ⟨this.1,this.2,List.length_set⟩
 ·exact ⟨Int.le_refl _,by simp only;omega,rfl⟩
theorem Cq (code:List yf):∀ (xs:List mm) (nx:Int),nx ≤ (Rg xs nx code).2∧(Rg xs nx code).2 ≤ nx + code.length∧(Rg xs nx code).1.length=xs.length:=by
 induction code with
 | nil=>intro xs nx;simp [Rg]
 | cons x l ih =>
  intro xs nx
  have h:=ih (cj xs nx x).1 (cj xs nx x).2
  have h2:=YE xs nx x
  have e:Rg xs nx (x :: l)=Rg (cj xs nx x).1 (cj xs nx x).2 l:=rfl
  rw [e,List.length_cons]
  omega
theorem Bq (code:List yf) (xs:List mm) (nx:Int) (i:Nat) (h:i < code.length):Rg xs nx (code.take (i + 1))=cj (Rg xs nx (code.take i)).1 (Rg xs nx (code.take i)).2 code[i]:=by
 unfold Rg
 rw [List.take_succ_eq_append_getElem h,List.foldl_append]
 rfl
def Al.f (k:Nat) (Ta:List Int) (Pa:Int) (Oa:Int) (Ma:Int) (Ra:List (Dh)) (a1:Int):Option Int :=
 (Ab.f k Ta Pa Oa Ma Ra).bind fun t =>
  if t=true then
   if fk a1 0 ((Ra.length:Int) - 1)=true then
    if xo Ma (Ua Ra a1).f0=true then some ((Rg (idents Ma.toNat) Ma (Ua Ra a1).f0).2 - Ma) else none
   else some (-1)
  else some (-1)
theorem Al.mono:∀ a0 a1 a2 a3 a4 a5 k,Nb (Al.f k a0 a1 a2 a3 a4 a5) (Al.f (k + 1) a0 a1 a2 a3 a4 a5):=by
 intro a0 a1 a2 a3 a4 a5 k
 unfold Al.f
 repeat' first
   | (with_reducible exact Ab.mono _ _ _ _ _ _)
   | (with_reducible exact Nb.refl _)
   | (with_reducible exact Nb.none _)
   | (with_reducible apply Nb.bind)
   | split
   | (intro _)
theorem Dq {s:Int} {x:yf} {n:Nat} (hn:s=(n:Int)) (h:Qs s x=true):(x.f0=1→0 ≤ x.f2∧x.f2 < (n:Int))∧(x.f0=2→(0 ≤ x.f2∧x.f2 < (n:Int))∧(0 ≤ x.f3∧x.f3 < (n:Int)))∧mg x < (n:Int):=by
 subst hn
 unfold Qs Tj at h
 simp only [Bool.and_eq_true,Bool.or_eq_true,Bool.not_eq_true',beq_eq_false_iff_ne,decide_eq_true_eq] at h
 obtain ⟨⟨h1,h2⟩,h3⟩:=h
 exact ⟨fun e=>h1.resolve_left (fun hne=>hne e),fun e=>h2.resolve_left (fun hne=>hne e),h3⟩
theorem Al.calls (k:Nat) (Eb:Option Addr) (Db:Nat) (Ta:List Int) (Pa:Int) (Oa:Int) (Ma:Int) (yc:Option Addr) (Zb:Nat) (Ra:List (Dh)) (a1:Int) (r:Int) (w:World) (Kf:Kd.C (Kd.int .i64) w Eb Ta.length Ta) (Gf:Ta.length ≤ Db) (Bg:Kd.C Tp w yc Ra.length Ra) (Jg:Ra.length ≤ Zb) (h:Al.f k Ta Pa Oa Ma Ra a1=some r) :
  Calls Try.prog 16 #[.agg #[.slice Eb Ta.length Db,.int .i64 Pa,.int .i64 Oa,.int .i64 Ma,.slice yc Ra.length Zb],.int .i64 a1] w fun e w'=>e = .returned (.int .i64 r)∧Below w.heap.size w w':=by
 unfold Al.f at h
 obtain ⟨t,ht,h⟩:=Option.bind_eq_some_iff.mp h
 have HT:=ja.mk ht
 have hm4:=Bg.2.1
 obtain ⟨W1,hW1⟩:∃ W1,W1=w.alloc (.cells #[.slice Eb Ta.length Db,.int .i64 Pa,.int .i64 Oa,.int .i64 Ma,.slice yc Ra.length Zb] 30 (0,0)):=⟨_,rfl⟩
 have HW:=ja.mk hW1
 have Bl:Below w.heap.size w W1:=by rw [hW1];exact qa (Below.refl _ _) _
 have Bi:W1.heap[w.heap.size]? = some (.cells #[.slice Eb Ta.length Db,.int .i64 Pa,.int .i64 Oa,.int .i64 Ma,.slice yc Ra.length Zb] 30 (0,0)):=by rw [hW1];exact Me _ _
 have HB:=ja.mk Bl
 have HX:=ja.mk Bi
 have Rw:=ja.mk Kf
 have rD:=ja.mk Bg
 have uJ:=ja.mk Gf
 have tJ:=ja.mk Jg
 have hx0:=(ga Bi 0).trans rfl
 have hx1:=(ga Bi 1).trans rfl
 have Ek:=(ga Bi 2).trans rfl
 have jk:=(ga Bi 3).trans rfl
 have Dk:=(ga Bi 4).trans rfl
 clear hW1 Bl Bi Kf Bg ht Gf Jg
 have HH:=ja.mk h
 clear h
 cases t with
 | false =>
  have h:=HH.out
  rw [if_neg (by simp)] at h
  cases h
  go_enter Try.func16,Try.ntmps16
  go_upto_region 1 with (fail)
  rw [← HW.out]
  clear HW
  go_wp2_with (first|(go_at_call 57;(with_reducible refine (Ab.calls k Eb Db Ta Pa Oa Ma yc Zb Ra false W1 (Kd.Mb Rw.out HB.out) uJ.out (Kd.Mb rD.out HB.out) tJ.out HT.out).mono ?_);rintro e w2 ⟨rfl,hb⟩;have gq:=ja.mk (Na HB.out hb);clear hb))
  all_goals
   go_ret
   exact ⟨rfl,gq.out⟩
 | true =>
  have h:=HH.out
  rw [if_pos rfl] at h
  cases hb:fk a1 0 ((Ra.length:Int) - 1) with
  | false =>
   rw [hb,if_neg (by simp)] at h
   cases h
   go_enter Try.func16,Try.ntmps16
   go_upto_region 1 with (fail)
   rw [← HW.out]
   clear HW
   go_wp2_with (first|(go_at_call 57;(with_reducible refine (Ab.calls k Eb Db Ta Pa Oa Ma yc Zb Ra true W1 (Kd.Mb Rw.out HB.out) uJ.out (Kd.Mb rD.out HB.out) tJ.out HT.out).mono ?_);rintro e w2 ⟨rfl,hb⟩;have gq:=ja.mk (Na HB.out hb);have Dk:=(ga (Ya HX.out hb) 4).trans rfl;clear hb)|(go_at_call 58;(with_reducible refine (rj _ _ _ _).mono ?_);rintro e w3 ⟨rfl,⟨n2,rfl⟩⟩))
   all_goals
    go_ret
    exact ⟨rfl,ia gq.out _⟩
  | true =>
   rw [hb,if_pos rfl] at h
   by_cases hok:xo Ma (Ua Ra a1).f0=true
   ·rw [if_pos hok] at h
    have hr:=Option.some.inj h
    unfold xo at hok
    simp only [Bool.and_eq_true,decide_eq_true_eq,List.all_eq_true] at hok
    obtain ⟨⟨⟨hs0,hs1⟩,nu⟩,hall⟩:=hok
    obtain ⟨n,rfl⟩:∃ n:Nat,Ma=(n:Int):=⟨Ma.toNat,by omega⟩
    rw [Int.toNat_natCast] at hr
    have HR:=ja.mk hr
    have HA:=ja.mk hall
    have hq:0 ≤ a1∧a1 < (Ra.length:Int):=by simp [fk] at hb;omega
    obtain ⟨q1,q2⟩:=hq
    clear h hr hall
    go_enter Try.func16,Try.ntmps16
    go_upto_region 1 with (fail)
    rw [← HW.out]
    clear HW
    go_upto_region 4 with (first|(go_at_call 57;(with_reducible refine (Ab.calls k Eb Db Ta Pa Oa (n:Int) yc Zb Ra true W1 (Kd.Mb Rw.out HB.out) uJ.out (Kd.Mb rD.out HB.out) tJ.out HT.out).mono ?_);rintro e w2 ⟨rfl,wu⟩;have gq:=ja.mk (Na HB.out wu);have sE:=ja.mk (Ya HX.out wu);have hy0:=(ga sE.out 0).trans rfl;have hy1:=(ga sE.out 1).trans rfl;have hy2:=(ga sE.out 2).trans rfl;have hy3:=(ga sE.out 3).trans rfl;have D5:=(ga sE.out 4).trans rfl;clear wu)|(go_at_call 58;(with_reducible refine (rj _ _ _ _).mono ?_);rintro e w3 ⟨rfl,⟨n2,rfl⟩⟩)|(go_at_call 59;(with_reducible refine (vo Eb yc Db Zb Ta.length Ra.length Pa Oa n (by omega) _).mono ?_);rintro e w4 ⟨kb,rfl,hks,wu⟩;have jo:=ja.mk (Na (ia gq.out n2) wu);have lK:=ja.mk (Ya (Ga sE.out n2) wu);have uQ:=ja.mk hks;have HS4:=ja.mk (Pc sE.out);clear hks wu hy0 hy1 hy2 hy3 D5))
    have NV:=(ga lK.out 4).trans rfl
    obtain ⟨ad,A5,c5,e1,hb0,_,_,_,_,OT,SL⟩:=Zf rD.out a1 q1 q2
    cases e1
    have xQ:=ja.mk SL
    have jV:=SL.2.1
    replace hb0:=(jo.out.cell (World.block_lt_of_cell? w _ hb0)).trans hb0
    clear SL
    generalize (Ua Ra a1).f0=code at hb0 xQ OT jV HR HA nu
    go_wp2
    go_loopg [29] code.length (fun gg v29 wr=>∃ j:Nat,j ≤ code.length∧code.length - j ≤ gg∧v29 = .int .i64 j∧ja (KS wr w2.heap.size kb (Rg (idents n) (n:Int) (code.take j)).1 (Rg (idents n) (n:Int) (code.take j)).2)∧ja (Below w.heap.size w wr)∧ja (wr.heap[w.heap.size]? = some (.cells #[.slice Eb Ta.length Db,.int .i64 Pa,.int .i64 Oa,.int .i64 n,.slice (some ad) Ra.length Zb] 30 (0,0))))
    case atStart=>exact ⟨0,Nat.zero_le _,by omega,rfl,⟨uQ.out⟩,jo,lK⟩
    case round =>
     clear uQ jo lK NV hb0 hx0 hx1 Ek jk Dk
     (try clear HK)
     (try clear HB)
     (try clear HX)
     obtain ⟨j,hj,hg,rfl,HK,HB,HX⟩:=hrel
     obtain ⟨b1,b2,b3⟩:=Cq (code.take j) (idents n) (n:Int)
     rw [Lh] at b3
     have hjl:(code.take j).length ≤ code.length:=by rw [List.length_take];omega
     by_cases hlt:j < code.length
     ·have p1:0 ≤ (j:Int):=by omega
      have p2:(j:Int) < (code.length:Int):=by omega
      have wB:decide ((j:Int) < (code.length:Int))=true:=decide_eq_true p2
      obtain ⟨ad7,e2,y0,y1,y2,y3,y4,y5,y6⟩:=kf (Kd.Mb xQ.out HB.out) (j:Int) p1 p2
      cases e2
      have hx:Ea code (j:Int)=code[j]:=by simp [Ea,List.getD_eq_getElem?_getD,hlt]
      have HI:=ja.mk (Dq rfl (HA.out _ (List.getElem_mem hlt)))
      rw [hx] at y0 y1 y2 y3 y4 y5 y6
      have MR:=ja.mk (fun (W3:World) (GN:KS W3 w2.heap.size kb (Rg (idents n) (n:Int) (code.take j)).1 (Rg (idents n) (n:Int) (code.take j)).2)=>zD GN (by omega) (by omega) code[j] (by rw [b3];exact HI.out.1) (by rw [b3];exact HI.out.2.1) (by rw [b3];exact HI.out.2.2))
      rw [← Bq code (idents n) (n:Int) j hlt] at MR
      simp only [Int.toNat_natCast] at y0 y1 y2 y3 y4 y5 y6
      clear hx b1 b2 b3 hjl
      go_wp2_with (first|(go_at_call 60;(with_reducible refine (MR.out _ (HK.out.alloc _)).mono ?_);rintro e w5 ⟨rfl,hks,wu⟩;have HK5:=ja.mk hks;have Es:=ja.mk ((qa HB.out _).trans (wu.mono (Nat.le_of_lt HS4.out)));have HX5:=ja.mk ((wu.block _ HS4.out).trans (Fa HX.out _));clear hks wu))
      go_roundg (code.length - (j + 1))
      case measure=>omega
      case rel=>exact ⟨j + 1,by omega,by omega,by go_num,HK5,Es,HX5⟩
     ·have wB:decide ((j:Int) < (code.length:Int))=false:=decide_eq_false (by omega)
      obtain rfl:j=code.length:=by omega
      rw [List.take_length] at HK b1 b2
      obtain ⟨v,hk1,hk2,GN⟩:=HK.out
      have XI:=(ga hk2 1).trans rfl
      have zE:=(ga HX.out 3).trans rfl
      clear HK hk1 hk2 GN
      go_wp2
      go_quiet (fail)
      go_wp2
      go_ret
      refine ⟨?_,ia HB.out _⟩
      rw [← HR.out]
      congr 2
   ·rw [if_neg hok] at h
    cases h
theorem Ev.pos {α:Type} {c:Prop} [Decidable c] {f g:Nat→Option α} {r:α} (h:c) (k:Ev f r):Ev (fun n=>if c then f n else g n) r:=Ev.congr (fun n=>if_pos h) k
theorem Ev.neg {α:Type} {c:Prop} [Decidable c] {f g:Nat→Option α} {r:α} (h:¬ c) (k:Ev g r):Ev (fun n=>if c then f n else g n) r:=Ev.congr (fun n=>if_neg h) k
theorem Ev.val {α β:Type} {a:α} {f:Nat→α→Option β} {r:β} (k:Ev (fun n=>f n a) r):Ev (fun n=>(some a).bind (f n)) r:=Ev.congr (fun n=>rfl) k
theorem Ev.here {α:Type} {o:Option α} {r:α} (h:o=some r):Ev (fun _=>o) r:=Ev.congr (fun n=>h) (Ev.now r)
theorem ag {x:Int} (h:-9223372036854775808 ≤ x) (h':x ≤ 9223372036854775807):wrap64 x=x:=by
 unfold wrap64
 omega
theorem bg {i n:Nat} (h:i < n) (hn:n ≤ 9223372036854775807):wrap64 ((i:Int) + 1)=((i + 1:Nat):Int):=by
 rw [ag (by omega) (by omega)]
 omega
theorem ni {ρ:Type} {n:Nat} {r:ρ} (P:Nat→Prop) (hend:P n) (hstep:∀ i,i < n→P (i + 1)→P i):∀ i,i ≤ n→P i:=by
 have key:∀ d i,i + d=n→P i:=by
  intro d
  induction d with
  | zero =>
   intro i hi
   have:i=n:=by omega
   exact this ▸ hend
  | succ d ih =>
   intro i hi
   exact hstep i (by omega) (ih (i + 1) (by omega))
 intro i hi
 exact key (n - i) i (by omega)
theorem uz {α:Type} {m:List α} {z:α} {i:Nat} (h:i < m.length):(m.take i ++ List.replicate (m.length - i) z).set i (m.getD i z)=m.take (i + 1) ++ List.replicate (m.length - (i + 1)) z:=by
 rw [List.set_append_right _ _ (by rw [List.length_take];omega),List.length_take,Nat.min_eq_left (by omega),Nat.sub_self]
 rw [show m.length - i=(m.length - (i + 1)) + 1 from by omega,List.replicate_succ,List.set_cons_zero,List.take_succ_eq_append_getElem h,List.append_assoc]
 simp [List.getD_eq_getElem?_getD,List.getElem?_eq_getElem h]
theorem DA {α:Type} {m:List α} {z:α}:m.take 0 ++ List.replicate (m.length - 0) z=List.replicate m.length z:=by simp
theorem wz {α:Type} {m:List α} {z:α}:m.take m.length ++ List.replicate (m.length - m.length) z=m:=by simp
theorem yK (l:List Int) (i:Nat):rd l (i:Int)=l.getD i 0:=rfl
def iota (m:Int) (n:Nat):List Int:=(List.range n).map fun (j:Nat)=>m + (j:Int)
theorem Xj (m:Int) (n:Nat):(iota m n).length=n:=by simp [iota]
theorem zA {m:Int} {n i:Nat} (h:i < n):(iota m n).getD i 0=m + i:=by simp [iota,List.getD_eq_getElem?_getD,h]
theorem Ty {α:Type} {m l:List α} {z:α} {i:Nat} (hl:l.length=m.length) (h:i < m.length):(m.take i ++ l.drop i).set i (m.getD i z)=m.take (i + 1) ++ l.drop (i + 1):=by
 rw [List.set_append_right _ _ (by rw [List.length_take];omega),List.length_take,Nat.min_eq_left (by omega),Nat.sub_self]
 rw [List.drop_eq_getElem_cons (by omega),List.set_cons_zero,List.take_succ_eq_append_getElem h,List.append_assoc]
 simp [List.getD_eq_getElem?_getD,List.getElem?_eq_getElem h]
theorem Gu (a b c:Int):Pg.f a b c=some (fk a b c):=by
 unfold Pg.f fk
 by_cases h:a ≥ b
 ·rw [if_pos h]
  have h':b ≤ a:=h
  simp [h']
 ·rw [if_neg h]
  have h':¬ b ≤ a:=h
  simp [h']
theorem aK (l:List Int) (hl:l.length ≤ 35184372088832):Ev (fun k=>Rd.f k l) l:=by
 refine Ev.congr (f:=fun k=>Rd.l0 k l (List.replicate l.length 0) 0) (fun k=>?_) ?_
 ·unfold Rd.f
  rw [if_pos (by omega),if_pos (by omega)]
  rfl
 ·have key:=ni (r:=l) (n:=l.length) (fun i=>Ev (fun k=>Rd.l0 k l (l.take i ++ List.replicate (l.length - i) 0) (i:Int)) l) ?_ ?_ 0 (by omega)
  ·simpa using key
  ·refine Ev.step (fun k=>by rw [Rd.l0]) ?_
   refine Ev.neg (by omega) ?_
   rw [wz]
   exact Ev.now l
  ·intro i hi h
   refine Ev.step (fun k=>by rw [Rd.l0]) ?_
   refine Ev.pos (by omega) (Ev.pos (by omega) (Ev.pos (by simp;omega) ?_))
   rw [bg hi (by omega),yK,Int.toNat_natCast,uz hi]
   exact h
theorem cK (l:List Int) (hl:l.length ≤ 9223372036854775807):Ev (fun k=>Jd.f k l l) true:=by
 refine Ev.congr (f:=fun k=>Jd.l0 k l l 0) (fun k=>?_) ?_
 ·unfold Jd.f
  rw [if_pos rfl]
 ·refine ni (r:=true) (n:=l.length) (fun i=>Ev (fun k=>Jd.l0 k l l (i:Int)) true) ?_ ?_ 0 (by omega)
  ·refine Ev.step (fun k=>by rw [Jd.l0]) ?_
   exact Ev.neg (by omega) (Ev.now _)
  ·intro i hi h
   refine Ev.step (fun k=>by rw [Jd.l0]) ?_
   refine Ev.pos (by omega) (Ev.pos (by omega) (Ev.pos (by omega) (Ev.pos rfl ?_)))
   rw [bg hi hl]
   exact h
theorem mN (l:List Int) (a:Int) (ha:0 ≤ a) (ha':a ≤ 1048576) (hl:l.length ≤ 9223372036854775807):∃ t,Ii.f l a=some t∧t ≤ a∧(0 ≤ t→t + l.length=a):=by
 unfold Ii.f
 rw [ag (by omega) (by omega)]
 split
 ·exact ⟨-1,rfl,by omega,by omega⟩
 ·exact ⟨_,rfl,by omega,by omega⟩
def vm (x:Km):yf:=⟨x.f0,x.f1,x.f2,x.f3,x.f4,x.f5,x.f6⟩
theorem VD (l:List Km) (hl:l.length ≤ 4398046511104):Ev (fun k=>Wc.f k l) (l.map vm):=by
 refine Ev.congr (f:=fun k=>Wc.l0 k l (List.replicate l.length Ws) 0) (fun k=>?_) ?_
 ·unfold Wc.f
  rw [if_pos (by omega),if_pos (by omega)]
  rfl
 ·have key:=ni (r:=l.map vm) (n:=l.length) (fun i=>Ev (fun k=>Wc.l0 k l ((l.map vm).take i ++ List.replicate ((l.map vm).length - i) Ws) (i:Int)) (l.map vm)) ?_ ?_ 0 (by omega)
  ·rw [DA,List.length_map] at key
   exact key
  ·refine Ev.step (fun k=>by rw [Wc.l0]) ?_
   refine Ev.neg (by omega) ?_
   have e:=wz (m:=l.map vm) (z:=Ws)
   rw [List.length_map] at e
   rw [List.length_map,e]
   exact Ev.now _
  ·intro i hi h
   refine Ev.step (fun k=>by rw [Wc.l0]) ?_
   refine Ev.pos (by omega) (Ev.pos (by omega) ?_)
   unfold Hl.f
   refine Ev.val (Ev.pos (by simp;omega) ?_)
   have hc:vm (yd l (i:Int))=(l.map vm).getD i Ws:=by
    simp [yd,List.getD_eq_getElem?_getD,hi]
   have hf:=uz (m:=l.map vm) (z:=Ws) (i:=i) (by rw [List.length_map];exact hi)
   rw [← hc] at hf
   rw [bg hi (by omega),Int.toNat_natCast]
   have e:=hf ▸ h
   exact e
theorem iE (l:List yf) (hl:l.length ≤ 9223372036854775807):Ev (fun k=>Wb.f k l l) true:=by
 refine Ev.congr (f:=fun k=>Wb.l0 k l l 0) (fun k=>?_) ?_
 ·unfold Wb.f
  rw [if_pos rfl]
 ·refine ni (r:=true) (n:=l.length) (fun i=>Ev (fun k=>Wb.l0 k l l (i:Int)) true) ?_ ?_ 0 (by omega)
  ·refine Ev.step (fun k=>by rw [Wb.l0]) ?_
   exact Ev.neg (by omega) (Ev.now _)
  ·intro i hi h
   refine Ev.step (fun k=>by rw [Wb.l0]) ?_
   refine Ev.pos (by omega) (Ev.pos (by omega) (Ev.pos (by omega) ?_))
   unfold ck.f
   simp only [if_true]
   refine Ev.val (Ev.pos rfl ?_)
   rw [bg hi hl]
   exact h
def uw (l:List Km):Nat:=(l.map fun x=>x.f6.size).sum
def DJ (l:List Km):Nat:=l.length + uw l
def vS (l:List Dl):Nat:=l.length + (l.map fun x=>DJ x.f0).sum
theorem au {l:List Km} {i:Nat} (h:i < l.length):yd l (i:Int)=l[i]:=by simp [yd,List.getD_eq_getElem?_getD,h]
theorem Sp {l:List Dl} {i:Nat} (h:i < l.length):De l (i:Int)=l[i]:=by simp [De,List.getD_eq_getElem?_getD,h]
theorem XD (l:List Km) (a:Int) (ha:0 ≤ a) (ha':a ≤ 1048576) (hl:l.length ≤ 9223372036854775807) (ht:∀ x ∈ l,x.f6.size ≤ 9223372036854775807) :
  ∃ t,Ev (fun k=>ld.f k l a) t∧t ≤ a∧(0 ≤ t→t + DJ l=a):=by
 have key:=ni (ρ:=Unit) (r:=()) (n:=l.length) (fun i=>∀ a:Int,0 ≤ a→a ≤ 1048576→∃ t,Ev (fun k=>ld.l0 k l a (i:Int)) t∧t ≤ a∧(0 ≤ t→t + uw (l.drop i)=a)) ?_ ?_ 0 (by omega)
 ·unfold ld.f
  rw [ag (by omega) (by omega)]
  by_cases h:a - (l.length:Int) < 0
  ·exact ⟨-1,Ev.pos h (Ev.now _),by omega,by omega⟩
  ·obtain ⟨t,e1,e2,e3⟩:=key (a - l.length) (by omega) (by omega)
   refine ⟨t,Ev.neg h e1,by omega,fun h0=>?_⟩
   have:=e3 h0
   rw [List.drop_zero] at this
   unfold DJ
   omega
 ·intro a h0 h1
  refine ⟨a,?_,by omega,?_⟩
  ·refine Ev.step (fun k=>by rw [ld.l0]) ?_
   exact Ev.neg (by omega) (Ev.now _)
  ·intro _
   rw [List.drop_length]
   simp [uw]
 ·intro i hi ih a h0 h1
  have hx:=ht l[i] (List.getElem_mem hi)
  have hd:uw (l.drop i)=l[i].f6.size + uw (l.drop (i + 1)):=by
   rw [List.drop_eq_getElem_cons hi]
   simp only [uw,List.map_cons,List.sum_cons]
  by_cases h:a - (l[i].f6.size:Int) < 0
  ·refine ⟨-1,?_,by omega,by omega⟩
   refine Ev.step (fun k=>by rw [ld.l0]) ?_
   refine Ev.pos (by omega) (Ev.pos (by omega) ?_)
   rw [au hi]
   unfold qj.f
   rw [ag (by omega) (by omega),if_pos h]
   exact Ev.val (Ev.pos (by decide) (Ev.now _))
  ·obtain ⟨t,e1,e2,e3⟩:=ih (a - l[i].f6.size) (by omega) (by omega)
   refine ⟨t,?_,by omega,fun hh=>by have:=e3 hh;omega⟩
   refine Ev.step (fun k=>by rw [ld.l0]) ?_
   refine Ev.pos (by omega) (Ev.pos (by omega) ?_)
   rw [au hi]
   unfold qj.f
   rw [ag (by omega) (by omega),if_neg h]
   refine Ev.val (Ev.neg (by omega) ?_)
   rw [bg hi hl]
   exact e1
theorem YD (l:List Dl) (a:Int) (ha:0 ≤ a) (ha':a ≤ 1048576) (hl:l.length ≤ 9223372036854775807) (ht:∀ x ∈ l,x.f0.length ≤ 9223372036854775807∧∀ y ∈ x.f0,y.f6.size ≤ 9223372036854775807) :
  ∃ t,Ev (fun k=>Xc.f k l a) t∧t ≤ a∧(0 ≤ t→t + vS l=a):=by
 have key:=ni (ρ:=Unit) (r:=()) (n:=l.length) (fun i=>∀ a:Int,0 ≤ a→a ≤ 1048576→∃ t,Ev (fun k=>Xc.l0 k l a (i:Int)) t∧t ≤ a∧(0 ≤ t→t + ((l.drop i).map fun x=>DJ x.f0).sum=a)) ?_ ?_ 0 (by omega)
 ·unfold Xc.f
  rw [ag (by omega) (by omega)]
  by_cases h:a - (l.length:Int) < 0
  ·exact ⟨-1,Ev.pos h (Ev.now _),by omega,by omega⟩
  ·obtain ⟨t,e1,e2,e3⟩:=key (a - l.length) (by omega) (by omega)
   refine ⟨t,Ev.neg h e1,by omega,fun h0=>?_⟩
   have:=e3 h0
   rw [List.drop_zero] at this
   unfold vS
   omega
 ·intro a h0 h1
  refine ⟨a,?_,by omega,?_⟩
  ·refine Ev.step (fun k=>by rw [Xc.l0]) ?_
   exact Ev.neg (by omega) (Ev.now _)
  ·intro _
   rw [List.drop_length]
   simp
 ·intro i hi ih a h0 h1
  have hx:=ht l[i] (List.getElem_mem hi)
  have hd:((l.drop i).map fun x=>DJ x.f0).sum=DJ l[i].f0 + ((l.drop (i + 1)).map fun x=>DJ x.f0).sum:=by
   rw [List.drop_eq_getElem_cons hi]
   simp only [List.map_cons,List.sum_cons]
  obtain ⟨u,f1,f2,f3⟩:=XD l[i].f0 a h0 h1 hx.1 hx.2
  by_cases h:u < 0
  ·refine ⟨-1,?_,by omega,by omega⟩
   refine Ev.step (fun k=>by rw [Xc.l0]) ?_
   refine Ev.pos (by omega) (Ev.pos (by omega) ?_)
   rw [Sp hi]
   unfold Rf.f
   refine Ev.bind (Ev.bind f1 (Ev.pos h (Ev.now _))) ?_
   exact Ev.pos (by decide) (Ev.now _)
  ·obtain ⟨t,e1,e2,e3⟩:=ih u (by omega) (by omega)
   have:=f3 (by omega)
   refine ⟨t,?_,by omega,fun hh=>by have:=e3 hh;omega⟩
   refine Ev.step (fun k=>by rw [Xc.l0]) ?_
   refine Ev.pos (by omega) (Ev.pos (by omega) ?_)
   rw [Sp hi]
   unfold Rf.f
   refine Ev.bind (Ev.bind f1 (Ev.neg h (Ev.now _))) ?_
   refine Ev.neg (by omega) ?_
   rw [bg hi hl]
   exact e1
theorem bz {l:List Nat} {n:Nat} (h:n ∈ l):n ≤ l.sum:=by
 induction l with
 | nil=>cases h
 | cons a l ih =>
  rw [List.sum_cons]
  cases h with
  | head=>omega
  | tail _ h=>have:=ih h;omega
theorem yD {l:List Dl} {n:Nat} (h:vS l ≤ n):l.length ≤ n∧∀ x ∈ l,x.f0.length ≤ n:=by
 unfold vS at h
 refine ⟨by omega,fun x hx=>?_⟩
 have:DJ x.f0 ≤ (l.map fun x=>DJ x.f0).sum:=bz (List.mem_map.mpr ⟨x,hx,rfl⟩)
 unfold DJ at this h
 omega
theorem KF (x0:List Int) (x1 x2 x3:Int) (x4:List Dl) (a:Int) (ha:0 ≤ a) (ha':a ≤ 1048576) (h0:x0.length ≤ 9223372036854775807) (hl:x4.length ≤ 9223372036854775807) (ht:∀ x ∈ x4,x.f0.length ≤ 9223372036854775807∧∀ y ∈ x.f0,y.f6.size ≤ 9223372036854775807) :
  ∃ t,Ev (fun k=>Og.f k x0 x1 x2 x3 x4 a) t∧t ≤ a∧(0 ≤ t→t + x0.length + vS x4=a):=by
 obtain ⟨t,e1,e2,e3⟩:=mN x0 a ha ha' h0
 unfold Og.f
 rw [e1]
 simp only [Option.bind_some]
 by_cases ht':t < 0
 ·exact ⟨-1,Ev.pos ht' (Ev.now _),by omega,by omega⟩
 ·obtain ⟨u,f1,f2,f3⟩:=YD x4 t (by omega) (by omega) hl ht
  by_cases hu:u < 0
  ·exact ⟨-1,Ev.neg ht' (Ev.bind f1 (Ev.pos hu (Ev.now _))),by omega,by omega⟩
  ·exact ⟨u,Ev.neg ht' (Ev.bind f1 (Ev.neg hu (Ev.now _))),by omega,fun _=>by have:=e3 (by omega);have:=f3 (by omega);omega⟩
def Ng (x:Dl):Dh:=⟨x.f0.map vm,x.f1,x.f2,x.f3,x.f4⟩
theorem WD (l:List Dl) (hl:l.length ≤ 1048576) (hb:∀ x ∈ l,x.f0.length ≤ 1048576):Ev (fun k=>Sc.f k l) (l.map Ng):=by
 refine Ev.congr (f:=fun k=>Sc.l0 k l (List.replicate l.length lD) 0) (fun k=>?_) ?_
 ·unfold Sc.f
  rw [if_pos (by omega),if_pos (by omega)]
  rfl
 ·have key:=ni (r:=l.map Ng) (n:=l.length) (fun i=>Ev (fun k=>Sc.l0 k l ((l.map Ng).take i ++ List.replicate ((l.map Ng).length - i) lD) (i:Int)) (l.map Ng)) ?_ ?_ 0 (by omega)
  ·rw [DA,List.length_map] at key
   exact key
  ·refine Ev.step (fun k=>by rw [Sc.l0]) ?_
   refine Ev.neg (by omega) ?_
   have e:=wz (m:=l.map Ng) (z:=lD)
   rw [List.length_map] at e
   rw [List.length_map,e]
   exact Ev.now _
  ·intro i hi h
   refine Ev.step (fun k=>by rw [Sc.l0]) ?_
   refine Ev.pos (by omega) (Ev.pos (by omega) ?_)
   unfold Kg.f
   have hx:=hb l[i] (List.getElem_mem hi)
   rw [Sp hi]
   refine Ev.bind (Ev.bind (VD l[i].f0 (by omega)) (Ev.now _)) ?_
   refine Ev.pos (by simp;omega) ?_
   have hc:Ng l[i]=(l.map Ng).getD i lD:=by
    simp [List.getD_eq_getElem?_getD,hi]
   have hf:=uz (m:=l.map Ng) (z:=lD) (i:=i) (by rw [List.length_map];exact hi)
   rw [← hc] at hf
   rw [bg hi (by omega),Int.toNat_natCast]
   have e:=hf ▸ h
   exact e
theorem wm {l:List Dh} {i:Nat} (h:i < l.length):Ua l (i:Int)=l[i]:=by simp [Ua,List.getD_eq_getElem?_getD,h]
theorem Yz {l:List yf} {i:Nat} (h:i < l.length):Ea l (i:Int)=l[i]:=by simp [Ea,List.getD_eq_getElem?_getD,h]
theorem jE (l:List Dh) (hl:l.length ≤ 9223372036854775807) (hb:∀ x ∈ l,x.f0.length ≤ 9223372036854775807):Ev (fun k=>fc.f k l l) true:=by
 refine Ev.congr (f:=fun k=>fc.l0 k l l 0) (fun k=>?_) ?_
 ·unfold fc.f
  rw [if_pos rfl]
 ·refine ni (r:=true) (n:=l.length) (fun i=>Ev (fun k=>fc.l0 k l l (i:Int)) true) ?_ ?_ 0 (by omega)
  ·refine Ev.step (fun k=>by rw [fc.l0]) ?_
   exact Ev.neg (by omega) (Ev.now _)
  ·intro i hi h
   refine Ev.step (fun k=>by rw [fc.l0]) ?_
   refine Ev.pos (by omega) (Ev.pos (by omega) (Ev.pos (by omega) ?_))
   unfold pg.f
   rw [wm hi]
   refine Ev.bind (Ev.bind (iE l[i].f0 (hb _ (List.getElem_mem hi))) (Ev.pos rfl (Ev.pos rfl (Ev.pos rfl (Ev.pos rfl (Ev.pos rfl (Ev.now _))))))) (Ev.pos rfl ?_)
   rw [bg hi hl]
   exact h
theorem JF (x0:List Int) (x1 x2 x3:Int) (x4:List Dl) (h0:x0.length ≤ 1048576) (hl:x4.length ≤ 1048576) (hb:∀ x ∈ x4,x.f0.length ≤ 1048576):Ev (fun k=>ng.f k x0 x1 x2 x3 x4) (x0,x1,x2,x3,x4.map Ng):=by
 unfold ng.f
 exact Ev.bind (aK x0 (by omega)) (Ev.bind (WD x4 hl hb) (Ev.now _))
theorem PF (x0:List Int) (x1 x2 x3:Int) (x4:List Dh) (h0:x0.length ≤ 9223372036854775807) (hl:x4.length ≤ 9223372036854775807) (hb:∀ x ∈ x4,x.f0.length ≤ 9223372036854775807):Ev (fun k=>gh.f k x0 x1 x2 x3 x4 x0 x1 x2 x3 x4) true:=by
 unfold gh.f
 refine Ev.bind (cK x0 h0) ?_
 refine Ev.pos rfl (Ev.pos rfl (Ev.pos rfl (Ev.pos rfl ?_)))
 exact Ev.bind (jE x4 hl hb) (Ev.pos rfl (Ev.now _))
attribute [local go_sem] Jk Gk ym xm Gj Fj Ik Fk
def Gd.l0:Nat→List ByteArray→ByteArray→Int→Option (Bool)
 | 0,_,_,_=>none
 | k + 1,x0,x1,x5=>if x5 < (x0.length:Int) then (if 0 ≤ x5 then (if (xl ByteArray.empty x0 x5).toList=x1.toList then (some true) else (Gd.l0 k x0 x1 (wrap64 (x5 + 1)))) else (none)) else (some false)
def Gd.f (k:Nat) (l0:List ByteArray) (a1:ByteArray):Option (Bool):=Gd.l0 k l0 a1 0
theorem Gd.Qd:∀ k,(∀ y0 y1 y2,Nb (Gd.l0 k y0 y1 y2) (Gd.l0 (k + 1) y0 y1 y2))
 | 0=>fun _ _ _ r h=>by simp [Gd.l0] at h
 | k + 1=>by
  have Ff:=Gd.Qd k
  ·intro y0 y1 y2
   unfold Gd.l0
   repeat' first
   | (with_reducible exact Ff _ _ _)
   | (with_reducible exact Nb.refl _)
   | (with_reducible exact Nb.none _)
   | (with_reducible refine Nb.ite ?_ ?_)
   | (with_reducible refine Nb.bind ?_ (fun _=>?_))
   | exact Ff _ _ _
   | exact Nb.none _
   | refine Nb.ite ?_ ?_
   | refine Nb.bind ?_ (fun _=>?_)
theorem Gd.mono:∀ a0 a1 k,Nb (Gd.f k a0 a1) (Gd.f (k + 1) a0 a1):=by
 intro a0 a1 k
 have Ff:=Gd.Qd k
 unfold Gd.f
 repeat' first
   | (with_reducible exact Ff _ _ _)
   | (with_reducible exact Nb.refl _)
   | (with_reducible exact Nb.none _)
   | (with_reducible refine Nb.ite ?_ ?_)
   | (with_reducible refine Nb.bind ?_ (fun _=>?_))
   | exact Ff _ _ _
   | exact Nb.none _
   | refine Nb.ite ?_ ?_
   | refine Nb.bind ?_ (fun _=>?_)
theorem Gd.calls (k:Nat) (A0:Option Addr) (c0:Nat) (l0:List ByteArray) (a1:ByteArray) (r:Bool) (w:World) (hr0:Kd.C Kd.string w A0 l0.length l0) (hc0:l0.length ≤ c0) (h:Gd.f k l0 a1=some r) :
  Calls Try.prog 128 #[.slice A0 l0.length c0,.string a1] w fun e w'=>e = .returned (.bool r)∧jc w w':=by
 have Bh:=ja.mk hr0
 have Rw:=ja.mk hc0
 clear hr0 hc0
 have H:(Gd.l0 k l0 a1 0)=some r:=h
 clear h
 have H':=ja.mk H
 clear H
 go_enter Try.func128,Try.ntmps128
 go_wp2
 go_loopg [5] k (fun kq v5 w'=>∃ (Ca:Int),v5 = .int .i64 Ca∧ja (Gd.l0 kq l0 a1 Ca=some r)∧ja (kq ≤ k)∧jc w w')
 case atStart=>exact ⟨(0),(by first|rfl|(simp;done)|(simp [*];done)),H',⟨Nat.le_refl _⟩,by repeat (first|exact jc.refl _|apply jc.step)⟩
 case round =>
  clear H'
  try clear c1
  try clear p2
  (try clear HA)
  (try clear Ig)
  obtain ⟨Ca,rfl,HA,Ig,⟨m1,rfl⟩⟩:=hrel
  cases gk with
  | zero=>exact absurd HA.out (by simp [Gd.l0])
  | succ k1 =>
   have H:=HA.out
   clear HA
   simp only [Gd.l0] at H
   by_cases c3:Ca < (l0.length:Int)
   ·rw [if_pos c3] at H
    have Jh:decide (Ca < (l0.length:Int))=true:=decide_eq_true c3
    clear c3
    by_cases c4:0 ≤ Ca
    ·rw [if_pos c4] at H
     have si:decide (0 ≤ Ca)=true:=decide_eq_true c4
     clear c4
     by_cases c5:(xl ByteArray.empty l0 Ca).toList=a1.toList
     ·rw [if_pos c5] at H
      have Ok:((xl ByteArray.empty l0 Ca).toList == a1.toList)=true:=beq_iff_eq.mpr c5
      have Yp:((xl ByteArray.empty l0 Ca).toList != a1.toList)=false:=bne_eq_false_iff_eq.mpr c5
      clear c5
      obtain rfl:=Option.some.inj H
      have Vd:0 ≤ (Ca:Int):=of_decide_eq_true (by first|(with_reducible assumption)|assumption)
      have Ud:Ca < (l0.length:Int):=of_decide_eq_true (by first|(with_reducible assumption)|assumption)
      obtain ⟨ic,Eg,Ob⟩:=Kd.Pt Bh.out Ca Vd Ud
      cases Eg
      replace Vd:=eq_true Vd
      replace Ud:=eq_true Ud
      go_wp2
      go_ret
      exact ⟨by first|rfl|(simp;done)|(simp [*];done),by repeat (first|exact jc.refl _|apply jc.step)⟩
     ·rw [if_neg c5] at H
      have Ok:((xl ByteArray.empty l0 Ca).toList == a1.toList)=false:=beq_eq_false_iff_ne.mpr c5
      have Yp:((xl ByteArray.empty l0 Ca).toList != a1.toList)=true:=bne_iff_ne.mpr c5
      have H':=ja.mk H
      clear H
      have Vd:0 ≤ (Ca:Int):=of_decide_eq_true (by first|(with_reducible assumption)|assumption)
      have Ud:Ca < (l0.length:Int):=of_decide_eq_true (by first|(with_reducible assumption)|assumption)
      obtain ⟨ic,Eg,Ob⟩:=Kd.Pt Bh.out Ca Vd Ud
      cases Eg
      replace Vd:=eq_true Vd
      replace Ud:=eq_true Ud
      go_wp2
      go_roundg k1
      case measure=>have:=Ig.out;omega
      case rel=>exact ⟨(wrap64 (Ca + 1)),(by first|rfl|(simp;done)|(simp [*];done)),H',⟨by have:=Ig.out;omega⟩,by repeat (first|exact jc.refl _|apply jc.step)⟩
    ·rw [if_neg c4] at H
     exact absurd H (by simp)
   ·rw [if_neg c3] at H
    have Jh:decide (Ca < (l0.length:Int))=false:=decide_eq_false c3
    clear c3
    obtain rfl:=Option.some.inj H
    go_wp2
    go_ret
    exact ⟨by first|rfl|(simp;done)|(simp [*];done),by repeat (first|exact jc.refl _|apply jc.step)⟩
def Za.f (a0:Int) (a1:Int) (a2:Int):Option (Bool):=if a0 ≥ a1 then (some (decide (a0 ≤ a2))) else (some false)
theorem Za.calls (a0:Int) (a1:Int) (a2:Int) (r:Bool) (w:World) (h:Za.f a0 a1 a2=some r) :
  Calls Try.prog 54 #[.int .i64 a0,.int .i64 a1,.int .i64 a2] w fun e w'=>e = .returned (.bool r)∧jc w w':=by
 have H:(if a0 ≥ a1 then (some (decide (a0 ≤ a2))) else (some false))=some r:=h
 clear h
 by_cases c4:a0 ≥ a1
 ·rw [if_pos c4] at H
  have si:decide (a1 ≤ a0)=true:=decide_eq_true c4
  clear c4
  obtain rfl:=Option.some.inj H
  go_enter Try.func54,Try.ntmps54
  go_wp2
  go_ret
  exact ⟨by first|rfl|(simp;done)|(simp [*];done),by repeat (first|exact jc.refl _|apply jc.step)⟩
 ·rw [if_neg c4] at H
  have si:decide (a1 ≤ a0)=false:=decide_eq_false c4
  clear c4
  obtain rfl:=Option.some.inj H
  go_enter Try.func54,Try.ntmps54
  go_wp2
  go_ret
  exact ⟨by first|rfl|(simp;done)|(simp [*];done),by repeat (first|exact jc.refl _|apply jc.step)⟩
mutual
def Xa.j0:Nat→Bool→Bool→Bool→Bool→List Int→Int→Int→Int→List (Dh)→Int→Int→Int→Int→Int→Int→ByteArray→Option (Bool)
 | 0,_,_,_,_,_,_,_,_,_,_,_,_,_,_,_,_=>none
 | k + 1,x5,x6,x7,x8,x102000,x102001,x102002,x102003,x102004,x103000,x103001,x103002,x103003,x103004,x103005,x103006=>if x103000=2 then (if x103000=4 then (Xa.j1 k x5 x6 x7 x8 false x102000 x102001 x102002 x102003 x102004 x103000 x103001 x103002 x103003 x103004 x103005 x103006) else (Xa.j1 k x5 x6 x7 x8 (x103004 != 0) x102000 x102001 x102002 x102003 x102004 x103000 x103001 x103002 x103003 x103004 x103005 x103006)) else (if x103006.toList=([]:List UInt8) then (if x103000=4 then (Xa.j1 k x5 x6 x7 x8 false x102000 x102001 x102002 x102003 x102004 x103000 x103001 x103002 x103003 x103004 x103005 x103006) else (Xa.j1 k x5 x6 x7 x8 (x103004 != 0) x102000 x102001 x102002 x102003 x102004 x103000 x103001 x103002 x103003 x103004 x103005 x103006)) else (Xa.j1 k x5 x6 x7 x8 true x102000 x102001 x102002 x102003 x102004 x103000 x103001 x103002 x103003 x103004 x103005 x103006))
def Xa.j1:Nat→Bool→Bool→Bool→Bool→Bool→List Int→Int→Int→Int→List (Dh)→Int→Int→Int→Int→Int→Int→ByteArray→Option (Bool)
 | 0,_,_,_,_,_,_,_,_,_,_,_,_,_,_,_,_,_=>none
 | k + 1,x5,x6,x7,x8,x62,x102000,x102001,x102002,x102003,x102004,x103000,x103001,x103002,x103003,x103004,x103005,x103006=>if x62=true then (some false) else (if x103000=0 then (if x5=true then (if x103002=0 then (some (x103003 == 0)) else (some false)) else (some false)) else (if x103000=1 then (if x5=true then (if x6=true then (if x103003=0 then (some (x103005 == 0)) else (some false)) else (some false)) else (some false)) else (if x103000=2 then (if x5=true then (if x6=true then (if x7=true then (if x103005=0 then ((Gd.f k (([(⟨#[61,61]⟩:ByteArray),(⟨#[60]⟩:ByteArray),(⟨#[38]⟩:ByteArray),(⟨#[43]⟩:ByteArray),(⟨#[45]⟩:ByteArray),(⟨#[42]⟩:ByteArray)]:List ByteArray)) x103006).bind fun t111=>(some t111)) else (some false)) else (some false)) else (some false)) else (some false)) else (if x103000=3 then (if x5=true then (some x8) else (some false)) else (if x103000=4 then (if x103001=0 then (if x8=true then ((Za.f x103004 0 (wrap64 (x102003 - 1))).bind fun t112=>(some t112)) else (some false)) else (some false)) else (if x103000=5 then (if x5=true then (if x103002=0 then (if x103003=0 then (some (x103005 == 0)) else (some false)) else (some false)) else (some false)) else (if x103000=6 then (if x103001=0 then (if x6=true then (if x103003=0 then (some (x103005 == 0)) else (some false)) else (some false)) else (some false)) else (some false))))))))
end
def Xa.f (k:Nat) (Ta:List Int) (Pa:Int) (Oa:Int) (Ma:Int) (Ra:List (Dh)) (nc:Int) (Lb:Int) (Rb:Int) (Sb:Int) (Uc:Int) (fe:Int) (Je:ByteArray):Option (Bool):=(Za.f Lb 0 (wrap64 (Ma - 1))).bind fun t103=>((Za.f Rb 0 (wrap64 (Ma - 1))).bind fun t104=>((Za.f Sb 0 (wrap64 (Ma - 1))).bind fun t105=>(if t104=true then (if t105=true then ((Za.f fe 0 (wrap64 ((Ta.length:Int) - 1))).bind fun t106=>(Xa.j0 k t103 t104 t105 t106 Ta Pa Oa Ma Ra nc Lb Rb Sb Uc fe Je)) else (Xa.j0 k t103 t104 t105 false Ta Pa Oa Ma Ra nc Lb Rb Sb Uc fe Je)) else (if Rb=(-1) then (if t105=true then ((Za.f fe 0 (wrap64 ((Ta.length:Int) - 1))).bind fun t107=>(Xa.j0 k t103 t104 t105 t107 Ta Pa Oa Ma Ra nc Lb Rb Sb Uc fe Je)) else (Xa.j0 k t103 t104 t105 false Ta Pa Oa Ma Ra nc Lb Rb Sb Uc fe Je)) else (Xa.j0 k t103 t104 t105 false Ta Pa Oa Ma Ra nc Lb Rb Sb Uc fe Je)))))
theorem Xa.Qd:∀ k,(∀ y0 y1 y2 y3 y4 y5 y6 y7 y8 y9 rK oS nS mS lS kS,Nb (Xa.j0 k y0 y1 y2 y3 y4 y5 y6 y7 y8 y9 rK oS nS mS lS kS) (Xa.j0 (k + 1) y0 y1 y2 y3 y4 y5 y6 y7 y8 y9 rK oS nS mS lS kS))∧(∀ y0 y1 y2 y3 y4 y5 y6 y7 y8 y9 rK oS nS mS lS kS y16,Nb (Xa.j1 k y0 y1 y2 y3 y4 y5 y6 y7 y8 y9 rK oS nS mS lS kS y16) (Xa.j1 (k + 1) y0 y1 y2 y3 y4 y5 y6 y7 y8 y9 rK oS nS mS lS kS y16))
 | 0=>⟨fun _ _ _ _ _ _ _ _ _ _ _ _ _ _ _ _ r h=>by simp [Xa.j0] at h,fun _ _ _ _ _ _ _ _ _ _ _ _ _ _ _ _ _ r h=>by simp [Xa.j1] at h⟩
 | k + 1=>by
  obtain ⟨Ff,ih1⟩:=Xa.Qd k
  refine ⟨?_,?_⟩
  ·intro y0 y1 y2 y3 y4 y5 y6 y7 y8 y9 rK oS nS mS lS kS
   unfold Xa.j0
   repeat' first
   | (with_reducible exact Ff _ _ _ _ _ _ _ _ _ _ _ _ _ _ _ _)
   | (with_reducible exact ih1 _ _ _ _ _ _ _ _ _ _ _ _ _ _ _ _ _)
   | (with_reducible exact Gd.mono _ _ _)
   | (with_reducible exact Nb.refl _)
   | (with_reducible exact Nb.none _)
   | (with_reducible refine Nb.ite ?_ ?_)
   | (with_reducible refine Nb.bind ?_ (fun _=>?_))
   | exact Ff _ _ _ _ _ _ _ _ _ _ _ _ _ _ _ _
   | exact ih1 _ _ _ _ _ _ _ _ _ _ _ _ _ _ _ _ _
   | exact Gd.mono _ _ _
   | exact Nb.none _
   | refine Nb.ite ?_ ?_
   | refine Nb.bind ?_ (fun _=>?_)
  ·intro y0 y1 y2 y3 y4 y5 y6 y7 y8 y9 rK oS nS mS lS kS y16
   unfold Xa.j1
   repeat' first
   | (with_reducible exact Ff _ _ _ _ _ _ _ _ _ _ _ _ _ _ _ _)
   | (with_reducible exact ih1 _ _ _ _ _ _ _ _ _ _ _ _ _ _ _ _ _)
   | (with_reducible exact Gd.mono _ _ _)
   | (with_reducible exact Nb.refl _)
   | (with_reducible exact Nb.none _)
   | (with_reducible refine Nb.ite ?_ ?_)
   | (with_reducible refine Nb.bind ?_ (fun _=>?_))
   | exact Ff _ _ _ _ _ _ _ _ _ _ _ _ _ _ _ _
   | exact ih1 _ _ _ _ _ _ _ _ _ _ _ _ _ _ _ _ _
   | exact Gd.mono _ _ _
   | exact Nb.none _
   | refine Nb.ite ?_ ?_
   | refine Nb.bind ?_ (fun _=>?_)
theorem Xa.mono:∀ a0 a1 a2 a3 a4 a5 a6 a7 a8 a9 a10 a11 k,Nb (Xa.f k a0 a1 a2 a3 a4 a5 a6 a7 a8 a9 a10 a11) (Xa.f (k + 1) a0 a1 a2 a3 a4 a5 a6 a7 a8 a9 a10 a11):=by
 intro a0 a1 a2 a3 a4 a5 a6 a7 a8 a9 a10 a11 k
 obtain ⟨Ff,ih1⟩:=Xa.Qd k
 unfold Xa.f
 repeat' first
   | (with_reducible exact Ff _ _ _ _ _ _ _ _ _ _ _ _ _ _ _ _)
   | (with_reducible exact ih1 _ _ _ _ _ _ _ _ _ _ _ _ _ _ _ _ _)
   | (with_reducible exact Gd.mono _ _ _)
   | (with_reducible exact Nb.refl _)
   | (with_reducible exact Nb.none _)
   | (with_reducible refine Nb.ite ?_ ?_)
   | (with_reducible refine Nb.bind ?_ (fun _=>?_))
   | exact Ff _ _ _ _ _ _ _ _ _ _ _ _ _ _ _ _
   | exact ih1 _ _ _ _ _ _ _ _ _ _ _ _ _ _ _ _ _
   | exact Gd.mono _ _ _
   | exact Nb.none _
   | refine Nb.ite ?_ ?_
   | refine Nb.bind ?_ (fun _=>?_)
theorem Xa.calls (k:Nat) (Eb:Option Addr) (Db:Nat) (Ta:List Int) (Pa:Int) (Oa:Int) (Ma:Int) (yc:Option Addr) (Zb:Nat) (Ra:List (Dh)) (nc:Int) (Lb:Int) (Rb:Int) (Sb:Int) (Uc:Int) (fe:Int) (Je:ByteArray) (r:Bool) (w:World) (Kf:Kd.C (Kd.int .i64) w Eb Ta.length Ta) (Gf:Ta.length ≤ Db) (Bg:Kd.C Tp w yc Ra.length Ra) (Jg:Ra.length ≤ Zb) (h:Xa.f k Ta Pa Oa Ma Ra nc Lb Rb Sb Uc fe Je=some r) :
  Calls Try.prog 111 #[.agg #[.slice Eb Ta.length Db,.int .i64 Pa,.int .i64 Oa,.int .i64 Ma,.slice yc Ra.length Zb],.agg #[.int .i64 nc,.int .i64 Lb,.int .i64 Rb,.int .i64 Sb,.int .i64 Uc,.int .i64 fe,.string Je]] w fun e w'=>e = .returned (.bool r)∧Below w.heap.size w w':=by
 have vB:=Try.underlying30
 have MD:=Try.underlying70
 have Uf:=ja.mk Kf
 have ig:=ja.mk Gf
 clear Kf Gf
 have Zg:=ja.mk Bg
 have Li:=ja.mk Jg
 clear Bg Jg
 have HB:=ja.mk (Below.refl w.heap.size w)
 have H:((Za.f Lb 0 (wrap64 (Ma - 1))).bind fun t103=>((Za.f Rb 0 (wrap64 (Ma - 1))).bind fun t104=>((Za.f Sb 0 (wrap64 (Ma - 1))).bind fun t105=>(if t104=true then (if t105=true then ((Za.f fe 0 (wrap64 ((Ta.length:Int) - 1))).bind fun t106=>(Xa.j0 k t103 t104 t105 t106 Ta Pa Oa Ma Ra nc Lb Rb Sb Uc fe Je)) else (Xa.j0 k t103 t104 t105 false Ta Pa Oa Ma Ra nc Lb Rb Sb Uc fe Je)) else (if Rb=(-1) then (if t105=true then ((Za.f fe 0 (wrap64 ((Ta.length:Int) - 1))).bind fun t107=>(Xa.j0 k t103 t104 t105 t107 Ta Pa Oa Ma Ra nc Lb Rb Sb Uc fe Je)) else (Xa.j0 k t103 t104 t105 false Ta Pa Oa Ma Ra nc Lb Rb Sb Uc fe Je)) else (Xa.j0 k t103 t104 t105 false Ta Pa Oa Ma Ra nc Lb Rb Sb Uc fe Je))))))=some r:=h
 clear h
 replace H:=Option.bind_eq_some_iff.mp H
 obtain ⟨t103,tw,H⟩:=H
 replace H:((Za.f Rb 0 (wrap64 (Ma - 1))).bind fun t104=>((Za.f Sb 0 (wrap64 (Ma - 1))).bind fun t105=>(if t104=true then (if t105=true then ((Za.f fe 0 (wrap64 ((Ta.length:Int) - 1))).bind fun t106=>(Xa.j0 k t103 t104 t105 t106 Ta Pa Oa Ma Ra nc Lb Rb Sb Uc fe Je)) else (Xa.j0 k t103 t104 t105 false Ta Pa Oa Ma Ra nc Lb Rb Sb Uc fe Je)) else (if Rb=(-1) then (if t105=true then ((Za.f fe 0 (wrap64 ((Ta.length:Int) - 1))).bind fun t107=>(Xa.j0 k t103 t104 t105 t107 Ta Pa Oa Ma Ra nc Lb Rb Sb Uc fe Je)) else (Xa.j0 k t103 t104 t105 false Ta Pa Oa Ma Ra nc Lb Rb Sb Uc fe Je)) else (Xa.j0 k t103 t104 t105 false Ta Pa Oa Ma Ra nc Lb Rb Sb Uc fe Je)))))=some r:=H
 have A3:=ja.mk tw
 clear tw
 replace H:=Option.bind_eq_some_iff.mp H
 obtain ⟨t104,N4,H⟩:=H
 replace H:((Za.f Sb 0 (wrap64 (Ma - 1))).bind fun t105=>(if t104=true then (if t105=true then ((Za.f fe 0 (wrap64 ((Ta.length:Int) - 1))).bind fun t106=>(Xa.j0 k t103 t104 t105 t106 Ta Pa Oa Ma Ra nc Lb Rb Sb Uc fe Je)) else (Xa.j0 k t103 t104 t105 false Ta Pa Oa Ma Ra nc Lb Rb Sb Uc fe Je)) else (if Rb=(-1) then (if t105=true then ((Za.f fe 0 (wrap64 ((Ta.length:Int) - 1))).bind fun t107=>(Xa.j0 k t103 t104 t105 t107 Ta Pa Oa Ma Ra nc Lb Rb Sb Uc fe Je)) else (Xa.j0 k t103 t104 t105 false Ta Pa Oa Ma Ra nc Lb Rb Sb Uc fe Je)) else (Xa.j0 k t103 t104 t105 false Ta Pa Oa Ma Ra nc Lb Rb Sb Uc fe Je))))=some r:=H
 have A4:=ja.mk N4
 clear N4
 replace H:=Option.bind_eq_some_iff.mp H
 obtain ⟨t105,OM,H⟩:=H
 replace H:(if t104=true then (if t105=true then ((Za.f fe 0 (wrap64 ((Ta.length:Int) - 1))).bind fun t106=>(Xa.j0 k t103 t104 t105 t106 Ta Pa Oa Ma Ra nc Lb Rb Sb Uc fe Je)) else (Xa.j0 k t103 t104 t105 false Ta Pa Oa Ma Ra nc Lb Rb Sb Uc fe Je)) else (if Rb=(-1) then (if t105=true then ((Za.f fe 0 (wrap64 ((Ta.length:Int) - 1))).bind fun t107=>(Xa.j0 k t103 t104 t105 t107 Ta Pa Oa Ma Ra nc Lb Rb Sb Uc fe Je)) else (Xa.j0 k t103 t104 t105 false Ta Pa Oa Ma Ra nc Lb Rb Sb Uc fe Je)) else (Xa.j0 k t103 t104 t105 false Ta Pa Oa Ma Ra nc Lb Rb Sb Uc fe Je)))=some r:=H
 have A5:=ja.mk OM
 clear OM
 have HC6:=ja.mk H
 clear H
 go_enter Try.func111,Try.ntmps111
 go_upto_region 4 with (first|((with_reducible refine Pb (N:=2) rfl ?_);(try (refine Wg (by rfl) ?_;dsimp only));refine Kb ?hg (N:=2) ?hd (cs:=#[.slice Eb Ta.length Db,.int .i64 Pa,.int .i64 Oa,.int .i64 Ma,.slice yc Ra.length Zb]) (t:=30) ?hr ?_;(case hd=>rfl);(case hg=>rfl);(case hr=>first|(go_simp;done)|(go_simp;rfl));intro Da hg w7 Yb hb;have Qb:=ja.mk (Na (by repeat (first|(with_reducible first|exact HB.out|apply qa|apply ia|apply ua)|exact HB.out)) hb);have uc:=ja.mk (Yb);have Qc:=ja.mk ((by rw [hg];exact (Qa (by repeat (first|(with_reducible first|exact HB.out|apply qa|apply ia|apply ua)|exact HB.out))):w.heap.size ≤ Da));have Td:=ja.mk ((by rw [hg];exact (Qa (by repeat (first|(with_reducible first|exact HB.out|apply qa|apply ia|apply ua)|exact HB.out))):w.heap.size ≤ Da));clear HB;have HB:=Qb;have za:=uc;have Vf:=Qc;have Wa:=Td;clear Qb uc Qc Td hb Yb hg)|((with_reducible refine Pb (N:=3) rfl ?_);(try (refine Wg (by rfl) ?_;dsimp only));refine Kb ?hg (N:=3) ?hd (cs:=#[.int .i64 nc,.int .i64 Lb,.int .i64 Rb,.int .i64 Sb,.int .i64 Uc,.int .i64 fe,.string Je]) (t:=70) ?hr ?_;(case hd=>rfl);(case hg=>rfl);(case hr=>first|(go_simp;done)|(go_simp;rfl));intro Ja hg w8 Yb hb;have Qb:=ja.mk (Ya (g:=Da) (o:=.cells #[.slice Eb Ta.length Db,.int .i64 Pa,.int .i64 Oa,.int .i64 Ma,.slice yc Ra.length Zb] 30 (0,0)) (by (with_reducible repeat (first|refine Ga ?_ _|refine Ia ?_|refine Fa ?_ _));exact za.out) hb);have uc:=ja.mk (Na (by repeat (first|(with_reducible first|exact HB.out|apply qa|apply ia|apply ua|refine Aa ?_ Wa.out)|exact HB.out)) hb);have Qc:=ja.mk (Yb);have Td:=ja.mk ((by rw [hg];exact (Qa (by repeat (first|(with_reducible first|exact HB.out|apply qa|apply ia|apply ua|refine Aa ?_ Wa.out)|exact HB.out))):w.heap.size ≤ Ja));have dh:=ja.mk ((by rw [hg];exact (Qa (by repeat (first|(with_reducible first|exact HB.out|apply qa|apply ia|apply ua|refine Aa ?_ Wa.out)|exact HB.out))):w.heap.size ≤ Ja));have Eh:=ja.mk ((by rw [hg];exact Nat.ne_of_lt (Pc (g:=Da) (o:=.cells #[.slice Eb Ta.length Db,.int .i64 Pa,.int .i64 Oa,.int .i64 Ma,.slice yc Ra.length Zb] 30 (0,0)) (by (with_reducible repeat (first|refine Ga ?_ _|refine Ia ?_|refine Fa ?_ _));exact za.out)):Da ≠ Ja));have Kh:=ja.mk ((by rw [hg];exact Nat.ne_of_gt (Pc (g:=Da) (o:=.cells #[.slice Eb Ta.length Db,.int .i64 Pa,.int .i64 Oa,.int .i64 Ma,.slice yc Ra.length Zb] 30 (0,0)) (by (with_reducible repeat (first|refine Ga ?_ _|refine Ia ?_|refine Fa ?_ _));exact za.out)):Ja ≠ Da));clear za HB;have za:=Qb;have HB:=uc;have Ba:=Qc;have Ci:=Td;have Dc:=dh;have qb:=Eh;have mb:=Kh;clear Qb uc Qc Td dh Eh Kh hb Yb hg;have kT:=mb.out;have jT:=qb.out;have Ak:w8.cell? ⟨Ja,0,none⟩=some (.int .i64 nc):=(ga Ba.out 0).trans rfl;have zk:w8.cell? ⟨Ja,1,none⟩=some (.int .i64 Lb):=(ga Ba.out 1).trans rfl;have xk:w8.cell? ⟨Ja,2,none⟩=some (.int .i64 Rb):=(ga Ba.out 2).trans rfl;have wk:w8.cell? ⟨Ja,3,none⟩=some (.int .i64 Sb):=(ga Ba.out 3).trans rfl;have jl:w8.cell? ⟨Ja,4,none⟩=some (.int .i64 Uc):=(ga Ba.out 4).trans rfl;have TC:w8.cell? ⟨Ja,5,none⟩=some (.int .i64 fe):=(ga Ba.out 5).trans rfl;have SC:w8.cell? ⟨Ja,6,none⟩=some (.string Je):=(ga Ba.out 6).trans rfl;have vk:=aa Ba.out 0;have uk:=aa Ba.out 1;have qk:=aa Ba.out 2;have nk:=aa Ba.out 3;have Wk:=aa Ba.out 4;have eC:=aa Ba.out 5;have cC:=aa Ba.out 6;have cl:w8.cell? ⟨Da,0,none⟩=some (.slice Eb Ta.length Db):=(ga za.out 0).trans rfl;have Zk:w8.cell? ⟨Da,1,none⟩=some (.int .i64 Pa):=(ga za.out 1).trans rfl;have Sr:w8.cell? ⟨Da,2,none⟩=some (.int .i64 Oa):=(ga za.out 2).trans rfl;have Qr:w8.cell? ⟨Da,3,none⟩=some (.int .i64 Ma):=(ga za.out 3).trans rfl;have Nt:w8.cell? ⟨Da,4,none⟩=some (.slice yc Ra.length Zb):=(ga za.out 4).trans rfl;have Vk:=aa za.out 0;have Uk:=aa za.out 1;have er:=aa za.out 2;have dr:=aa za.out 3;have Et:=aa za.out 4)|((with_reducible refine xb (f:=54) rfl ?_);refine qd (some 14) rfl rfl Try.func54 (by kernel_rfl) rfl #[.int .i64 Lb,.int .i64 0,.int .i64 (wrap64 (Ma - 1))] rfl (by (try simp only [List.map_toArray,List.map_cons,List.map_nil]);first|done|rfl|(simp only [List.length_drop,List.length_take];rfl)) ?_;(with_reducible refine (Za.calls Lb 0 (wrap64 (Ma - 1)) t103 _ A3.out).mono ?_);rintro e w' ⟨rfl,⟨nd,rfl⟩⟩;refine ⟨_,rfl,?_⟩)|((with_reducible refine xb (f:=54) rfl ?_);refine qd (some 20) rfl rfl Try.func54 (by kernel_rfl) rfl #[.int .i64 Rb,.int .i64 0,.int .i64 (wrap64 (Ma - 1))] rfl (by (try simp only [List.map_toArray,List.map_cons,List.map_nil]);first|done|rfl|(simp only [List.length_drop,List.length_take];rfl)) ?_;(with_reducible refine (Za.calls Rb 0 (wrap64 (Ma - 1)) t104 _ A4.out).mono ?_);rintro e w' ⟨rfl,⟨nd,rfl⟩⟩;refine ⟨_,rfl,?_⟩)|((with_reducible refine xb (f:=54) rfl ?_);refine qd (some 26) rfl rfl Try.func54 (by kernel_rfl) rfl #[.int .i64 Sb,.int .i64 0,.int .i64 (wrap64 (Ma - 1))] rfl (by (try simp only [List.map_toArray,List.map_cons,List.map_nil]);first|done|rfl|(simp only [List.length_drop,List.length_take];rfl)) ?_;(with_reducible refine (Za.calls Sb 0 (wrap64 (Ma - 1)) t105 _ A5.out).mono ?_);rintro e w' ⟨rfl,⟨nd,rfl⟩⟩;refine ⟨_,rfl,?_⟩))
 (try simp only [Act.put,List.setIfInBounds_toArray,List.set_cons_zero,List.set_cons_succ])
 go_cut [8] (fun v8 wc=>∃ (kq:Nat) (tD:Bool),v8 = .bool tD∧ja (Xa.j0 kq t103 t104 t105 tD Ta Pa Oa Ma Ra nc Lb Rb Sb Uc fe Je=some r)∧ja (kq ≤ k)∧ja (wc.heap[Da]? = some (.cells #[(.slice Eb Ta.length Db),.int .i64 Pa,.int .i64 Oa,.int .i64 Ma,(.slice yc Ra.length Zb)] 30 (0,0)))∧ja (wc.heap[Ja]? = some (.cells #[.int .i64 nc,.int .i64 Lb,.int .i64 Rb,.int .i64 Sb,.int .i64 Uc,.int .i64 fe,.string Je] 70 (0,0)))∧ja (Below w.heap.size w wc))
 case first =>
  have H:=HC6.out
  clear HC6
  by_cases c12:t104=true
  ·subst c12
   have H1:(if t105=true then ((Za.f fe 0 (wrap64 ((Ta.length:Int) - 1))).bind fun t106=>(Xa.j0 k t103 true t105 t106 Ta Pa Oa Ma Ra nc Lb Rb Sb Uc fe Je)) else (Xa.j0 k t103 true t105 false Ta Pa Oa Ma Ra nc Lb Rb Sb Uc fe Je))=some r:=by rw [if_pos rfl] at H;exact H
   clear H
   have H:=H1
   clear H1
   by_cases c13:t105=true
   ·subst c13
    have H1:((Za.f fe 0 (wrap64 ((Ta.length:Int) - 1))).bind fun t106=>(Xa.j0 k t103 true true t106 Ta Pa Oa Ma Ra nc Lb Rb Sb Uc fe Je))=some r:=by rw [if_pos rfl] at H;exact H
    clear H
    have H:=H1
    clear H1
    replace H:=Option.bind_eq_some_iff.mp H
    obtain ⟨t106,e5,H⟩:=H
    replace H:(Xa.j0 k t103 true true t106 Ta Pa Oa Ma Ra nc Lb Rb Sb Uc fe Je)=some r:=H
    have A14:=ja.mk e5
    clear e5
    have H':=ja.mk H
    clear H
    have PW:=mb.out
    have xW:=qb.out
    have Em:w8.cell? ⟨Ja,0,none⟩=some (.int .i64 nc):=(ga Ba.out 0).trans rfl
    have Dm:w8.cell? ⟨Ja,1,none⟩=some (.int .i64 Lb):=(ga Ba.out 1).trans rfl
    have Qv:w8.cell? ⟨Ja,2,none⟩=some (.int .i64 Rb):=(ga Ba.out 2).trans rfl
    have Pv:w8.cell? ⟨Ja,3,none⟩=some (.int .i64 Sb):=(ga Ba.out 3).trans rfl
    have Gy:w8.cell? ⟨Ja,4,none⟩=some (.int .i64 Uc):=(ga Ba.out 4).trans rfl
    have WI:w8.cell? ⟨Ja,5,none⟩=some (.int .i64 fe):=(ga Ba.out 5).trans rfl
    have VI:w8.cell? ⟨Ja,6,none⟩=some (.string Je):=(ga Ba.out 6).trans rfl
    have Cm:=aa Ba.out 0
    have Bm:=aa Ba.out 1
    have Zu:=aa Ba.out 2
    have Yu:=aa Ba.out 3
    have Zx:=aa Ba.out 4
    have RH:=aa Ba.out 5
    have QH:=aa Ba.out 6
    have RC:w8.cell? ⟨Da,0,none⟩=some (.slice Eb Ta.length Db):=(ga za.out 0).trans rfl
    have QC:w8.cell? ⟨Da,1,none⟩=some (.int .i64 Pa):=(ga za.out 1).trans rfl
    have OC:w8.cell? ⟨Da,2,none⟩=some (.int .i64 Oa):=(ga za.out 2).trans rfl
    have NC:w8.cell? ⟨Da,3,none⟩=some (.int .i64 Ma):=(ga za.out 3).trans rfl
    have MC:w8.cell? ⟨Da,4,none⟩=some (.slice yc Ra.length Zb):=(ga za.out 4).trans rfl
    have bC:=aa za.out 0
    have aC:=aa za.out 1
    have ZB:=aa za.out 2
    have YB:=aa za.out 3
    have XB:=aa za.out 4
    go_wp2_with (first|(go_at_call 54;(with_reducible refine (Za.calls fe 0 (wrap64 ((Ta.length:Int) - 1)) t106 _ A14.out).mono ?_);rintro e w' ⟨rfl,⟨nd,rfl⟩⟩))
    go_meet
    case rel=>exact ⟨_,(t106),(by first|rfl|(simp;done)|(simp [*];done)),H',⟨by first|omega|exact Nat.le_refl _⟩,⟨by (with_reducible repeat (first|refine Ga ?_ _|refine Ia ?_|refine Fa ?_ _));exact za.out⟩,⟨by (with_reducible repeat (first|refine Ga ?_ _|refine Ia ?_|refine Fa ?_ _));exact Ba.out⟩,⟨by repeat (first|(with_reducible first|exact HB.out|apply qa|apply ia|apply ua|refine Aa ?_ Wa.out|refine Aa ?_ Dc.out)|exact HB.out)⟩⟩
   ·replace c13:=Bool.eq_false_iff.mpr c13
    subst c13
    have H1:(Xa.j0 k t103 true false false Ta Pa Oa Ma Ra nc Lb Rb Sb Uc fe Je)=some r:=by rw [if_neg (show ¬ (false=true) by decide)] at H;exact H
    clear H
    have H:=H1
    clear H1
    have H':=ja.mk H
    clear H
    go_wp2
    go_meet
    case rel=>exact ⟨_,(false),(by first|rfl|(simp;done)|(simp [*];done)),H',⟨by first|omega|exact Nat.le_refl _⟩,⟨by (with_reducible repeat (first|refine Ga ?_ _|refine Ia ?_|refine Fa ?_ _));exact za.out⟩,⟨by (with_reducible repeat (first|refine Ga ?_ _|refine Ia ?_|refine Fa ?_ _));exact Ba.out⟩,⟨by repeat (first|(with_reducible first|exact HB.out|apply qa|apply ia|apply ua|refine Aa ?_ Wa.out|refine Aa ?_ Dc.out)|exact HB.out)⟩⟩
  ·replace c12:=Bool.eq_false_iff.mpr c12
   subst c12
   have H1:(if Rb=(-1) then (if t105=true then ((Za.f fe 0 (wrap64 ((Ta.length:Int) - 1))).bind fun t107=>(Xa.j0 k t103 false t105 t107 Ta Pa Oa Ma Ra nc Lb Rb Sb Uc fe Je)) else (Xa.j0 k t103 false t105 false Ta Pa Oa Ma Ra nc Lb Rb Sb Uc fe Je)) else (Xa.j0 k t103 false t105 false Ta Pa Oa Ma Ra nc Lb Rb Sb Uc fe Je))=some r:=by rw [if_neg (show ¬ (false=true) by decide)] at H;exact H
   clear H
   have H:=H1
   clear H1
   by_cases c18:Rb=(-1)
   ·rw [if_pos c18] at H
    have iw:(Rb == (-1))=true:=beq_iff_eq.mpr c18
    have kM:(Rb != (-1))=false:=bne_eq_false_iff_eq.mpr c18
    clear c18
    (first|rw [iw]|(simp only [Bb,Cb];rw [iw])|skip)
    by_cases c19:t105=true
    ·subst c19
     have H1:((Za.f fe 0 (wrap64 ((Ta.length:Int) - 1))).bind fun t107=>(Xa.j0 k t103 false true t107 Ta Pa Oa Ma Ra nc Lb Rb Sb Uc fe Je))=some r:=by rw [if_pos rfl] at H;exact H
     clear H
     have H:=H1
     clear H1
     replace H:=Option.bind_eq_some_iff.mp H
     obtain ⟨t107,V4,H⟩:=H
     replace H:(Xa.j0 k t103 false true t107 Ta Pa Oa Ma Ra nc Lb Rb Sb Uc fe Je)=some r:=H
     have cN:=ja.mk V4
     clear V4
     have H':=ja.mk H
     clear H
     have aai:=mb.out
     have nah:=qb.out
     have Ov:w8.cell? ⟨Ja,0,none⟩=some (.int .i64 nc):=(ga Ba.out 0).trans rfl
     have Nv:w8.cell? ⟨Ja,1,none⟩=some (.int .i64 Lb):=(ga Ba.out 1).trans rfl
     have Mv:w8.cell? ⟨Ja,2,none⟩=some (.int .i64 Rb):=(ga Ba.out 2).trans rfl
     have Lv:w8.cell? ⟨Ja,3,none⟩=some (.int .i64 Sb):=(ga Ba.out 3).trans rfl
     have Kv:w8.cell? ⟨Ja,4,none⟩=some (.int .i64 Uc):=(ga Ba.out 4).trans rfl
     have PI:w8.cell? ⟨Ja,5,none⟩=some (.int .i64 fe):=(ga Ba.out 5).trans rfl
     have OI:w8.cell? ⟨Ja,6,none⟩=some (.string Je):=(ga Ba.out 6).trans rfl
     have Xu:=aa Ba.out 0
     have Wu:=aa Ba.out 1
     have Vu:=aa Ba.out 2
     have Uu:=aa Ba.out 3
     have Tu:=aa Ba.out 4
     have JH:=aa Ba.out 5
     have GH:=aa Ba.out 6
     have Yk:w8.cell? ⟨Da,0,none⟩=some (.slice Eb Ta.length Db):=(ga za.out 0).trans rfl
     have Xk:w8.cell? ⟨Da,1,none⟩=some (.int .i64 Pa):=(ga za.out 1).trans rfl
     have Gp:w8.cell? ⟨Da,2,none⟩=some (.int .i64 Oa):=(ga za.out 2).trans rfl
     have Fp:w8.cell? ⟨Da,3,none⟩=some (.int .i64 Ma):=(ga za.out 3).trans rfl
     have Ep:w8.cell? ⟨Da,4,none⟩=some (.slice yc Ra.length Zb):=(ga za.out 4).trans rfl
     have Tk:=aa za.out 0
     have Sk:=aa za.out 1
     have yp:=aa za.out 2
     have xp:=aa za.out 3
     have vp:=aa za.out 4
     go_wp2_with (first|(go_at_call 54;(with_reducible refine (Za.calls fe 0 (wrap64 ((Ta.length:Int) - 1)) t107 _ cN.out).mono ?_);rintro e w' ⟨rfl,⟨nd,rfl⟩⟩))
     go_meet
     case rel=>exact ⟨_,(t107),(by first|rfl|(simp;done)|(simp [*];done)),H',⟨by first|omega|exact Nat.le_refl _⟩,⟨by (with_reducible repeat (first|refine Ga ?_ _|refine Ia ?_|refine Fa ?_ _));exact za.out⟩,⟨by (with_reducible repeat (first|refine Ga ?_ _|refine Ia ?_|refine Fa ?_ _));exact Ba.out⟩,⟨by repeat (first|(with_reducible first|exact HB.out|apply qa|apply ia|apply ua|refine Aa ?_ Wa.out|refine Aa ?_ Dc.out)|exact HB.out)⟩⟩
    ·replace c19:=Bool.eq_false_iff.mpr c19
     subst c19
     have H1:(Xa.j0 k t103 false false false Ta Pa Oa Ma Ra nc Lb Rb Sb Uc fe Je)=some r:=by rw [if_neg (show ¬ (false=true) by decide)] at H;exact H
     clear H
     have H:=H1
     clear H1
     have H':=ja.mk H
     clear H
     have ZQ:=mb.out
     have SQ:=qb.out
     have Br:w8.cell? ⟨Ja,0,none⟩=some (.int .i64 nc):=(ga Ba.out 0).trans rfl
     have Ar:w8.cell? ⟨Ja,1,none⟩=some (.int .i64 Lb):=(ga Ba.out 1).trans rfl
     have vr:w8.cell? ⟨Ja,2,none⟩=some (.int .i64 Rb):=(ga Ba.out 2).trans rfl
     have ur:w8.cell? ⟨Ja,3,none⟩=some (.int .i64 Sb):=(ga Ba.out 3).trans rfl
     have Mt:w8.cell? ⟨Ja,4,none⟩=some (.int .i64 Uc):=(ga Ba.out 4).trans rfl
     have NI:w8.cell? ⟨Ja,5,none⟩=some (.int .i64 fe):=(ga Ba.out 5).trans rfl
     have MI:w8.cell? ⟨Ja,6,none⟩=some (.string Je):=(ga Ba.out 6).trans rfl
     have Oq:=aa Ba.out 0
     have Nq:=aa Ba.out 1
     have Mq:=aa Ba.out 2
     have Lq:=aa Ba.out 3
     have Dt:=aa Ba.out 4
     have FH:=aa Ba.out 5
     have EH:=aa Ba.out 6
     go_wp2
     go_meet
     case rel=>exact ⟨_,(false),(by first|rfl|(simp;done)|(simp [*];done)),H',⟨by first|omega|exact Nat.le_refl _⟩,⟨by (with_reducible repeat (first|refine Ga ?_ _|refine Ia ?_|refine Fa ?_ _));exact za.out⟩,⟨by (with_reducible repeat (first|refine Ga ?_ _|refine Ia ?_|refine Fa ?_ _));exact Ba.out⟩,⟨by repeat (first|(with_reducible first|exact HB.out|apply qa|apply ia|apply ua|refine Aa ?_ Wa.out|refine Aa ?_ Dc.out)|exact HB.out)⟩⟩
   ·rw [if_neg c18] at H
    have iw:(Rb == (-1))=false:=beq_eq_false_iff_ne.mpr c18
    have kM:(Rb != (-1))=true:=bne_iff_ne.mpr c18
    (first|rw [iw]|(simp only [Bb,Cb];rw [iw])|skip)
    have H':=ja.mk H
    clear H
    have Zah:=mb.out
    have mah:=qb.out
    have Fy:w8.cell? ⟨Ja,0,none⟩=some (.int .i64 nc):=(ga Ba.out 0).trans rfl
    have Ey:w8.cell? ⟨Ja,1,none⟩=some (.int .i64 Lb):=(ga Ba.out 1).trans rfl
    have Dy:w8.cell? ⟨Ja,2,none⟩=some (.int .i64 Rb):=(ga Ba.out 2).trans rfl
    have Cy:w8.cell? ⟨Ja,3,none⟩=some (.int .i64 Sb):=(ga Ba.out 3).trans rfl
    have Ay:w8.cell? ⟨Ja,4,none⟩=some (.int .i64 Uc):=(ga Ba.out 4).trans rfl
    have LI:w8.cell? ⟨Ja,5,none⟩=some (.int .i64 fe):=(ga Ba.out 5).trans rfl
    have KI:w8.cell? ⟨Ja,6,none⟩=some (.string Je):=(ga Ba.out 6).trans rfl
    have Yx:=aa Ba.out 0
    have Xx:=aa Ba.out 1
    have Wx:=aa Ba.out 2
    have Vx:=aa Ba.out 3
    have Ux:=aa Ba.out 4
    have DH:=aa Ba.out 5
    have CH:=aa Ba.out 6
    go_wp2
    go_meet
    case rel=>exact ⟨_,(false),(by first|rfl|(simp;done)|(simp [*];done)),H',⟨by first|omega|exact Nat.le_refl _⟩,⟨by (with_reducible repeat (first|refine Ga ?_ _|refine Ia ?_|refine Fa ?_ _));exact za.out⟩,⟨by (with_reducible repeat (first|refine Ga ?_ _|refine Ia ?_|refine Fa ?_ _));exact Ba.out⟩,⟨by repeat (first|(with_reducible first|exact HB.out|apply qa|apply ia|apply ua|refine Aa ?_ Wa.out|refine Aa ?_ Dc.out)|exact HB.out)⟩⟩
 case rest =>
  clear HC6
  try clear c1
  try clear c2
  try clear p2
  try clear c5
  try clear p6
  try clear c9
  try clear c11
  try clear c12
  try clear c13
  try clear c15
  try clear c18
  try clear iw
  try clear kM
  try clear c19
  try clear c21
  try clear c24
  try clear c26
  try clear Ak
  try clear zk
  try clear xk
  try clear wk
  try clear jl
  try clear TC
  try clear SC
  try clear cl
  try clear Zk
  try clear Sr
  try clear Qr
  try clear Nt
  try clear Em
  try clear Dm
  try clear Qv
  try clear Pv
  try clear Gy
  try clear WI
  try clear VI
  try clear RC
  try clear QC
  try clear OC
  try clear NC
  try clear MC
  try clear Ov
  try clear Nv
  try clear Mv
  try clear Lv
  try clear Kv
  try clear PI
  try clear OI
  try clear Yk
  try clear Xk
  try clear Gp
  try clear Fp
  try clear Ep
  try clear Br
  try clear Ar
  try clear vr
  try clear ur
  try clear Mt
  try clear NI
  try clear MI
  try clear Fy
  try clear Ey
  try clear Dy
  try clear Cy
  try clear Ay
  try clear LI
  try clear KI
  try clear vk
  try clear uk
  try clear qk
  try clear nk
  try clear Wk
  try clear eC
  try clear cC
  try clear Vk
  try clear Uk
  try clear er
  try clear dr
  try clear Et
  try clear Cm
  try clear Bm
  try clear Zu
  try clear Yu
  try clear Zx
  try clear RH
  try clear QH
  try clear bC
  try clear aC
  try clear ZB
  try clear YB
  try clear XB
  try clear Xu
  try clear Wu
  try clear Vu
  try clear Uu
  try clear Tu
  try clear JH
  try clear GH
  try clear Tk
  try clear Sk
  try clear yp
  try clear xp
  try clear vp
  try clear Oq
  try clear Nq
  try clear Mq
  try clear Lq
  try clear Dt
  try clear FH
  try clear EH
  try clear Yx
  try clear Xx
  try clear Wx
  try clear Vx
  try clear Ux
  try clear DH
  try clear CH
  obtain ⟨kq,tD,rfl,HA,U3,za,Ba,HB⟩:=hcut
  cases kq with
  | zero=>exact absurd HA.out (by simp [Xa.j0])
  | succ kj5 =>
   have H:=HA.out
   clear HA
   simp only [Xa.j0] at H
   have UU:=ja.mk H
   clear H
   go_upto_region 5 with (fail)
   go_cut [62] (fun v62 wc=>∃ (kq:Nat) (LA:Bool),v62 = .bool LA∧ja (Xa.j1 kq t103 t104 t105 tD LA Ta Pa Oa Ma Ra nc Lb Rb Sb Uc fe Je=some r)∧ja (kq ≤ kj5)∧ja (wc.heap[Da]? = some (.cells #[(.slice Eb Ta.length Db),.int .i64 Pa,.int .i64 Oa,.int .i64 Ma,(.slice yc Ra.length Zb)] 30 (0,0)))∧ja (wc.heap[Ja]? = some (.cells #[.int .i64 nc,.int .i64 Lb,.int .i64 Rb,.int .i64 Sb,.int .i64 Uc,.int .i64 fe,.string Je] 70 (0,0)))∧ja (Below w.heap.size w wc))
   case first =>
    have H:=UU.out
    clear UU
    by_cases c29:nc=2
    ·rw [if_pos c29] at H
     have Dz:(nc == 2)=true:=beq_iff_eq.mpr c29
     have xR:(nc != 2)=false:=bne_eq_false_iff_eq.mpr c29
     clear c29
     (first|rw [Dz]|(simp only [Bb,Cb];rw [Dz])|skip)
     by_cases c30:nc=4
     ·rw [if_pos c30] at H
      have bJ:(nc == 4)=true:=beq_iff_eq.mpr c30
      have wR:(nc != 4)=false:=bne_eq_false_iff_eq.mpr c30
      clear c30
      have H':=ja.mk H
      clear H
      have LW:=mb.out
      have tW:=qb.out
      have BC:wc.cell? ⟨Ja,0,none⟩=some (.int .i64 nc):=(ga Ba.out 0).trans rfl
      have zC:wc.cell? ⟨Ja,1,none⟩=some (.int .i64 Lb):=(ga Ba.out 1).trans rfl
      have yC:wc.cell? ⟨Ja,2,none⟩=some (.int .i64 Rb):=(ga Ba.out 2).trans rfl
      have xC:wc.cell? ⟨Ja,3,none⟩=some (.int .i64 Sb):=(ga Ba.out 3).trans rfl
      have wC:wc.cell? ⟨Ja,4,none⟩=some (.int .i64 Uc):=(ga Ba.out 4).trans rfl
      have MP:wc.cell? ⟨Ja,5,none⟩=some (.int .i64 fe):=(ga Ba.out 5).trans rfl
      have LP:wc.cell? ⟨Ja,6,none⟩=some (.string Je):=(ga Ba.out 6).trans rfl
      have OB:=aa Ba.out 0
      have NB:=aa Ba.out 1
      have MB:=aa Ba.out 2
      have LB:=aa Ba.out 3
      have JB:=aa Ba.out 4
      have BO:=aa Ba.out 5
      have AO:=aa Ba.out 6
      go_wp2
      go_meet
      case rel=>exact ⟨_,(false),(by first|rfl|(simp;done)|(simp [*];done)),H',⟨by have:=U3.out;first|omega|exact Nat.le_refl _⟩,⟨by (with_reducible repeat (first|refine Ga ?_ _|refine Ia ?_|refine Fa ?_ _));exact za.out⟩,⟨by (with_reducible repeat (first|refine Ga ?_ _|refine Ia ?_|refine Fa ?_ _));exact Ba.out⟩,⟨by repeat (first|(with_reducible first|exact HB.out|apply qa|apply ia|apply ua|refine Aa ?_ Wa.out|refine Aa ?_ Dc.out)|exact HB.out)⟩⟩
     ·rw [if_neg c30] at H
      have bJ:(nc == 4)=false:=beq_eq_false_iff_ne.mpr c30
      have wR:(nc != 4)=true:=bne_iff_ne.mpr c30
      have H':=ja.mk H
      clear H
      have Xah:=mb.out
      have kah:=qb.out
      have BI:wc.cell? ⟨Ja,0,none⟩=some (.int .i64 nc):=(ga Ba.out 0).trans rfl
      have zI:wc.cell? ⟨Ja,1,none⟩=some (.int .i64 Lb):=(ga Ba.out 1).trans rfl
      have yI:wc.cell? ⟨Ja,2,none⟩=some (.int .i64 Rb):=(ga Ba.out 2).trans rfl
      have xI:wc.cell? ⟨Ja,3,none⟩=some (.int .i64 Sb):=(ga Ba.out 3).trans rfl
      have wI:wc.cell? ⟨Ja,4,none⟩=some (.int .i64 Uc):=(ga Ba.out 4).trans rfl
      have vI:wc.cell? ⟨Ja,5,none⟩=some (.int .i64 fe):=(ga Ba.out 5).trans rfl
      have uI:wc.cell? ⟨Ja,6,none⟩=some (.string Je):=(ga Ba.out 6).trans rfl
      have uH:=aa Ba.out 0
      have tH:=aa Ba.out 1
      have sH:=aa Ba.out 2
      have rH:=aa Ba.out 3
      have qH:=aa Ba.out 4
      have pH:=aa Ba.out 5
      have oH:=aa Ba.out 6
      go_wp2
      go_meet
      case rel=>exact ⟨_,((Uc != 0)),(by first|rfl|(simp;done)|(simp [*];done)),H',⟨by have:=U3.out;first|omega|exact Nat.le_refl _⟩,⟨by (with_reducible repeat (first|refine Ga ?_ _|refine Ia ?_|refine Fa ?_ _));exact za.out⟩,⟨by (with_reducible repeat (first|refine Ga ?_ _|refine Ia ?_|refine Fa ?_ _));exact Ba.out⟩,⟨by repeat (first|(with_reducible first|exact HB.out|apply qa|apply ia|apply ua|refine Aa ?_ Wa.out|refine Aa ?_ Dc.out)|exact HB.out)⟩⟩
    ·rw [if_neg c29] at H
     have Dz:(nc == 2)=false:=beq_eq_false_iff_ne.mpr c29
     have xR:(nc != 2)=true:=bne_iff_ne.mpr c29
     (first|rw [Dz]|(simp only [Bb,Cb];rw [Dz])|skip)
     by_cases c35:Je.toList=([]:List UInt8)
     ·rw [if_pos c35] at H
      have vR:(Je.toList == ([]:List UInt8))=true:=beq_iff_eq.mpr c35
      have uR:(Je.toList != ([]:List UInt8))=false:=bne_eq_false_iff_eq.mpr c35
      clear c35
      by_cases c36:nc=4
      ·rw [if_pos c36] at H
       have tR:(nc == 4)=true:=beq_iff_eq.mpr c36
       have sR:(nc != 4)=false:=bne_eq_false_iff_eq.mpr c36
       clear c36
       have H':=ja.mk H
       clear H
       have GW:=mb.out
       have pW:=qb.out
       have tC:wc.cell? ⟨Ja,0,none⟩=some (.int .i64 nc):=(ga Ba.out 0).trans rfl
       have sC:wc.cell? ⟨Ja,1,none⟩=some (.int .i64 Lb):=(ga Ba.out 1).trans rfl
       have rC:wc.cell? ⟨Ja,2,none⟩=some (.int .i64 Rb):=(ga Ba.out 2).trans rfl
       have qC:wc.cell? ⟨Ja,3,none⟩=some (.int .i64 Sb):=(ga Ba.out 3).trans rfl
       have oC:wc.cell? ⟨Ja,4,none⟩=some (.int .i64 Uc):=(ga Ba.out 4).trans rfl
       have qI:wc.cell? ⟨Ja,5,none⟩=some (.int .i64 fe):=(ga Ba.out 5).trans rfl
       have pI:wc.cell? ⟨Ja,6,none⟩=some (.string Je):=(ga Ba.out 6).trans rfl
       have EB:=aa Ba.out 0
       have DB:=aa Ba.out 1
       have CB:=aa Ba.out 2
       have BB:=aa Ba.out 3
       have AB:=aa Ba.out 4
       have kH:=aa Ba.out 5
       have jH:=aa Ba.out 6
       go_wp2
       go_meet
       case rel=>exact ⟨_,(false),(by first|rfl|(simp;done)|(simp [*];done)),H',⟨by have:=U3.out;first|omega|exact Nat.le_refl _⟩,⟨by (with_reducible repeat (first|refine Ga ?_ _|refine Ia ?_|refine Fa ?_ _));exact za.out⟩,⟨by (with_reducible repeat (first|refine Ga ?_ _|refine Ia ?_|refine Fa ?_ _));exact Ba.out⟩,⟨by repeat (first|(with_reducible first|exact HB.out|apply qa|apply ia|apply ua|refine Aa ?_ Wa.out|refine Aa ?_ Dc.out)|exact HB.out)⟩⟩
      ·rw [if_neg c36] at H
       have tR:(nc == 4)=false:=beq_eq_false_iff_ne.mpr c36
       have sR:(nc != 4)=true:=bne_iff_ne.mpr c36
       have H':=ja.mk H
       clear H
       have XQ:=mb.out
       have OQ:=qb.out
       have qy:wc.cell? ⟨Ja,0,none⟩=some (.int .i64 nc):=(ga Ba.out 0).trans rfl
       have oy:wc.cell? ⟨Ja,1,none⟩=some (.int .i64 Lb):=(ga Ba.out 1).trans rfl
       have ny:wc.cell? ⟨Ja,2,none⟩=some (.int .i64 Rb):=(ga Ba.out 2).trans rfl
       have jy:wc.cell? ⟨Ja,3,none⟩=some (.int .i64 Sb):=(ga Ba.out 3).trans rfl
       have iy:wc.cell? ⟨Ja,4,none⟩=some (.int .i64 Uc):=(ga Ba.out 4).trans rfl
       have BP:wc.cell? ⟨Ja,5,none⟩=some (.int .i64 fe):=(ga Ba.out 5).trans rfl
       have AP:wc.cell? ⟨Ja,6,none⟩=some (.string Je):=(ga Ba.out 6).trans rfl
       have Nx:=aa Ba.out 0
       have Mx:=aa Ba.out 1
       have Lx:=aa Ba.out 2
       have Kx:=aa Ba.out 3
       have Jx:=aa Ba.out 4
       have rO:=aa Ba.out 5
       have qO:=aa Ba.out 6
       go_wp2
       go_meet
       case rel=>exact ⟨_,((Uc != 0)),(by first|rfl|(simp;done)|(simp [*];done)),H',⟨by have:=U3.out;first|omega|exact Nat.le_refl _⟩,⟨by (with_reducible repeat (first|refine Ga ?_ _|refine Ia ?_|refine Fa ?_ _));exact za.out⟩,⟨by (with_reducible repeat (first|refine Ga ?_ _|refine Ia ?_|refine Fa ?_ _));exact Ba.out⟩,⟨by repeat (first|(with_reducible first|exact HB.out|apply qa|apply ia|apply ua|refine Aa ?_ Wa.out|refine Aa ?_ Dc.out)|exact HB.out)⟩⟩
     ·rw [if_neg c35] at H
      have vR:(Je.toList == ([]:List UInt8))=false:=beq_eq_false_iff_ne.mpr c35
      have uR:(Je.toList != ([]:List UInt8))=true:=bne_iff_ne.mpr c35
      have H':=ja.mk H
      clear H
      have FW:=mb.out
      have oW:=qb.out
      have jI:wc.cell? ⟨Ja,0,none⟩=some (.int .i64 nc):=(ga Ba.out 0).trans rfl
      have iI:wc.cell? ⟨Ja,1,none⟩=some (.int .i64 Lb):=(ga Ba.out 1).trans rfl
      have gI:wc.cell? ⟨Ja,2,none⟩=some (.int .i64 Rb):=(ga Ba.out 2).trans rfl
      have fI:wc.cell? ⟨Ja,3,none⟩=some (.int .i64 Sb):=(ga Ba.out 3).trans rfl
      have eI:wc.cell? ⟨Ja,4,none⟩=some (.int .i64 Uc):=(ga Ba.out 4).trans rfl
      have wP:wc.cell? ⟨Ja,5,none⟩=some (.int .i64 fe):=(ga Ba.out 5).trans rfl
      have vP:wc.cell? ⟨Ja,6,none⟩=some (.string Je):=(ga Ba.out 6).trans rfl
      have cH:=aa Ba.out 0
      have bH:=aa Ba.out 1
      have aH:=aa Ba.out 2
      have ZG:=aa Ba.out 3
      have YG:=aa Ba.out 4
      have mO:=aa Ba.out 5
      have lO:=aa Ba.out 6
      go_wp2
      go_meet
      case rel=>exact ⟨_,(true),(by first|rfl|(simp;done)|(simp [*];done)),H',⟨by have:=U3.out;first|omega|exact Nat.le_refl _⟩,⟨by (with_reducible repeat (first|refine Ga ?_ _|refine Ia ?_|refine Fa ?_ _));exact za.out⟩,⟨by (with_reducible repeat (first|refine Ga ?_ _|refine Ia ?_|refine Fa ?_ _));exact Ba.out⟩,⟨by repeat (first|(with_reducible first|exact HB.out|apply qa|apply ia|apply ua|refine Aa ?_ Wa.out|refine Aa ?_ Dc.out)|exact HB.out)⟩⟩
   case rest =>
    clear UU
    try clear c1
    try clear c2
    try clear p2
    try clear c3
    try clear c4
    try clear c5
    try clear p6
    try clear c9
    try clear c11
    try clear c12
    try clear c13
    try clear c15
    try clear c18
    try clear iw
    try clear kM
    try clear c19
    try clear c21
    try clear c24
    try clear c26
    try clear c29
    try clear Dz
    try clear xR
    try clear c30
    try clear bJ
    try clear wR
    try clear c31
    try clear c33
    try clear c35
    try clear vR
    try clear uR
    try clear c36
    try clear tR
    try clear sR
    try clear c37
    try clear c39
    try clear c41
    try clear Ak
    try clear zk
    try clear xk
    try clear wk
    try clear jl
    try clear TC
    try clear SC
    try clear cl
    try clear Zk
    try clear Sr
    try clear Qr
    try clear Nt
    try clear Em
    try clear Dm
    try clear Qv
    try clear Pv
    try clear Gy
    try clear WI
    try clear VI
    try clear RC
    try clear QC
    try clear OC
    try clear NC
    try clear MC
    try clear Ov
    try clear Nv
    try clear Mv
    try clear Lv
    try clear Kv
    try clear PI
    try clear OI
    try clear Yk
    try clear Xk
    try clear Gp
    try clear Fp
    try clear Ep
    try clear Br
    try clear Ar
    try clear vr
    try clear ur
    try clear Mt
    try clear NI
    try clear MI
    try clear Fy
    try clear Ey
    try clear Dy
    try clear Cy
    try clear Ay
    try clear LI
    try clear KI
    try clear BC
    try clear zC
    try clear yC
    try clear xC
    try clear wC
    try clear MP
    try clear LP
    try clear BI
    try clear zI
    try clear yI
    try clear xI
    try clear wI
    try clear vI
    try clear uI
    try clear tC
    try clear sC
    try clear rC
    try clear qC
    try clear oC
    try clear qI
    try clear pI
    try clear qy
    try clear oy
    try clear ny
    try clear jy
    try clear iy
    try clear BP
    try clear AP
    try clear jI
    try clear iI
    try clear gI
    try clear fI
    try clear eI
    try clear wP
    try clear vP
    try clear vk
    try clear uk
    try clear qk
    try clear nk
    try clear Wk
    try clear eC
    try clear cC
    try clear Vk
    try clear Uk
    try clear er
    try clear dr
    try clear Et
    try clear Cm
    try clear Bm
    try clear Zu
    try clear Yu
    try clear Zx
    try clear RH
    try clear QH
    try clear bC
    try clear aC
    try clear ZB
    try clear YB
    try clear XB
    try clear Xu
    try clear Wu
    try clear Vu
    try clear Uu
    try clear Tu
    try clear JH
    try clear GH
    try clear Tk
    try clear Sk
    try clear yp
    try clear xp
    try clear vp
    try clear Oq
    try clear Nq
    try clear Mq
    try clear Lq
    try clear Dt
    try clear FH
    try clear EH
    try clear Yx
    try clear Xx
    try clear Wx
    try clear Vx
    try clear Ux
    try clear DH
    try clear CH
    try clear OB
    try clear NB
    try clear MB
    try clear LB
    try clear JB
    try clear BO
    try clear AO
    try clear uH
    try clear tH
    try clear sH
    try clear rH
    try clear qH
    try clear pH
    try clear oH
    try clear EB
    try clear DB
    try clear CB
    try clear BB
    try clear AB
    try clear kH
    try clear jH
    try clear Nx
    try clear Mx
    try clear Lx
    try clear Kx
    try clear Jx
    try clear rO
    try clear qO
    try clear cH
    try clear bH
    try clear aH
    try clear ZG
    try clear YG
    try clear mO
    try clear lO
    try clear p2
    try clear p6
    obtain ⟨kq,LA,rfl,HA,aal,za,Ba,HB⟩:=hcut
    cases kq with
    | zero=>exact absurd HA.out (by simp [Xa.j1])
    | succ kj27 =>
     have H:=HA.out
     clear HA
     simp only [Xa.j1] at H
     by_cases c43:LA=true
     ·subst c43
      have H1:(some false)=some r:=by rw [if_pos rfl] at H;exact H
      clear H
      have H:=H1
      clear H1
      obtain rfl:=Option.some.inj H
      go_wp2
      go_ret
      exact ⟨by first|rfl|(simp [La,Ka] <;> rfl)|(simp [*,La,Ka] <;> rfl),by repeat (first|(with_reducible first|exact HB.out|apply qa|apply ia|apply ua|refine Aa ?_ Wa.out|refine Aa ?_ Dc.out)|exact HB.out)⟩
     ·replace c43:=Bool.eq_false_iff.mpr c43
      subst c43
      have H1:(if nc=0 then (if t103=true then (if Rb=0 then (some (Sb == 0)) else (some false)) else (some false)) else (if nc=1 then (if t103=true then (if t104=true then (if Sb=0 then (some (fe == 0)) else (some false)) else (some false)) else (some false)) else (if nc=2 then (if t103=true then (if t104=true then (if t105=true then (if fe=0 then ((Gd.f kj27 (([(⟨#[61,61]⟩:ByteArray),(⟨#[60]⟩:ByteArray),(⟨#[38]⟩:ByteArray),(⟨#[43]⟩:ByteArray),(⟨#[45]⟩:ByteArray),(⟨#[42]⟩:ByteArray)]:List ByteArray)) Je).bind fun t111=>(some t111)) else (some false)) else (some false)) else (some false)) else (some false)) else (if nc=3 then (if t103=true then (some tD) else (some false)) else (if nc=4 then (if Lb=0 then (if tD=true then ((Za.f Uc 0 (wrap64 (Ma - 1))).bind fun t112=>(some t112)) else (some false)) else (some false)) else (if nc=5 then (if t103=true then (if Rb=0 then (if Sb=0 then (some (fe == 0)) else (some false)) else (some false)) else (some false)) else (if nc=6 then (if Lb=0 then (if t104=true then (if Sb=0 then (some (fe == 0)) else (some false)) else (some false)) else (some false)) else (some false))))))))=some r:=by rw [if_neg (show ¬ (false=true) by decide)] at H;exact H
      clear H
      have H:=H1
      clear H1
      by_cases c44:nc=0
      ·rw [if_pos c44] at H
       have gM:(nc == 0)=true:=beq_iff_eq.mpr c44
       have fM:(nc != 0)=false:=bne_eq_false_iff_eq.mpr c44
       clear c44
       by_cases c45:t103=true
       ·subst c45
        have H1:(if Rb=0 then (some (Sb == 0)) else (some false))=some r:=by rw [if_pos rfl] at H;exact H
        clear H
        have H:=H1
        clear H1
        by_cases c46:Rb=0
        ·rw [if_pos c46] at H
         have eM:(Rb == 0)=true:=beq_iff_eq.mpr c46
         have dM:(Rb != 0)=false:=bne_eq_false_iff_eq.mpr c46
         clear c46
         obtain rfl:=Option.some.inj H
         have WQ:=mb.out
         have NQ:=qb.out
         have Cv:wc.cell? ⟨Ja,0,none⟩=some (.int .i64 nc):=(ga Ba.out 0).trans rfl
         have Bv:wc.cell? ⟨Ja,1,none⟩=some (.int .i64 Lb):=(ga Ba.out 1).trans rfl
         have nC:wc.cell? ⟨Ja,2,none⟩=some (.int .i64 Rb):=(ga Ba.out 2).trans rfl
         have mC:wc.cell? ⟨Ja,3,none⟩=some (.int .i64 Sb):=(ga Ba.out 3).trans rfl
         have lC:wc.cell? ⟨Ja,4,none⟩=some (.int .i64 Uc):=(ga Ba.out 4).trans rfl
         have kP:wc.cell? ⟨Ja,5,none⟩=some (.int .i64 fe):=(ga Ba.out 5).trans rfl
         have jP:wc.cell? ⟨Ja,6,none⟩=some (.string Je):=(ga Ba.out 6).trans rfl
         have Mu:=aa Ba.out 0
         have Lu:=aa Ba.out 1
         have zB:=aa Ba.out 2
         have yB:=aa Ba.out 3
         have xB:=aa Ba.out 4
         have ZN:=aa Ba.out 5
         have YN:=aa Ba.out 6
         go_wp2
         go_ret
         exact ⟨by first|rfl|(simp [La,Ka] <;> rfl)|(simp [*,La,Ka] <;> rfl),by repeat (first|(with_reducible first|exact HB.out|apply qa|apply ia|apply ua|refine Aa ?_ Wa.out|refine Aa ?_ Dc.out)|exact HB.out)⟩
        ·rw [if_neg c46] at H
         have eM:(Rb == 0)=false:=beq_eq_false_iff_ne.mpr c46
         have dM:(Rb != 0)=true:=bne_iff_ne.mpr c46
         obtain rfl:=Option.some.inj H
         have Rah:=mb.out
         have eah:=qb.out
         have Sac:wc.cell? ⟨Ja,0,none⟩=some (.int .i64 nc):=(ga Ba.out 0).trans rfl
         have Rac:wc.cell? ⟨Ja,1,none⟩=some (.int .i64 Lb):=(ga Ba.out 1).trans rfl
         have Qac:wc.cell? ⟨Ja,2,none⟩=some (.int .i64 Rb):=(ga Ba.out 2).trans rfl
         have Pac:wc.cell? ⟨Ja,3,none⟩=some (.int .i64 Sb):=(ga Ba.out 3).trans rfl
         have Oac:wc.cell? ⟨Ja,4,none⟩=some (.int .i64 Uc):=(ga Ba.out 4).trans rfl
         have Nac:wc.cell? ⟨Ja,5,none⟩=some (.int .i64 fe):=(ga Ba.out 5).trans rfl
         have Mac:wc.cell? ⟨Ja,6,none⟩=some (.string Je):=(ga Ba.out 6).trans rfl
         have p_:=aa Ba.out 0
         have o_:=aa Ba.out 1
         have l_:=aa Ba.out 2
         have j_:=aa Ba.out 3
         have i_:=aa Ba.out 4
         have g_:=aa Ba.out 5
         have f_:=aa Ba.out 6
         go_wp2
         go_ret
         exact ⟨by first|rfl|(simp [La,Ka] <;> rfl)|(simp [*,La,Ka] <;> rfl),by repeat (first|(with_reducible first|exact HB.out|apply qa|apply ia|apply ua|refine Aa ?_ Wa.out|refine Aa ?_ Dc.out)|exact HB.out)⟩
       ·replace c45:=Bool.eq_false_iff.mpr c45
        subst c45
        have H1:(some false)=some r:=by rw [if_neg (show ¬ (false=true) by decide)] at H;exact H
        clear H
        have H:=H1
        clear H1
        obtain rfl:=Option.some.inj H
        have VQ:=mb.out
        have MQ:=qb.out
        have ZH:wc.cell? ⟨Ja,0,none⟩=some (.int .i64 nc):=(ga Ba.out 0).trans rfl
        have YH:wc.cell? ⟨Ja,1,none⟩=some (.int .i64 Lb):=(ga Ba.out 1).trans rfl
        have XH:wc.cell? ⟨Ja,2,none⟩=some (.int .i64 Rb):=(ga Ba.out 2).trans rfl
        have WH:wc.cell? ⟨Ja,3,none⟩=some (.int .i64 Sb):=(ga Ba.out 3).trans rfl
        have VH:wc.cell? ⟨Ja,4,none⟩=some (.int .i64 Uc):=(ga Ba.out 4).trans rfl
        have Gac:wc.cell? ⟨Ja,5,none⟩=some (.int .i64 fe):=(ga Ba.out 5).trans rfl
        have Fac:wc.cell? ⟨Ja,6,none⟩=some (.string Je):=(ga Ba.out 6).trans rfl
        have SG:=aa Ba.out 0
        have RG:=aa Ba.out 1
        have QG:=aa Ba.out 2
        have PG:=aa Ba.out 3
        have OG:=aa Ba.out 4
        have W9:=aa Ba.out 5
        have V9:=aa Ba.out 6
        go_wp2
        go_ret
        exact ⟨by first|rfl|(simp [La,Ka] <;> rfl)|(simp [*,La,Ka] <;> rfl),by repeat (first|(with_reducible first|exact HB.out|apply qa|apply ia|apply ua|refine Aa ?_ Wa.out|refine Aa ?_ Dc.out)|exact HB.out)⟩
      ·rw [if_neg c44] at H
       have gM:(nc == 0)=false:=beq_eq_false_iff_ne.mpr c44
       have fM:(nc != 0)=true:=bne_iff_ne.mpr c44
       by_cases c53:nc=1
       ·rw [if_pos c53] at H
        have D2:(nc == 1)=true:=beq_iff_eq.mpr c53
        have C2:(nc != 1)=false:=bne_eq_false_iff_eq.mpr c53
        clear c53
        by_cases c54:t103=true
        ·subst c54
         have H1:(if t104=true then (if Sb=0 then (some (fe == 0)) else (some false)) else (some false))=some r:=by rw [if_pos rfl] at H;exact H
         clear H
         have H:=H1
         clear H1
         by_cases c55:t104=true
         ·subst c55
          have H1:(if Sb=0 then (some (fe == 0)) else (some false))=some r:=by rw [if_pos rfl] at H;exact H
          clear H
          have H:=H1
          clear H1
          by_cases c56:Sb=0
          ·rw [if_pos c56] at H
           have Z1:(Sb == 0)=true:=beq_iff_eq.mpr c56
           have Y1:(Sb != 0)=false:=bne_eq_false_iff_eq.mpr c56
           clear c56
           obtain rfl:=Option.some.inj H
           have Mah:=mb.out
           have Zag:=qb.out
           have YO:wc.cell? ⟨Ja,0,none⟩=some (.int .i64 nc):=(ga Ba.out 0).trans rfl
           have XO:wc.cell? ⟨Ja,1,none⟩=some (.int .i64 Lb):=(ga Ba.out 1).trans rfl
           have WO:wc.cell? ⟨Ja,2,none⟩=some (.int .i64 Rb):=(ga Ba.out 2).trans rfl
           have VO:wc.cell? ⟨Ja,3,none⟩=some (.int .i64 Sb):=(ga Ba.out 3).trans rfl
           have UO:wc.cell? ⟨Ja,4,none⟩=some (.int .i64 Uc):=(ga Ba.out 4).trans rfl
           have nac:wc.cell? ⟨Ja,5,none⟩=some (.int .i64 fe):=(ga Ba.out 5).trans rfl
           have mac:wc.cell? ⟨Ja,6,none⟩=some (.string Je):=(ga Ba.out 6).trans rfl
           have QN:=aa Ba.out 0
           have PN:=aa Ba.out 1
           have NN:=aa Ba.out 2
           have MN:=aa Ba.out 3
           have LN:=aa Ba.out 4
           have E9:=aa Ba.out 5
           have D9:=aa Ba.out 6
           go_wp2
           go_ret
           exact ⟨by first|rfl|(simp [La,Ka] <;> rfl)|(simp [*,La,Ka] <;> rfl),by repeat (first|(with_reducible first|exact HB.out|apply qa|apply ia|apply ua|refine Aa ?_ Wa.out|refine Aa ?_ Dc.out)|exact HB.out)⟩
          ·rw [if_neg c56] at H
           have Z1:(Sb == 0)=false:=beq_eq_false_iff_ne.mpr c56
           have Y1:(Sb != 0)=true:=bne_iff_ne.mpr c56
           obtain rfl:=Option.some.inj H
           have Kah:=mb.out
           have Xag:=qb.out
           have RO:wc.cell? ⟨Ja,0,none⟩=some (.int .i64 nc):=(ga Ba.out 0).trans rfl
           have QO:wc.cell? ⟨Ja,1,none⟩=some (.int .i64 Lb):=(ga Ba.out 1).trans rfl
           have jac:wc.cell? ⟨Ja,2,none⟩=some (.int .i64 Rb):=(ga Ba.out 2).trans rfl
           have iac:wc.cell? ⟨Ja,3,none⟩=some (.int .i64 Sb):=(ga Ba.out 3).trans rfl
           have gac:wc.cell? ⟨Ja,4,none⟩=some (.int .i64 Uc):=(ga Ba.out 4).trans rfl
           have fac:wc.cell? ⟨Ja,5,none⟩=some (.int .i64 fe):=(ga Ba.out 5).trans rfl
           have eac:wc.cell? ⟨Ja,6,none⟩=some (.string Je):=(ga Ba.out 6).trans rfl
           have KN:=aa Ba.out 0
           have JN:=aa Ba.out 1
           have u9:=aa Ba.out 2
           have r9:=aa Ba.out 3
           have o9:=aa Ba.out 4
           have n9:=aa Ba.out 5
           have m9:=aa Ba.out 6
           go_wp2
           go_ret
           exact ⟨by first|rfl|(simp [La,Ka] <;> rfl)|(simp [*,La,Ka] <;> rfl),by repeat (first|(with_reducible first|exact HB.out|apply qa|apply ia|apply ua|refine Aa ?_ Wa.out|refine Aa ?_ Dc.out)|exact HB.out)⟩
         ·replace c55:=Bool.eq_false_iff.mpr c55
          subst c55
          have H1:(some false)=some r:=by rw [if_neg (show ¬ (false=true) by decide)] at H;exact H
          clear H
          have H:=H1
          clear H1
          obtain rfl:=Option.some.inj H
          have Jah:=mb.out
          have Wag:=qb.out
          have dac:wc.cell? ⟨Ja,0,none⟩=some (.int .i64 nc):=(ga Ba.out 0).trans rfl
          have cac:wc.cell? ⟨Ja,1,none⟩=some (.int .i64 Lb):=(ga Ba.out 1).trans rfl
          have bac:wc.cell? ⟨Ja,2,none⟩=some (.int .i64 Rb):=(ga Ba.out 2).trans rfl
          have aac:wc.cell? ⟨Ja,3,none⟩=some (.int .i64 Sb):=(ga Ba.out 3).trans rfl
          have Zab:wc.cell? ⟨Ja,4,none⟩=some (.int .i64 Uc):=(ga Ba.out 4).trans rfl
          have Yab:wc.cell? ⟨Ja,5,none⟩=some (.int .i64 fe):=(ga Ba.out 5).trans rfl
          have Xab:wc.cell? ⟨Ja,6,none⟩=some (.string Je):=(ga Ba.out 6).trans rfl
          have l9:=aa Ba.out 0
          have j9:=aa Ba.out 1
          have e9:=aa Ba.out 2
          have Z8:=aa Ba.out 3
          have Y8:=aa Ba.out 4
          have X8:=aa Ba.out 5
          have V8:=aa Ba.out 6
          go_wp2
          go_ret
          exact ⟨by first|rfl|(simp [La,Ka] <;> rfl)|(simp [*,La,Ka] <;> rfl),by repeat (first|(with_reducible first|exact HB.out|apply qa|apply ia|apply ua|refine Aa ?_ Wa.out|refine Aa ?_ Dc.out)|exact HB.out)⟩
        ·replace c54:=Bool.eq_false_iff.mpr c54
         subst c54
         have H1:(some false)=some r:=by rw [if_neg (show ¬ (false=true) by decide)] at H;exact H
         clear H
         have H:=H1
         clear H1
         obtain rfl:=Option.some.inj H
         have CW:=mb.out
         have lW:=qb.out
         have Wab:wc.cell? ⟨Ja,0,none⟩=some (.int .i64 nc):=(ga Ba.out 0).trans rfl
         have Vab:wc.cell? ⟨Ja,1,none⟩=some (.int .i64 Lb):=(ga Ba.out 1).trans rfl
         have Uab:wc.cell? ⟨Ja,2,none⟩=some (.int .i64 Rb):=(ga Ba.out 2).trans rfl
         have Tab:wc.cell? ⟨Ja,3,none⟩=some (.int .i64 Sb):=(ga Ba.out 3).trans rfl
         have Sab:wc.cell? ⟨Ja,4,none⟩=some (.int .i64 Uc):=(ga Ba.out 4).trans rfl
         have Rab:wc.cell? ⟨Ja,5,none⟩=some (.int .i64 fe):=(ga Ba.out 5).trans rfl
         have Qab:wc.cell? ⟨Ja,6,none⟩=some (.string Je):=(ga Ba.out 6).trans rfl
         have U8:=aa Ba.out 0
         have T8:=aa Ba.out 1
         have R8:=aa Ba.out 2
         have Q8:=aa Ba.out 3
         have P8:=aa Ba.out 4
         have O8:=aa Ba.out 5
         have N8:=aa Ba.out 6
         go_wp2
         go_ret
         exact ⟨by first|rfl|(simp [La,Ka] <;> rfl)|(simp [*,La,Ka] <;> rfl),by repeat (first|(with_reducible first|exact HB.out|apply qa|apply ia|apply ua|refine Aa ?_ Wa.out|refine Aa ?_ Dc.out)|exact HB.out)⟩
       ·rw [if_neg c53] at H
        have D2:(nc == 1)=false:=beq_eq_false_iff_ne.mpr c53
        have C2:(nc != 1)=true:=bne_iff_ne.mpr c53
        by_cases c65:nc=2
        ·rw [if_pos c65] at H
         have S1:(nc == 2)=true:=beq_iff_eq.mpr c65
         have R1:(nc != 2)=false:=bne_eq_false_iff_eq.mpr c65
         clear c65
         by_cases c66:t103=true
         ·subst c66
          have H1:(if t104=true then (if t105=true then (if fe=0 then ((Gd.f kj27 (([(⟨#[61,61]⟩:ByteArray),(⟨#[60]⟩:ByteArray),(⟨#[38]⟩:ByteArray),(⟨#[43]⟩:ByteArray),(⟨#[45]⟩:ByteArray),(⟨#[42]⟩:ByteArray)]:List ByteArray)) Je).bind fun t111=>(some t111)) else (some false)) else (some false)) else (some false))=some r:=by rw [if_pos rfl] at H;exact H
          clear H
          have H:=H1
          clear H1
          by_cases c67:t104=true
          ·subst c67
           have H1:(if t105=true then (if fe=0 then ((Gd.f kj27 (([(⟨#[61,61]⟩:ByteArray),(⟨#[60]⟩:ByteArray),(⟨#[38]⟩:ByteArray),(⟨#[43]⟩:ByteArray),(⟨#[45]⟩:ByteArray),(⟨#[42]⟩:ByteArray)]:List ByteArray)) Je).bind fun t111=>(some t111)) else (some false)) else (some false))=some r:=by rw [if_pos rfl] at H;exact H
           clear H
           have H:=H1
           clear H1
           by_cases c68:t105=true
           ·subst c68
            have H1:(if fe=0 then ((Gd.f kj27 (([(⟨#[61,61]⟩:ByteArray),(⟨#[60]⟩:ByteArray),(⟨#[38]⟩:ByteArray),(⟨#[43]⟩:ByteArray),(⟨#[45]⟩:ByteArray),(⟨#[42]⟩:ByteArray)]:List ByteArray)) Je).bind fun t111=>(some t111)) else (some false))=some r:=by rw [if_pos rfl] at H;exact H
            clear H
            have H:=H1
            clear H1
            by_cases c69:fe=0
            ·rw [if_pos c69] at H
             have Q1:(fe == 0)=true:=beq_iff_eq.mpr c69
             have P1:(fe != 0)=false:=bne_eq_false_iff_eq.mpr c69
             clear c69
             obtain ⟨y108,hy108⟩:∃ y_:List ByteArray,y_=(([(⟨#[61,61]⟩:ByteArray),(⟨#[60]⟩:ByteArray),(⟨#[38]⟩:ByteArray),(⟨#[43]⟩:ByteArray),(⟨#[45]⟩:ByteArray),(⟨#[42]⟩:ByteArray)]:List ByteArray)):=⟨_,rfl⟩
             replace H:((Gd.f kj27 y108 Je).bind fun t111=>(some t111))=some r:=by first|(rw [hy108];with_reducible exact H)|(have Vh:=(Option.bind_some _ _).symm.trans H;rw [hy108];with_reducible exact Vh)|(have Vh:=(Option.bind_some _ _).symm.trans H;with_reducible exact Vh)|with_reducible exact H|(rw [hy108];exact H)|exact H
             have kJ:=ja.mk hy108
             clear hy108
             replace H:=Option.bind_eq_some_iff.mp H
             obtain ⟨t111,M4,H⟩:=H
             replace H:(some t111)=some r:=H
             have Gx:=ja.mk M4
             clear M4
             obtain rfl:=Option.some.inj H
             have Eah:=mb.out
             have Qag:=qb.out
             have Hab:wc.cell? ⟨Ja,0,none⟩=some (.int .i64 nc):=(ga Ba.out 0).trans rfl
             have Gab:wc.cell? ⟨Ja,1,none⟩=some (.int .i64 Lb):=(ga Ba.out 1).trans rfl
             have Fab:wc.cell? ⟨Ja,2,none⟩=some (.int .i64 Rb):=(ga Ba.out 2).trans rfl
             have Eab:wc.cell? ⟨Ja,3,none⟩=some (.int .i64 Sb):=(ga Ba.out 3).trans rfl
             have Dab:wc.cell? ⟨Ja,4,none⟩=some (.int .i64 Uc):=(ga Ba.out 4).trans rfl
             have Cab:wc.cell? ⟨Ja,5,none⟩=some (.int .i64 fe):=(ga Ba.out 5).trans rfl
             have Bab:wc.cell? ⟨Ja,6,none⟩=some (.string Je):=(ga Ba.out 6).trans rfl
             have E8:=aa Ba.out 0
             have D8:=aa Ba.out 1
             have C8:=aa Ba.out 2
             have r8:=aa Ba.out 3
             have o8:=aa Ba.out 4
             have n8:=aa Ba.out 5
             have m8:=aa Ba.out 6
             go_wp2_with (first|((with_reducible refine Pb (N:=109) rfl ?_);(try (refine Wg (by rfl) ?_;dsimp only));refine Kd.JA Kd.string _ 9 ?hg (N:=109) ?hd (xs:=([(⟨#[61,61]⟩:ByteArray),(⟨#[60]⟩:ByteArray),(⟨#[38]⟩:ByteArray),(⟨#[43]⟩:ByteArray),(⟨#[45]⟩:ByteArray),(⟨#[42]⟩:ByteArray)]:List ByteArray)) (inner:=[.string (⟨#[61,61]⟩:ByteArray),.string (⟨#[60]⟩:ByteArray),.string (⟨#[38]⟩:ByteArray),.string (⟨#[43]⟩:ByteArray),.string (⟨#[45]⟩:ByteArray),.string (⟨#[42]⟩:ByteArray)]) (ok:=fun _=>True) (Xo:=fun _=>True) ?hr ?hp (fun _ hk=>hk) trivial (Below.refl _ _) (Nat.le_refl _) (by simp) ?_;(case hd=>rfl);(case hg=>rfl);(case hr=>first|(go_simp;done)|(go_simp;rfl));(case hp=>exact (Wf.one (show Kd.M Kd.string _ _ _ (⟨#[61,61]⟩:ByteArray) [.string (⟨#[61,61]⟩:ByteArray)] from rfl) (Wf.one (show Kd.M Kd.string _ _ _ (⟨#[60]⟩:ByteArray) [.string (⟨#[60]⟩:ByteArray)] from rfl) (Wf.one (show Kd.M Kd.string _ _ _ (⟨#[38]⟩:ByteArray) [.string (⟨#[38]⟩:ByteArray)] from rfl) (Wf.one (show Kd.M Kd.string _ _ _ (⟨#[43]⟩:ByteArray) [.string (⟨#[43]⟩:ByteArray)] from rfl) (Wf.one (show Kd.M Kd.string _ _ _ (⟨#[45]⟩:ByteArray) [.string (⟨#[45]⟩:ByteArray)] from rfl) (Wf.one (show Kd.M Kd.string _ _ _ (⟨#[42]⟩:ByteArray) [.string (⟨#[42]⟩:ByteArray)] from rfl) (Wf.none _ _))))))));intro Naj pS fL hb fF yo;clear fF yo;(first|rw [← kJ.out] at fL|(simp only [Int.reduceToNat] at fL;rw [← kJ.out] at fL));have Qb:=ja.mk (Kd.ri fL (Qa (by repeat (first|(with_reducible first|exact HB.out|apply qa|apply ia|apply ua|refine Aa ?_ Wa.out|refine Aa ?_ Dc.out)|exact HB.out))));have uc:=ja.mk (Ya (g:=Da) (o:=.cells #[.slice Eb Ta.length Db,.int .i64 Pa,.int .i64 Oa,.int .i64 Ma,.slice yc Ra.length Zb] 30 (0,0)) (by (with_reducible repeat (first|refine Ga ?_ _|refine Ia ?_|refine Fa ?_ _));exact za.out) hb);have Qc:=ja.mk (Ya (g:=Ja) (o:=.cells #[.int .i64 nc,.int .i64 Lb,.int .i64 Rb,.int .i64 Sb,.int .i64 Uc,.int .i64 fe,.string Je] 70 (0,0)) (by (with_reducible repeat (first|refine Ga ?_ _|refine Ia ?_|refine Fa ?_ _));exact Ba.out) hb);have Td:=ja.mk (Na (by repeat (first|(with_reducible first|exact HB.out|apply qa|apply ia|apply ua|refine Aa ?_ Wa.out|refine Aa ?_ Dc.out)|exact HB.out)) hb);clear za Ba HB;have EM:=Qb;have za:=uc;have Ba:=Qc;have HB:=Td;clear Qb uc Qc Td hb fL;have wab:pS.cell? ⟨Ja,0,none⟩=some (.int .i64 nc):=(ga Ba.out 0).trans rfl;have vab:pS.cell? ⟨Ja,1,none⟩=some (.int .i64 Lb):=(ga Ba.out 1).trans rfl;have uab:pS.cell? ⟨Ja,2,none⟩=some (.int .i64 Rb):=(ga Ba.out 2).trans rfl;have sab:pS.cell? ⟨Ja,3,none⟩=some (.int .i64 Sb):=(ga Ba.out 3).trans rfl;have rab:pS.cell? ⟨Ja,4,none⟩=some (.int .i64 Uc):=(ga Ba.out 4).trans rfl;have qab:pS.cell? ⟨Ja,5,none⟩=some (.int .i64 fe):=(ga Ba.out 5).trans rfl;have pab:pS.cell? ⟨Ja,6,none⟩=some (.string Je):=(ga Ba.out 6).trans rfl;have Y7:=aa Ba.out 0;have X7:=aa Ba.out 1;have V7:=aa Ba.out 2;have U7:=aa Ba.out 3;have T7:=aa Ba.out 4;have R7:=aa Ba.out 5;have Q7:=aa Ba.out 6;obtain ⟨jal,rak,raf⟩:=Kd.Mf EM.out;subst raf)|(go_at_call 128;(with_reducible refine (Gd.calls kj27 _ _ y108 Je t111 _ ?side1 ?side2 Gx.out).mono ?_);(case side1=>repeat (first|exact (Kd.Fc EM.out).2.2|(with_reducible refine Kd.Lc ?_ _)|(with_reducible refine Kd.Jc ?_ _)|(with_reducible refine Kd.Ed ?_)));(case side2=>exact (Kd.Fc EM.out).2.1);rintro e w' ⟨rfl,⟨nd,rfl⟩⟩))
             go_ret
             exact ⟨by first|rfl|(simp [La,Ka] <;> rfl)|(simp [*,La,Ka] <;> rfl),by repeat (first|(with_reducible first|exact HB.out|apply qa|apply ia|apply ua|refine Aa ?_ Wa.out|refine Aa ?_ Dc.out)|exact HB.out)⟩
            ·rw [if_neg c69] at H
             have Q1:(fe == 0)=false:=beq_eq_false_iff_ne.mpr c69
             have P1:(fe != 0)=true:=bne_iff_ne.mpr c69
             obtain rfl:=Option.some.inj H
             have Aah:=mb.out
             have Mag:=qb.out
             have lab:wc.cell? ⟨Ja,0,none⟩=some (.int .i64 nc):=(ga Ba.out 0).trans rfl
             have kab:wc.cell? ⟨Ja,1,none⟩=some (.int .i64 Lb):=(ga Ba.out 1).trans rfl
             have jab:wc.cell? ⟨Ja,2,none⟩=some (.int .i64 Rb):=(ga Ba.out 2).trans rfl
             have iab:wc.cell? ⟨Ja,3,none⟩=some (.int .i64 Sb):=(ga Ba.out 3).trans rfl
             have gab:wc.cell? ⟨Ja,4,none⟩=some (.int .i64 Uc):=(ga Ba.out 4).trans rfl
             have fab:wc.cell? ⟨Ja,5,none⟩=some (.int .i64 fe):=(ga Ba.out 5).trans rfl
             have eab:wc.cell? ⟨Ja,6,none⟩=some (.string Je):=(ga Ba.out 6).trans rfl
             have N7:=aa Ba.out 0
             have M7:=aa Ba.out 1
             have L7:=aa Ba.out 2
             have K7:=aa Ba.out 3
             have J7:=aa Ba.out 4
             have I7:=aa Ba.out 5
             have H7:=aa Ba.out 6
             go_wp2
             go_ret
             exact ⟨by first|rfl|(simp [La,Ka] <;> rfl)|(simp [*,La,Ka] <;> rfl),by repeat (first|(with_reducible first|exact HB.out|apply qa|apply ia|apply ua|refine Aa ?_ Wa.out|refine Aa ?_ Dc.out)|exact HB.out)⟩
           ·replace c68:=Bool.eq_false_iff.mpr c68
            subst c68
            have H1:(some false)=some r:=by rw [if_neg (show ¬ (false=true) by decide)] at H;exact H
            clear H
            have H:=H1
            clear H1
            obtain rfl:=Option.some.inj H
            have zah:=mb.out
            have Lag:=qb.out
            have dab:wc.cell? ⟨Ja,0,none⟩=some (.int .i64 nc):=(ga Ba.out 0).trans rfl
            have cab:wc.cell? ⟨Ja,1,none⟩=some (.int .i64 Lb):=(ga Ba.out 1).trans rfl
            have bab:wc.cell? ⟨Ja,2,none⟩=some (.int .i64 Rb):=(ga Ba.out 2).trans rfl
            have aab:wc.cell? ⟨Ja,3,none⟩=some (.int .i64 Sb):=(ga Ba.out 3).trans rfl
            have Zaa:wc.cell? ⟨Ja,4,none⟩=some (.int .i64 Uc):=(ga Ba.out 4).trans rfl
            have Yaa:wc.cell? ⟨Ja,5,none⟩=some (.int .i64 fe):=(ga Ba.out 5).trans rfl
            have Xaa:wc.cell? ⟨Ja,6,none⟩=some (.string Je):=(ga Ba.out 6).trans rfl
            have G7:=aa Ba.out 0
            have F7:=aa Ba.out 1
            have E7:=aa Ba.out 2
            have D7:=aa Ba.out 3
            have u7:=aa Ba.out 4
            have o7:=aa Ba.out 5
            have m7:=aa Ba.out 6
            go_wp2
            go_ret
            exact ⟨by first|rfl|(simp [La,Ka] <;> rfl)|(simp [*,La,Ka] <;> rfl),by repeat (first|(with_reducible first|exact HB.out|apply qa|apply ia|apply ua|refine Aa ?_ Wa.out|refine Aa ?_ Dc.out)|exact HB.out)⟩
          ·replace c67:=Bool.eq_false_iff.mpr c67
           subst c67
           have H1:(some false)=some r:=by rw [if_neg (show ¬ (false=true) by decide)] at H;exact H
           clear H
           have H:=H1
           clear H1
           obtain rfl:=Option.some.inj H
           have yah:=mb.out
           have Kag:=qb.out
           have Waa:wc.cell? ⟨Ja,0,none⟩=some (.int .i64 nc):=(ga Ba.out 0).trans rfl
           have Vaa:wc.cell? ⟨Ja,1,none⟩=some (.int .i64 Lb):=(ga Ba.out 1).trans rfl
           have Uaa:wc.cell? ⟨Ja,2,none⟩=some (.int .i64 Rb):=(ga Ba.out 2).trans rfl
           have Taa:wc.cell? ⟨Ja,3,none⟩=some (.int .i64 Sb):=(ga Ba.out 3).trans rfl
           have Saa:wc.cell? ⟨Ja,4,none⟩=some (.int .i64 Uc):=(ga Ba.out 4).trans rfl
           have Raa:wc.cell? ⟨Ja,5,none⟩=some (.int .i64 fe):=(ga Ba.out 5).trans rfl
           have Qaa:wc.cell? ⟨Ja,6,none⟩=some (.string Je):=(ga Ba.out 6).trans rfl
           have l7:=aa Ba.out 0
           have j7:=aa Ba.out 1
           have e7:=aa Ba.out 2
           have Z6:=aa Ba.out 3
           have Y6:=aa Ba.out 4
           have X6:=aa Ba.out 5
           have V6:=aa Ba.out 6
           go_wp2
           go_ret
           exact ⟨by first|rfl|(simp [La,Ka] <;> rfl)|(simp [*,La,Ka] <;> rfl),by repeat (first|(with_reducible first|exact HB.out|apply qa|apply ia|apply ua|refine Aa ?_ Wa.out|refine Aa ?_ Dc.out)|exact HB.out)⟩
         ·replace c66:=Bool.eq_false_iff.mpr c66
          subst c66
          have H1:(some false)=some r:=by rw [if_neg (show ¬ (false=true) by decide)] at H;exact H
          clear H
          have H:=H1
          clear H1
          obtain rfl:=Option.some.inj H
          have xah:=mb.out
          have Jag:=qb.out
          have Paa:wc.cell? ⟨Ja,0,none⟩=some (.int .i64 nc):=(ga Ba.out 0).trans rfl
          have Oaa:wc.cell? ⟨Ja,1,none⟩=some (.int .i64 Lb):=(ga Ba.out 1).trans rfl
          have Naa:wc.cell? ⟨Ja,2,none⟩=some (.int .i64 Rb):=(ga Ba.out 2).trans rfl
          have Maa:wc.cell? ⟨Ja,3,none⟩=some (.int .i64 Sb):=(ga Ba.out 3).trans rfl
          have Laa:wc.cell? ⟨Ja,4,none⟩=some (.int .i64 Uc):=(ga Ba.out 4).trans rfl
          have Kaa:wc.cell? ⟨Ja,5,none⟩=some (.int .i64 fe):=(ga Ba.out 5).trans rfl
          have Jaa:wc.cell? ⟨Ja,6,none⟩=some (.string Je):=(ga Ba.out 6).trans rfl
          have U6:=aa Ba.out 0
          have S6:=aa Ba.out 1
          have R6:=aa Ba.out 2
          have Q6:=aa Ba.out 3
          have P6:=aa Ba.out 4
          have O6:=aa Ba.out 5
          have N6:=aa Ba.out 6
          go_wp2
          go_ret
          exact ⟨by first|rfl|(simp [La,Ka] <;> rfl)|(simp [*,La,Ka] <;> rfl),by repeat (first|(with_reducible first|exact HB.out|apply qa|apply ia|apply ua|refine Aa ?_ Wa.out|refine Aa ?_ Dc.out)|exact HB.out)⟩
        ·rw [if_neg c65] at H
         have S1:(nc == 2)=false:=beq_eq_false_iff_ne.mpr c65
         have R1:(nc != 2)=true:=bne_iff_ne.mpr c65
         by_cases c85:nc=3
         ·rw [if_pos c85] at H
          have O1:(nc == 3)=true:=beq_iff_eq.mpr c85
          have N1:(nc != 3)=false:=bne_eq_false_iff_eq.mpr c85
          clear c85
          by_cases c86:t103=true
          ·subst c86
           have H1:(some tD)=some r:=by rw [if_pos rfl] at H;exact H
           clear H
           have H:=H1
           clear H1
           obtain rfl:=Option.some.inj H
           have wah:=mb.out
           have Iag:=qb.out
           have Iaa:wc.cell? ⟨Ja,0,none⟩=some (.int .i64 nc):=(ga Ba.out 0).trans rfl
           have Haa:wc.cell? ⟨Ja,1,none⟩=some (.int .i64 Lb):=(ga Ba.out 1).trans rfl
           have Gaa:wc.cell? ⟨Ja,2,none⟩=some (.int .i64 Rb):=(ga Ba.out 2).trans rfl
           have Faa:wc.cell? ⟨Ja,3,none⟩=some (.int .i64 Sb):=(ga Ba.out 3).trans rfl
           have Eaa:wc.cell? ⟨Ja,4,none⟩=some (.int .i64 Uc):=(ga Ba.out 4).trans rfl
           have Daa:wc.cell? ⟨Ja,5,none⟩=some (.int .i64 fe):=(ga Ba.out 5).trans rfl
           have Caa:wc.cell? ⟨Ja,6,none⟩=some (.string Je):=(ga Ba.out 6).trans rfl
           have M6:=aa Ba.out 0
           have L6:=aa Ba.out 1
           have K6:=aa Ba.out 2
           have J6:=aa Ba.out 3
           have I6:=aa Ba.out 4
           have H6:=aa Ba.out 5
           have G6:=aa Ba.out 6
           go_wp2
           go_ret
           exact ⟨by first|rfl|(simp [La,Ka] <;> rfl)|(simp [*,La,Ka] <;> rfl),by repeat (first|(with_reducible first|exact HB.out|apply qa|apply ia|apply ua|refine Aa ?_ Wa.out|refine Aa ?_ Dc.out)|exact HB.out)⟩
          ·replace c86:=Bool.eq_false_iff.mpr c86
           subst c86
           have H1:(some false)=some r:=by rw [if_neg (show ¬ (false=true) by decide)] at H;exact H
           clear H
           have H:=H1
           clear H1
           obtain rfl:=Option.some.inj H
           have vah:=mb.out
           have Hag:=qb.out
           have Baa:wc.cell? ⟨Ja,0,none⟩=some (.int .i64 nc):=(ga Ba.out 0).trans rfl
           have Aaa:wc.cell? ⟨Ja,1,none⟩=some (.int .i64 Lb):=(ga Ba.out 1).trans rfl
           have zaa:wc.cell? ⟨Ja,2,none⟩=some (.int .i64 Rb):=(ga Ba.out 2).trans rfl
           have yaa:wc.cell? ⟨Ja,3,none⟩=some (.int .i64 Sb):=(ga Ba.out 3).trans rfl
           have xaa:wc.cell? ⟨Ja,4,none⟩=some (.int .i64 Uc):=(ga Ba.out 4).trans rfl
           have waa:wc.cell? ⟨Ja,5,none⟩=some (.int .i64 fe):=(ga Ba.out 5).trans rfl
           have vaa:wc.cell? ⟨Ja,6,none⟩=some (.string Je):=(ga Ba.out 6).trans rfl
           have F6:=aa Ba.out 0
           have E6:=aa Ba.out 1
           have D6:=aa Ba.out 2
           have C6:=aa Ba.out 3
           have u6:=aa Ba.out 4
           have m6:=aa Ba.out 5
           have l6:=aa Ba.out 6
           go_wp2
           go_ret
           exact ⟨by first|rfl|(simp [La,Ka] <;> rfl)|(simp [*,La,Ka] <;> rfl),by repeat (first|(with_reducible first|exact HB.out|apply qa|apply ia|apply ua|refine Aa ?_ Wa.out|refine Aa ?_ Dc.out)|exact HB.out)⟩
         ·rw [if_neg c85] at H
          have O1:(nc == 3)=false:=beq_eq_false_iff_ne.mpr c85
          have N1:(nc != 3)=true:=bne_iff_ne.mpr c85
          by_cases c91:nc=4
          ·rw [if_pos c91] at H
           have K1:(nc == 4)=true:=beq_iff_eq.mpr c91
           have J1:(nc != 4)=false:=bne_eq_false_iff_eq.mpr c91
           clear c91
           by_cases c92:Lb=0
           ·rw [if_pos c92] at H
            have I1:(Lb == 0)=true:=beq_iff_eq.mpr c92
            have G1:(Lb != 0)=false:=bne_eq_false_iff_eq.mpr c92
            clear c92
            by_cases c93:tD=true
            ·subst c93
             have H1:((Za.f Uc 0 (wrap64 (Ma - 1))).bind fun t112=>(some t112))=some r:=by rw [if_pos rfl] at H;exact H
             clear H
             have H:=H1
             clear H1
             replace H:=Option.bind_eq_some_iff.mp H
             obtain ⟨t112,L4,H⟩:=H
             replace H:(some t112)=some r:=H
             have A94:=ja.mk L4
             clear L4
             obtain rfl:=Option.some.inj H
             have uah:=mb.out
             have Gag:=qb.out
             have uaa:wc.cell? ⟨Ja,0,none⟩=some (.int .i64 nc):=(ga Ba.out 0).trans rfl
             have taa:wc.cell? ⟨Ja,1,none⟩=some (.int .i64 Lb):=(ga Ba.out 1).trans rfl
             have saa:wc.cell? ⟨Ja,2,none⟩=some (.int .i64 Rb):=(ga Ba.out 2).trans rfl
             have raa:wc.cell? ⟨Ja,3,none⟩=some (.int .i64 Sb):=(ga Ba.out 3).trans rfl
             have qaa:wc.cell? ⟨Ja,4,none⟩=some (.int .i64 Uc):=(ga Ba.out 4).trans rfl
             have paa:wc.cell? ⟨Ja,5,none⟩=some (.int .i64 fe):=(ga Ba.out 5).trans rfl
             have oaa:wc.cell? ⟨Ja,6,none⟩=some (.string Je):=(ga Ba.out 6).trans rfl
             have j6:=aa Ba.out 0
             have Z5:=aa Ba.out 1
             have Y5:=aa Ba.out 2
             have X5:=aa Ba.out 3
             have V5:=aa Ba.out 4
             have U5:=aa Ba.out 5
             have T5:=aa Ba.out 6
             have naa:wc.cell? ⟨Da,0,none⟩=some (.slice Eb Ta.length Db):=(ga za.out 0).trans rfl
             have maa:wc.cell? ⟨Da,1,none⟩=some (.int .i64 Pa):=(ga za.out 1).trans rfl
             have laa:wc.cell? ⟨Da,2,none⟩=some (.int .i64 Oa):=(ga za.out 2).trans rfl
             have kaa:wc.cell? ⟨Da,3,none⟩=some (.int .i64 Ma):=(ga za.out 3).trans rfl
             have jaa:wc.cell? ⟨Da,4,none⟩=some (.slice yc Ra.length Zb):=(ga za.out 4).trans rfl
             have S5:=aa za.out 0
             have R5:=aa za.out 1
             have Q5:=aa za.out 2
             have P5:=aa za.out 3
             have O5:=aa za.out 4
             go_wp2_with (first|(go_at_call 54;(with_reducible refine (Za.calls Uc 0 (wrap64 (Ma - 1)) t112 _ A94.out).mono ?_);rintro e w' ⟨rfl,⟨nd,rfl⟩⟩))
             go_ret
             exact ⟨by first|rfl|(simp [La,Ka] <;> rfl)|(simp [*,La,Ka] <;> rfl),by repeat (first|(with_reducible first|exact HB.out|apply qa|apply ia|apply ua|refine Aa ?_ Wa.out|refine Aa ?_ Dc.out)|exact HB.out)⟩
            ·replace c93:=Bool.eq_false_iff.mpr c93
             subst c93
             have H1:(some false)=some r:=by rw [if_neg (show ¬ (false=true) by decide)] at H;exact H
             clear H
             have H:=H1
             clear H1
             obtain rfl:=Option.some.inj H
             have tah:=mb.out
             have Fag:=qb.out
             have iaa:wc.cell? ⟨Ja,0,none⟩=some (.int .i64 nc):=(ga Ba.out 0).trans rfl
             have haa:wc.cell? ⟨Ja,1,none⟩=some (.int .i64 Lb):=(ga Ba.out 1).trans rfl
             have gaa:wc.cell? ⟨Ja,2,none⟩=some (.int .i64 Rb):=(ga Ba.out 2).trans rfl
             have faa:wc.cell? ⟨Ja,3,none⟩=some (.int .i64 Sb):=(ga Ba.out 3).trans rfl
             have eaa:wc.cell? ⟨Ja,4,none⟩=some (.int .i64 Uc):=(ga Ba.out 4).trans rfl
             have daa:wc.cell? ⟨Ja,5,none⟩=some (.int .i64 fe):=(ga Ba.out 5).trans rfl
             have caa:wc.cell? ⟨Ja,6,none⟩=some (.string Je):=(ga Ba.out 6).trans rfl
             have N5:=aa Ba.out 0
             have M5:=aa Ba.out 1
             have L5:=aa Ba.out 2
             have K5:=aa Ba.out 3
             have J5:=aa Ba.out 4
             have I5:=aa Ba.out 5
             have G5:=aa Ba.out 6
             go_wp2
             go_ret
             exact ⟨by first|rfl|(simp [La,Ka] <;> rfl)|(simp [*,La,Ka] <;> rfl),by repeat (first|(with_reducible first|exact HB.out|apply qa|apply ia|apply ua|refine Aa ?_ Wa.out|refine Aa ?_ Dc.out)|exact HB.out)⟩
           ·rw [if_neg c92] at H
            have I1:(Lb == 0)=false:=beq_eq_false_iff_ne.mpr c92
            have G1:(Lb != 0)=true:=bne_iff_ne.mpr c92
            obtain rfl:=Option.some.inj H
            have Cae:=mb.out
            have pae:=qb.out
            have I0:wc.cell? ⟨Ja,0,none⟩=some (.int .i64 nc):=(ga Ba.out 0).trans rfl
            have G0:wc.cell? ⟨Ja,1,none⟩=some (.int .i64 Lb):=(ga Ba.out 1).trans rfl
            have C0:wc.cell? ⟨Ja,2,none⟩=some (.int .i64 Rb):=(ga Ba.out 2).trans rfl
            have ZZ:wc.cell? ⟨Ja,3,none⟩=some (.int .i64 Sb):=(ga Ba.out 3).trans rfl
            have YZ:wc.cell? ⟨Ja,4,none⟩=some (.int .i64 Uc):=(ga Ba.out 4).trans rfl
            have XZ:wc.cell? ⟨Ja,5,none⟩=some (.int .i64 fe):=(ga Ba.out 5).trans rfl
            have WZ:wc.cell? ⟨Ja,6,none⟩=some (.string Je):=(ga Ba.out 6).trans rfl
            have pY:=aa Ba.out 0
            have oY:=aa Ba.out 1
            have nY:=aa Ba.out 2
            have mY:=aa Ba.out 3
            have lY:=aa Ba.out 4
            have kY:=aa Ba.out 5
            have jY:=aa Ba.out 6
            go_wp2
            go_ret
            exact ⟨by first|rfl|(simp [La,Ka] <;> rfl)|(simp [*,La,Ka] <;> rfl),by repeat (first|(with_reducible first|exact HB.out|apply qa|apply ia|apply ua|refine Aa ?_ Wa.out|refine Aa ?_ Dc.out)|exact HB.out)⟩
          ·rw [if_neg c91] at H
           have K1:(nc == 4)=false:=beq_eq_false_iff_ne.mpr c91
           have J1:(nc != 4)=true:=bne_iff_ne.mpr c91
           by_cases c102:nc=5
           ·rw [if_pos c102] at H
            have mU:(nc == 5)=true:=beq_iff_eq.mpr c102
            have lU:(nc != 5)=false:=bne_eq_false_iff_eq.mpr c102
            clear c102
            by_cases c103:t103=true
            ·subst c103
             have H1:(if Rb=0 then (if Sb=0 then (some (fe == 0)) else (some false)) else (some false))=some r:=by rw [if_pos rfl] at H;exact H
             clear H
             have H:=H1
             clear H1
             by_cases c104:Rb=0
             ·rw [if_pos c104] at H
              have kU:(Rb == 0)=true:=beq_iff_eq.mpr c104
              have jU:(Rb != 0)=false:=bne_eq_false_iff_eq.mpr c104
              clear c104
              by_cases c105:Sb=0
              ·rw [if_pos c105] at H
               have iU:(Sb == 0)=true:=beq_iff_eq.mpr c105
               have hU:(Sb != 0)=false:=bne_eq_false_iff_eq.mpr c105
               clear c105
               obtain rfl:=Option.some.inj H
               have Bae:=mb.out
               have oae:=qb.out
               have VZ:wc.cell? ⟨Ja,0,none⟩=some (.int .i64 nc):=(ga Ba.out 0).trans rfl
               have UZ:wc.cell? ⟨Ja,1,none⟩=some (.int .i64 Lb):=(ga Ba.out 1).trans rfl
               have TZ:wc.cell? ⟨Ja,2,none⟩=some (.int .i64 Rb):=(ga Ba.out 2).trans rfl
               have SZ:wc.cell? ⟨Ja,3,none⟩=some (.int .i64 Sb):=(ga Ba.out 3).trans rfl
               have RZ:wc.cell? ⟨Ja,4,none⟩=some (.int .i64 Uc):=(ga Ba.out 4).trans rfl
               have QZ:wc.cell? ⟨Ja,5,none⟩=some (.int .i64 fe):=(ga Ba.out 5).trans rfl
               have PZ:wc.cell? ⟨Ja,6,none⟩=some (.string Je):=(ga Ba.out 6).trans rfl
               have iY:=aa Ba.out 0
               have hY:=aa Ba.out 1
               have gY:=aa Ba.out 2
               have fY:=aa Ba.out 3
               have eY:=aa Ba.out 4
               have dY:=aa Ba.out 5
               have cY:=aa Ba.out 6
               go_wp2
               go_ret
               exact ⟨by first|rfl|(simp [La,Ka] <;> rfl)|(simp [*,La,Ka] <;> rfl),by repeat (first|(with_reducible first|exact HB.out|apply qa|apply ia|apply ua|refine Aa ?_ Wa.out|refine Aa ?_ Dc.out)|exact HB.out)⟩
              ·rw [if_neg c105] at H
               have iU:(Sb == 0)=false:=beq_eq_false_iff_ne.mpr c105
               have hU:(Sb != 0)=true:=bne_iff_ne.mpr c105
               obtain rfl:=Option.some.inj H
               have Aae:=mb.out
               have nae:=qb.out
               have OZ:wc.cell? ⟨Ja,0,none⟩=some (.int .i64 nc):=(ga Ba.out 0).trans rfl
               have NZ:wc.cell? ⟨Ja,1,none⟩=some (.int .i64 Lb):=(ga Ba.out 1).trans rfl
               have MZ:wc.cell? ⟨Ja,2,none⟩=some (.int .i64 Rb):=(ga Ba.out 2).trans rfl
               have LZ:wc.cell? ⟨Ja,3,none⟩=some (.int .i64 Sb):=(ga Ba.out 3).trans rfl
               have KZ:wc.cell? ⟨Ja,4,none⟩=some (.int .i64 Uc):=(ga Ba.out 4).trans rfl
               have JZ:wc.cell? ⟨Ja,5,none⟩=some (.int .i64 fe):=(ga Ba.out 5).trans rfl
               have IZ:wc.cell? ⟨Ja,6,none⟩=some (.string Je):=(ga Ba.out 6).trans rfl
               have bY:=aa Ba.out 0
               have aY:=aa Ba.out 1
               have ZX:=aa Ba.out 2
               have YX:=aa Ba.out 3
               have XX:=aa Ba.out 4
               have WX:=aa Ba.out 5
               have VX:=aa Ba.out 6
               go_wp2
               go_ret
               exact ⟨by first|rfl|(simp [La,Ka] <;> rfl)|(simp [*,La,Ka] <;> rfl),by repeat (first|(with_reducible first|exact HB.out|apply qa|apply ia|apply ua|refine Aa ?_ Wa.out|refine Aa ?_ Dc.out)|exact HB.out)⟩
             ·rw [if_neg c104] at H
              have kU:(Rb == 0)=false:=beq_eq_false_iff_ne.mpr c104
              have jU:(Rb != 0)=true:=bne_iff_ne.mpr c104
              obtain rfl:=Option.some.inj H
              have zae:=mb.out
              have mae:=qb.out
              have GZ:wc.cell? ⟨Ja,0,none⟩=some (.int .i64 nc):=(ga Ba.out 0).trans rfl
              have FZ:wc.cell? ⟨Ja,1,none⟩=some (.int .i64 Lb):=(ga Ba.out 1).trans rfl
              have EZ:wc.cell? ⟨Ja,2,none⟩=some (.int .i64 Rb):=(ga Ba.out 2).trans rfl
              have DZ:wc.cell? ⟨Ja,3,none⟩=some (.int .i64 Sb):=(ga Ba.out 3).trans rfl
              have CZ:wc.cell? ⟨Ja,4,none⟩=some (.int .i64 Uc):=(ga Ba.out 4).trans rfl
              have BZ:wc.cell? ⟨Ja,5,none⟩=some (.int .i64 fe):=(ga Ba.out 5).trans rfl
              have AZ:wc.cell? ⟨Ja,6,none⟩=some (.string Je):=(ga Ba.out 6).trans rfl
              have UX:=aa Ba.out 0
              have SX:=aa Ba.out 1
              have RX:=aa Ba.out 2
              have QX:=aa Ba.out 3
              have PX:=aa Ba.out 4
              have OX:=aa Ba.out 5
              have NX:=aa Ba.out 6
              go_wp2
              go_ret
              exact ⟨by first|rfl|(simp [La,Ka] <;> rfl)|(simp [*,La,Ka] <;> rfl),by repeat (first|(with_reducible first|exact HB.out|apply qa|apply ia|apply ua|refine Aa ?_ Wa.out|refine Aa ?_ Dc.out)|exact HB.out)⟩
            ·replace c103:=Bool.eq_false_iff.mpr c103
             subst c103
             have H1:(some false)=some r:=by rw [if_neg (show ¬ (false=true) by decide)] at H;exact H
             clear H
             have H:=H1
             clear H1
             obtain rfl:=Option.some.inj H
             have yae:=mb.out
             have lae:=qb.out
             have zZ:wc.cell? ⟨Ja,0,none⟩=some (.int .i64 nc):=(ga Ba.out 0).trans rfl
             have yZ:wc.cell? ⟨Ja,1,none⟩=some (.int .i64 Lb):=(ga Ba.out 1).trans rfl
             have xZ:wc.cell? ⟨Ja,2,none⟩=some (.int .i64 Rb):=(ga Ba.out 2).trans rfl
             have wZ:wc.cell? ⟨Ja,3,none⟩=some (.int .i64 Sb):=(ga Ba.out 3).trans rfl
             have vZ:wc.cell? ⟨Ja,4,none⟩=some (.int .i64 Uc):=(ga Ba.out 4).trans rfl
             have uZ:wc.cell? ⟨Ja,5,none⟩=some (.int .i64 fe):=(ga Ba.out 5).trans rfl
             have tZ:wc.cell? ⟨Ja,6,none⟩=some (.string Je):=(ga Ba.out 6).trans rfl
             have MX:=aa Ba.out 0
             have LX:=aa Ba.out 1
             have KX:=aa Ba.out 2
             have JX:=aa Ba.out 3
             have IX:=aa Ba.out 4
             have GX:=aa Ba.out 5
             have FX:=aa Ba.out 6
             go_wp2
             go_ret
             exact ⟨by first|rfl|(simp [La,Ka] <;> rfl)|(simp [*,La,Ka] <;> rfl),by repeat (first|(with_reducible first|exact HB.out|apply qa|apply ia|apply ua|refine Aa ?_ Wa.out|refine Aa ?_ Dc.out)|exact HB.out)⟩
           ·rw [if_neg c102] at H
            have mU:(nc == 5)=false:=beq_eq_false_iff_ne.mpr c102
            have lU:(nc != 5)=true:=bne_iff_ne.mpr c102
            by_cases c114:nc=6
            ·rw [if_pos c114] at H
             have fU:(nc == 6)=true:=beq_iff_eq.mpr c114
             have eU:(nc != 6)=false:=bne_eq_false_iff_eq.mpr c114
             clear c114
             by_cases c115:Lb=0
             ·rw [if_pos c115] at H
              have dU:(Lb == 0)=true:=beq_iff_eq.mpr c115
              have cU:(Lb != 0)=false:=bne_eq_false_iff_eq.mpr c115
              clear c115
              by_cases c116:t104=true
              ·subst c116
               have H1:(if Sb=0 then (some (fe == 0)) else (some false))=some r:=by rw [if_pos rfl] at H;exact H
               clear H
               have H:=H1
               clear H1
               by_cases c117:Sb=0
               ·rw [if_pos c117] at H
                have bU:(Sb == 0)=true:=beq_iff_eq.mpr c117
                have aU:(Sb != 0)=false:=bne_eq_false_iff_eq.mpr c117
                clear c117
                obtain rfl:=Option.some.inj H
                have xae:=mb.out
                have kae:=qb.out
                have sZ:wc.cell? ⟨Ja,0,none⟩=some (.int .i64 nc):=(ga Ba.out 0).trans rfl
                have rZ:wc.cell? ⟨Ja,1,none⟩=some (.int .i64 Lb):=(ga Ba.out 1).trans rfl
                have qZ:wc.cell? ⟨Ja,2,none⟩=some (.int .i64 Rb):=(ga Ba.out 2).trans rfl
                have pZ:wc.cell? ⟨Ja,3,none⟩=some (.int .i64 Sb):=(ga Ba.out 3).trans rfl
                have oZ:wc.cell? ⟨Ja,4,none⟩=some (.int .i64 Uc):=(ga Ba.out 4).trans rfl
                have nZ:wc.cell? ⟨Ja,5,none⟩=some (.int .i64 fe):=(ga Ba.out 5).trans rfl
                have mZ:wc.cell? ⟨Ja,6,none⟩=some (.string Je):=(ga Ba.out 6).trans rfl
                have EX:=aa Ba.out 0
                have DX:=aa Ba.out 1
                have CX:=aa Ba.out 2
                have BX:=aa Ba.out 3
                have AX:=aa Ba.out 4
                have zX:=aa Ba.out 5
                have yX:=aa Ba.out 6
                go_wp2
                go_ret
                exact ⟨by first|rfl|(simp [La,Ka] <;> rfl)|(simp [*,La,Ka] <;> rfl),by repeat (first|(with_reducible first|exact HB.out|apply qa|apply ia|apply ua|refine Aa ?_ Wa.out|refine Aa ?_ Dc.out)|exact HB.out)⟩
               ·rw [if_neg c117] at H
                have bU:(Sb == 0)=false:=beq_eq_false_iff_ne.mpr c117
                have aU:(Sb != 0)=true:=bne_iff_ne.mpr c117
                obtain rfl:=Option.some.inj H
                have wae:=mb.out
                have jae:=qb.out
                have lZ:wc.cell? ⟨Ja,0,none⟩=some (.int .i64 nc):=(ga Ba.out 0).trans rfl
                have kZ:wc.cell? ⟨Ja,1,none⟩=some (.int .i64 Lb):=(ga Ba.out 1).trans rfl
                have jZ:wc.cell? ⟨Ja,2,none⟩=some (.int .i64 Rb):=(ga Ba.out 2).trans rfl
                have iZ:wc.cell? ⟨Ja,3,none⟩=some (.int .i64 Sb):=(ga Ba.out 3).trans rfl
                have gZ:wc.cell? ⟨Ja,4,none⟩=some (.int .i64 Uc):=(ga Ba.out 4).trans rfl
                have fZ:wc.cell? ⟨Ja,5,none⟩=some (.int .i64 fe):=(ga Ba.out 5).trans rfl
                have eZ:wc.cell? ⟨Ja,6,none⟩=some (.string Je):=(ga Ba.out 6).trans rfl
                have xX:=aa Ba.out 0
                have wX:=aa Ba.out 1
                have vX:=aa Ba.out 2
                have uX:=aa Ba.out 3
                have sX:=aa Ba.out 4
                have rX:=aa Ba.out 5
                have qX:=aa Ba.out 6
                go_wp2
                go_ret
                exact ⟨by first|rfl|(simp [La,Ka] <;> rfl)|(simp [*,La,Ka] <;> rfl),by repeat (first|(with_reducible first|exact HB.out|apply qa|apply ia|apply ua|refine Aa ?_ Wa.out|refine Aa ?_ Dc.out)|exact HB.out)⟩
              ·replace c116:=Bool.eq_false_iff.mpr c116
               subst c116
               have H1:(some false)=some r:=by rw [if_neg (show ¬ (false=true) by decide)] at H;exact H
               clear H
               have H:=H1
               clear H1
               obtain rfl:=Option.some.inj H
               have vae:=mb.out
               have iae:=qb.out
               have dZ:wc.cell? ⟨Ja,0,none⟩=some (.int .i64 nc):=(ga Ba.out 0).trans rfl
               have cZ:wc.cell? ⟨Ja,1,none⟩=some (.int .i64 Lb):=(ga Ba.out 1).trans rfl
               have bZ:wc.cell? ⟨Ja,2,none⟩=some (.int .i64 Rb):=(ga Ba.out 2).trans rfl
               have aZ:wc.cell? ⟨Ja,3,none⟩=some (.int .i64 Sb):=(ga Ba.out 3).trans rfl
               have ZY:wc.cell? ⟨Ja,4,none⟩=some (.int .i64 Uc):=(ga Ba.out 4).trans rfl
               have YY:wc.cell? ⟨Ja,5,none⟩=some (.int .i64 fe):=(ga Ba.out 5).trans rfl
               have XY:wc.cell? ⟨Ja,6,none⟩=some (.string Je):=(ga Ba.out 6).trans rfl
               have pX:=aa Ba.out 0
               have oX:=aa Ba.out 1
               have nX:=aa Ba.out 2
               have mX:=aa Ba.out 3
               have lX:=aa Ba.out 4
               have kX:=aa Ba.out 5
               have jX:=aa Ba.out 6
               go_wp2
               go_ret
               exact ⟨by first|rfl|(simp [La,Ka] <;> rfl)|(simp [*,La,Ka] <;> rfl),by repeat (first|(with_reducible first|exact HB.out|apply qa|apply ia|apply ua|refine Aa ?_ Wa.out|refine Aa ?_ Dc.out)|exact HB.out)⟩
             ·rw [if_neg c115] at H
              have dU:(Lb == 0)=false:=beq_eq_false_iff_ne.mpr c115
              have cU:(Lb != 0)=true:=bne_iff_ne.mpr c115
              obtain rfl:=Option.some.inj H
              have uae:=mb.out
              have hae:=qb.out
              have WY:wc.cell? ⟨Ja,0,none⟩=some (.int .i64 nc):=(ga Ba.out 0).trans rfl
              have VY:wc.cell? ⟨Ja,1,none⟩=some (.int .i64 Lb):=(ga Ba.out 1).trans rfl
              have UY:wc.cell? ⟨Ja,2,none⟩=some (.int .i64 Rb):=(ga Ba.out 2).trans rfl
              have SY:wc.cell? ⟨Ja,3,none⟩=some (.int .i64 Sb):=(ga Ba.out 3).trans rfl
              have RY:wc.cell? ⟨Ja,4,none⟩=some (.int .i64 Uc):=(ga Ba.out 4).trans rfl
              have QY:wc.cell? ⟨Ja,5,none⟩=some (.int .i64 fe):=(ga Ba.out 5).trans rfl
              have PY:wc.cell? ⟨Ja,6,none⟩=some (.string Je):=(ga Ba.out 6).trans rfl
              have iX:=aa Ba.out 0
              have gX:=aa Ba.out 1
              have fX:=aa Ba.out 2
              have eX:=aa Ba.out 3
              have dX:=aa Ba.out 4
              have cX:=aa Ba.out 5
              have bX:=aa Ba.out 6
              go_wp2
              go_ret
              exact ⟨by first|rfl|(simp [La,Ka] <;> rfl)|(simp [*,La,Ka] <;> rfl),by repeat (first|(with_reducible first|exact HB.out|apply qa|apply ia|apply ua|refine Aa ?_ Wa.out|refine Aa ?_ Dc.out)|exact HB.out)⟩
            ·rw [if_neg c114] at H
             have fU:(nc == 6)=false:=beq_eq_false_iff_ne.mpr c114
             have eU:(nc != 6)=true:=bne_iff_ne.mpr c114
             obtain rfl:=Option.some.inj H
             have tae:=mb.out
             have gae:=qb.out
             have OY:wc.cell? ⟨Ja,0,none⟩=some (.int .i64 nc):=(ga Ba.out 0).trans rfl
             have NY:wc.cell? ⟨Ja,1,none⟩=some (.int .i64 Lb):=(ga Ba.out 1).trans rfl
             have MY:wc.cell? ⟨Ja,2,none⟩=some (.int .i64 Rb):=(ga Ba.out 2).trans rfl
             have LY:wc.cell? ⟨Ja,3,none⟩=some (.int .i64 Sb):=(ga Ba.out 3).trans rfl
             have KY:wc.cell? ⟨Ja,4,none⟩=some (.int .i64 Uc):=(ga Ba.out 4).trans rfl
             have JY:wc.cell? ⟨Ja,5,none⟩=some (.int .i64 fe):=(ga Ba.out 5).trans rfl
             have IY:wc.cell? ⟨Ja,6,none⟩=some (.string Je):=(ga Ba.out 6).trans rfl
             have aX:=aa Ba.out 0
             have ZW:=aa Ba.out 1
             have YW:=aa Ba.out 2
             have XW:=aa Ba.out 3
             have WW:=aa Ba.out 4
             have VW:=aa Ba.out 5
             have UW:=aa Ba.out 6
             go_wp2
             go_ret
             exact ⟨by first|rfl|(simp [La,Ka] <;> rfl)|(simp [*,La,Ka] <;> rfl),by repeat (first|(with_reducible first|exact HB.out|apply qa|apply ia|apply ua|refine Aa ?_ Wa.out|refine Aa ?_ Dc.out)|exact HB.out)⟩
end Go.Proofs.Ytmifdccaajngcaa.P
end
