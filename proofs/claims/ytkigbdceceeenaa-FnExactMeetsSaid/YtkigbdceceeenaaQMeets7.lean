import Derived.Shelf.Abstract
import Derived.Test.YtkigbdceceeenaaQMeets1
import Derived.Test.YtkigbdceceeenaaQMeets6
import Derived.Outline
import Derived.Test.YtkigbdceceeenaaQMeets5
import Derived.Test.YtkigbdceceeenaaQMeets4
import Derived.RegionTactic
import Derived.Deep.QuietTactic
import Derived.BigQuiet
import Derived.Test.YtkigbdceceeenaaQMeets2
import Derived.Test.YtkigbdceceeenaaQMeets3
set_option maxHeartbeats 8000000
set_option maxRecDepth 100000
section
namespace Go.Proofs.Ytkigbdceceeenaa.P
open Go.RowKit Go.Proofs.Pa.Ub Go.Proofs.Pa.Sd Go.Proofs.Pa.Xe
set_option linter.unusedVariables false
set_option linter.unusedSimpArgs false
theorem QI (g:Nat) (lb:Array Value) (p:Int→Bool) (eg:∀ args w,(callFunc g args).run Try.prog w = .ok (.enter g args) w) (A0:Option Addr) (c0:Nat) (l0:List Int) (w:World) (Ck:Kd.C (Kd.int .i64) w A0 l0.length l0) (hc0:l0.length ≤ c0)
  (hp:∀ (W:World) (x:Int),Below w.heap.size w W→Calls Try.prog g (#[(.int .i64 x)] ++ lb) W fun e w'=>e = .returned (.bool (p x))∧Below W.heap.size W w') :
  Calls Try.prog 115 #[.slice A0 l0.length c0,.func (.func g) #[] lb] w fun e w'=>(∃ i:Int,e = .returned (.int .i64 i)∧decide (0 ≤ i)=l0.any p)∧Below w.heap.size w w':=by
 have hmx:=Ck.2.1;have fl:=ga.mk Ck;have dI:=ga.mk hc0;have HP:=ga.mk hp;clear Ck hc0 hp;go_enter Try.func115,Try.ntmps115;go_wp2
 go_loopg [5,8] l0.length (fun gg _ s8 wr=>∃ kk:Nat,kk ≤ l0.length∧l0.length - kk ≤ gg∧s8 = .int .i64 kk∧ga (Below w.heap.size w wr)∧ga ((l0.take kk).any p=false))
 case atStart=>exact ⟨0,Nat.zero_le _,by omega,rfl,⟨Below.refl _ w⟩,⟨by simp⟩⟩
 case round =>
  (try clear BW);(try clear HA);obtain ⟨kk,hkk,hg,rfl,BW,HA⟩:=hrel
  by_cases hlt:kk < l0.length
  ·have p1:0 ≤ (kk:Int):=by omega
   have q1:(kk:Int) < (l0.length:Int):=by omega
   obtain ⟨ad,e1,hx0⟩:=Kd.Ik fl.out (kk:Int) p1 q1;cases e1;simp only [Int.toNat_natCast] at hx0;replace hx0:=(BW.out.cell (World.block_lt_of_cell? w _ hx0)).trans hx0;have er:=HP.out wr (rd l0 (kk:Int)) BW.out;cases hq:p (rd l0 (kk:Int)) with
   | true =>
    rw [hq] at er;go_wp2_with (go_at_fn g;refine er.mono ?_;rintro e w1 ⟨rfl,rA⟩);go_ret;exact ⟨⟨_,rfl,by rw [pP (d:=0) hlt hq];simp⟩,BW.out.trans (rA.mono BW.out.size)⟩
   | false =>
    rw [hq] at er;go_wp2_with (go_at_fn g;refine er.mono ?_;rintro e w1 ⟨rfl,rA⟩)
    go_roundg (l0.length - (kk + 1))
    case measure=>omega
    case rel=>exact ⟨kk + 1,by omega,by omega,by go_num,⟨BW.out.trans (rA.mono BW.out.size)⟩,⟨Lw (d:=0) hlt HA.out hq⟩⟩
  ·have haq:¬ (kk:Int) < (l0.length:Int):=by omega
   have he:kk=l0.length:=by omega
   subst he;go_wp2;go_ret;exact ⟨⟨_,rfl,by have h_:=HA.out;rw [List.take_length] at h_;rw [h_];simp⟩,BW.out⟩
theorem sA (g:Nat) (lb:Array Value) (p:Int→Bool) (eg:∀ args w,(callFunc g args).run Try.prog w = .ok (.enter g args) w) (A0:Option Addr) (c0:Nat) (l0:List Int) (w:World) (Ck:Kd.C (Kd.int .i64) w A0 l0.length l0) (hc0:l0.length ≤ c0)
  (hp:∀ (W:World) (x:Int),Below w.heap.size w W→Calls Try.prog g (#[(.int .i64 x)] ++ lb) W fun e w'=>e = .returned (.bool (p x))∧Below W.heap.size W w') :
  Calls Try.prog 99 #[.slice A0 l0.length c0,.func (.func g) #[] lb] w fun e w'=>e = .returned (.bool (l0.any p))∧Below w.heap.size w w':=by
 have HI:=ga.mk (QI g lb p eg A0 c0 l0 w Ck hc0 hp);clear Ck hc0 hp;go_enter Try.func99,Try.ntmps99;go_wp2_with (go_at_call 115;refine HI.out.mono ?_;rintro e w1 ⟨⟨i,rfl,hi⟩,rA⟩;have HD:=ga.mk hi;clear hi);go_ret;exact ⟨by rw [← HD.out];first|rfl|simp,rA⟩
def Yk (a b c:Int):Bool:=decide (b ≤ a) && decide (a ≤ c)
theorem Xk (a b c:Int) (w:World):Calls Try.prog 55 #[.int .i64 a,.int .i64 b,.int .i64 c] w fun e w'=>e = .returned (.bool (Yk a b c))∧ec w w' :=
 bh.calls a b c (Yk a b c) w (by
  unfold bh.f Yk
  by_cases h:a ≥ b
  ·rw [if_pos h];have h':b ≤ a:=h;simp [h']
  ·rw [if_neg h];have h':¬ b ≤ a:=h
   simp [h'])
def Ow (l:List Int) (p v:Int):Bool:=Yk (l.length:Int) 1 4 && !(l.any fun n=>!Yk n 1 16) && Yk p 0 (if v < 6 then v else 6) && decide (v ≤ 20)
theorem MI (W:World) (x:Int):Calls Try.prog 100 #[.int .i64 x] W fun e w'=>e = .returned (.bool (!Yk x 1 16))∧Below W.heap.size W w':=by
 have HC:=ga.mk (Xk x 1 16);generalize Yk x 1 16=b at HC ⊢;go_enter Try.func100,Try.ntmps100;go_wp2_with (go_at_call 55;refine (HC.out _).mono ?_;rintro e w1 ⟨rfl,rA⟩;have HD:=ga.mk rA.below;clear rA);go_ret;exact ⟨rfl,HD.out⟩
theorem VH (p0 p1 p2 p3:Value) (A:Option Addr) (c:Nat) (w:World) :
  Calls Try.prog 101 #[.agg #[p0,p1,p2,p3],.slice A 0 c,.int .i64 0] w fun e w'=>e = .returned (.bool true)∧Below w.heap.size w w':=by
 go_enter Try.func101,Try.ntmps101;go_wp2
 go_loop [25] (fun i=>i = .int .i64 0) (fun _=>0)
 case atStart=>exact rfl
 case round =>
  obtain rfl:=hrel;go_wp2;go_ret;exact ⟨rfl,qa (qa (Below.refl _ _) _) _⟩
theorem bE (A0 A3:Option Addr) (c0 c3:Nat) (l0:List Int) (a1 a2:Int) (w:World) (Ck:Kd.C (Kd.int .i64) w A0 l0.length l0) (hc0:l0.length ≤ c0) :
  Calls Try.prog 76 #[.agg #[.slice A0 l0.length c0,.int .i64 a1,.int .i64 a2,.slice A3 0 c3]] w fun e w'=>e = .returned (.bool (Ow l0 a1 a2))∧Below w.heap.size w w':=by
 have eg:=enters_of Try.func100 (by kernel_rfl) rfl;have hmx:=Ck.2.1;have ZP:=ga.mk (Xk (l0.length:Int) 1 4);have HC3:=ga.mk (Xk a1 0 (if a2 < 6 then a2 else 6));have HF:=ga.mk (fun (W:World) (hb:Below w.heap.size w W)=>sA 100 #[] (fun n=>!Yk n 1 16) eg A0 c0 l0 W (Kd.Jb Ck hb) hc0 (fun W x _=>MI W x));clear Ck hc0;unfold Ow
 by_cases h6:a2 < 6
 all_goals
  have hmin:min 6 a2=if a2 < 6 then a2 else 6:=by split <;> omega
  first|rw [if_pos h6] at HC3 hmin ⊢|rw [if_neg h6] at HC3 hmin ⊢
  cases rA:Yk (l0.length:Int) 1 4 with
  | false =>
   go_enter Try.func76,Try.ntmps76;go_wp2_with (first|(go_at_call 55;refine (Xk _ _ _ _).mono ?_;rintro e w1 ⟨rfl,⟨n,rfl⟩⟩));go_ret;exact ⟨rfl,ja (qa (Below.refl _ _) _) _⟩
  | true =>
   cases bk:(l0.any fun n=>!Yk n 1 16) with
   | true =>
    rw [bk] at HF;go_enter Try.func76,Try.ntmps76;go_wp2_with (first|(go_at_call 55;refine (Xk _ _ _ _).mono ?_;rintro e w1 ⟨rfl,⟨n,rfl⟩⟩)|(go_at_call 99;refine (HF.out _ (ja (qa (Below.refl _ _) _) _)).mono ?_;rintro e w1 ⟨rfl,hb⟩;have HB:=ga.mk (Qa (ja (qa (Below.refl _ _) _) _) hb);clear hb));go_ret;exact ⟨rfl,HB.out⟩
   | false =>
    rw [bk] at HF;go_enter Try.func76,Try.ntmps76;go_wp2_with (first|(go_at_call 55;(with_reducible refine (Xk _ _ _ _).mono ?_);rintro e w1 ⟨rfl,⟨n,rfl⟩⟩)|(go_at_call 99;(with_reducible refine (HF.out _ (ja (qa (Below.refl _ _) _) _)).mono ?_);rintro e w1 ⟨rfl,hb⟩;have HB:=ga.mk (Qa (ja (qa (Below.refl _ _) _) _) hb);obtain ⟨MY,xX⟩:=U1 hb;have GK:=hb.size;simp at GK;clear hb)|(go_at_call 101;(with_reducible refine (VH _ _ _ _ _ _ _).mono ?_);rintro e w2 ⟨rfl,hb⟩;have Mt:=ga.mk (Qa (ja HB.out _) hb);clear hb))
    all_goals
     go_ret
     first
      | exact ⟨by simp [*],Mt.out⟩
      | exact ⟨by simp [*],ja HB.out _⟩
def Eg.f (Ra:List Int) (La:Int) (Ja:Int) (BK:List (yA)):Option Bool:=if BK.length=0 then some (Ow Ra La Ja) else none
theorem Eg.calls (Xa:Option Addr) (Ya:Nat) (Ra:List Int) (La:Int) (Ja:Int) (U9:Option Addr) (U7:Nat) (BK:List (yA)) (r:Bool) (w:World) (Xd:Kd.C (Kd.int .i64) w Xa Ra.length Ra) (Vd:Ra.length ≤ Ya) (lau:Kd.C iap w U9 BK.length BK) (Aaw:BK.length ≤ U7) (h:Eg.f Ra La Ja BK=some r) :
  Calls Try.prog 76 #[.agg #[.slice Xa Ra.length Ya,.int .i64 La,.int .i64 Ja,.slice U9 BK.length U7]] w fun e w'=>e = .returned (.bool r)∧Below w.heap.size w w':=by
 unfold Eg.f at h
 split at h
 ·rename_i h0;injection h with h
  subst h;rw [h0];exact bE Xa U9 Ya U7 Ra La Ja w Xd Vd
 ·cases h
theorem Ev.pos {α:Type} {c:Prop} [Decidable c] {f g:Nat→Option α} {r:α} (h:c) (k:Ev f r):Ev (fun n=>if c then f n else g n) r:=Ev.congr (fun n=>if_pos h) k
theorem Ev.neg {α:Type} {c:Prop} [Decidable c] {f g:Nat→Option α} {r:α} (h:¬ c) (k:Ev g r):Ev (fun n=>if c then f n else g n) r:=Ev.congr (fun n=>if_neg h) k
theorem Ev.val {α β:Type} {a:α} {f:Nat→α→Option β} {r:β} (k:Ev (fun n=>f n a) r):Ev (fun n=>(some a).bind (f n)) r:=Ev.congr (fun n=>rfl) k
theorem Ev.here {α:Type} {o:Option α} {r:α} (h:o=some r):Ev (fun _=>o) r:=Ev.congr (fun n=>h) (Ev.now r)
theorem Ev.eq {α:Type} {g:Nat→Option α} {r r':α} (h:Ev g r) (h':Ev g r'):r=r':=by
 obtain ⟨K,h⟩:=h;obtain ⟨K',h'⟩:=h';have h1:=h (max K K') (by omega);rw [h' (max K K') (by omega)] at h1;exact (Option.some.inj h1).symm
theorem Yg {x:Int} (h:-9223372036854775808 ≤ x) (h':x ≤ 9223372036854775807):wrap64 x=x:=by
 unfold wrap64;omega
theorem De {i n:Nat} (h:i < n) (hn:n ≤ 9223372036854775807):wrap64 ((i:Int) + 1)=((i + 1:Nat):Int):=by
 rw [Yg (by omega) (by omega)];omega
theorem vk {ρ:Type} {n:Nat} {r:ρ} (P:Nat→Prop) (hend:P n) (hstep:∀ i,i < n→P (i + 1)→P i):∀ i,i ≤ n→P i:=by
 have key:∀ d i,i + d=n→P i:=by
  intro d
  induction d with
  | zero =>
   intro i hi;have:i=n:=by omega
   exact this ▸ hend
  | succ d ih =>
   intro i hi;exact hstep i (by omega) (ih (i + 1) (by omega))
 intro i hi;exact key (n - i) i (by omega)
theorem kD {α:Type} {m:List α} {z:α} {i:Nat} (h:i < m.length):(m.take i ++ List.replicate (m.length - i) z).set i (m.getD i z)=m.take (i + 1) ++ List.replicate (m.length - (i + 1)) z:=by
 rw [List.set_append_right _ _ (by rw [List.length_take];omega),List.length_take,Nat.min_eq_left (by omega),Nat.sub_self];rw [show m.length - i=(m.length - (i + 1)) + 1 from by omega,List.replicate_succ,List.set_cons_zero,List.take_succ_eq_append_getElem h,List.append_assoc];simp [List.getD_eq_getElem?_getD,List.getElem?_eq_getElem h]
theorem OE {α:Type} {m:List α} {z:α}:m.take 0 ++ List.replicate (m.length - 0) z=List.replicate m.length z:=by simp
theorem lD {α:Type} {m:List α} {z:α}:m.take m.length ++ List.replicate (m.length - m.length) z=m:=by simp
theorem KR (l:List Int) (i:Nat):rd l (i:Int)=l.getD i 0:=rfl
def iota (m:Int) (n:Nat):List Int:=(List.range n).map fun (j:Nat)=>m + (j:Int)
theorem Yj (m:Int) (n:Nat):(iota m n).length=n:=by simp [iota]
theorem JE {m:Int} {n i:Nat} (h:i < n):(iota m n).getD i 0=m + i:=by simp [iota,List.getD_eq_getElem?_getD,h]
theorem FI {α:Type} {m l:List α} {z:α} {i:Nat} (hl:l.length=m.length) (h:i < m.length):(m.take i ++ l.drop i).set i (m.getD i z)=m.take (i + 1) ++ l.drop (i + 1):=by
 rw [List.set_append_right _ _ (by rw [List.length_take];omega),List.length_take,Nat.min_eq_left (by omega),Nat.sub_self];rw [List.drop_eq_getElem_cons (by omega),List.set_cons_zero,List.take_succ_eq_append_getElem h,List.append_assoc];simp [List.getD_eq_getElem?_getD,List.getElem?_eq_getElem h]
theorem PI (a b c:Int):bh.f a b c=some (Yk a b c):=by
 unfold bh.f Yk
 by_cases h:a ≥ b
 ·rw [if_pos h];have h':b ≤ a:=h;simp [h']
 ·rw [if_neg h];have h':¬ b ≤ a:=h;simp [h']
theorem OQ (l:List Int) (hl:l.length ≤ 35184372088832):Ev (fun k=>Fe.f k l) l:=by
 refine Ev.congr (f:=fun k=>Fe.l0 k l (List.replicate l.length 0) 0) (fun k=>?_) ?_
 ·unfold Fe.f;rw [if_pos (by omega),if_pos (by omega)]
  rfl
 ·have key:=vk (r:=l) (n:=l.length) (fun i=>Ev (fun k=>Fe.l0 k l (l.take i ++ List.replicate (l.length - i) 0) (i:Int)) l) ?_ ?_ 0 (by omega)
  ·simpa using key
  ·refine Ev.step (fun k=>by rw [Fe.l0]) ?_;refine Ev.neg (by omega) ?_;rw [lD];exact Ev.now l
  ·intro i hi h;refine Ev.step (fun k=>by rw [Fe.l0]) ?_;refine Ev.pos (by omega) (Ev.pos (by omega) (Ev.pos (by simp;omega) ?_));rw [De hi (by omega),KR,Int.toNat_natCast,kD hi];exact h
theorem QE (l:List Int) (hl:l.length ≤ 9223372036854775807):Ev (fun k=>jd.f k l l) true:=by
 refine Ev.congr (f:=fun k=>jd.l0 k l l 0) (fun k=>?_) ?_
 ·unfold jd.f;rw [if_pos rfl]
 ·refine vk (r:=true) (n:=l.length) (fun i=>Ev (fun k=>jd.l0 k l l (i:Int)) true) ?_ ?_ 0 (by omega)
  ·refine Ev.step (fun k=>by rw [jd.l0]) ?_;exact Ev.neg (by omega) (Ev.now _)
  ·intro i hi h;refine Ev.step (fun k=>by rw [jd.l0]) ?_;refine Ev.pos (by omega) (Ev.pos (by omega) (Ev.pos (by omega) (Ev.pos rfl ?_)));rw [De hi hl];exact h
theorem JV (l:List Int) (a:Int) (ha:0 ≤ a) (ha':a ≤ 1048576) (hl:l.length ≤ 9223372036854775807):∃ t,Kh.f l a=some t∧t ≤ a∧(0 ≤ t→t + l.length=a):=by
 unfold Kh.f;rw [Yg (by omega) (by omega)]
 split
 ·exact ⟨-1,rfl,by omega,by omega⟩
 ·exact ⟨_,rfl,by omega,by omega⟩
def Ym (x:Qn):Be:=⟨x.f0,x.f1,x.f2,x.f3,x.f4,x.f5,x.f6⟩
theorem qJ (l:List Qn) (hl:l.length ≤ 4398046511104):Ev (fun k=>Cd.f k l) (l.map Ym):=by
 refine Ev.congr (f:=fun k=>Cd.l0 k l (List.replicate l.length Du) 0) (fun k=>?_) ?_
 ·unfold Cd.f;rw [if_pos (by omega),if_pos (by omega)]
  rfl
 ·have key:=vk (r:=l.map Ym) (n:=l.length) (fun i=>Ev (fun k=>Cd.l0 k l ((l.map Ym).take i ++ List.replicate ((l.map Ym).length - i) Du) (i:Int)) (l.map Ym)) ?_ ?_ 0 (by omega)
  ·rw [OE,List.length_map] at key;exact key
  ·refine Ev.step (fun k=>by rw [Cd.l0]) ?_;refine Ev.neg (by omega) ?_;have e:=lD (m:=l.map Ym) (z:=Du);rw [List.length_map] at e;rw [List.length_map,e];exact Ev.now _
  ·intro i hi h;refine Ev.step (fun k=>by rw [Cd.l0]) ?_;refine Ev.pos (by omega) (Ev.pos (by omega) ?_);unfold Kl.f;refine Ev.val (Ev.pos (by simp;omega) ?_)
   have hc:Ym (Jc l (i:Int))=(l.map Ym).getD i Du:=by
    simp [Jc,List.getD_eq_getElem?_getD,hi]
   have hf:=kD (m:=l.map Ym) (z:=Du) (i:=i) (by rw [List.length_map];exact hi);rw [← hc] at hf;rw [De hi (by omega),Int.toNat_natCast];have e:=hf ▸ h;exact e
theorem yJ (l:List Be) (hl:l.length ≤ 9223372036854775807):Ev (fun k=>mc.f k l l) true:=by
 refine Ev.congr (f:=fun k=>mc.l0 k l l 0) (fun k=>?_) ?_
 ·unfold mc.f;rw [if_pos rfl]
 ·refine vk (r:=true) (n:=l.length) (fun i=>Ev (fun k=>mc.l0 k l l (i:Int)) true) ?_ ?_ 0 (by omega)
  ·refine Ev.step (fun k=>by rw [mc.l0]) ?_;exact Ev.neg (by omega) (Ev.now _)
  ·intro i hi h;refine Ev.step (fun k=>by rw [mc.l0]) ?_;refine Ev.pos (by omega) (Ev.pos (by omega) (Ev.pos (by omega) ?_));unfold qk.f;simp only [if_true];refine Ev.val (Ev.pos rfl ?_);rw [De hi hl];exact h
def Qz (l:List Qn):Nat:=(l.map fun x=>x.f6.size).sum
def lQ (l:List Qn):Nat:=l.length + Qz l
def C4 (l:List Xw):Nat:=l.length + (l.map fun x=>lQ x.f0).sum
theorem Cw {l:List Qn} {i:Nat} (h:i < l.length):Jc l (i:Int)=l[i]:=by simp [Jc,List.getD_eq_getElem?_getD,h]
theorem Qq {l:List Xw} {i:Nat} (h:i < l.length):xe l (i:Int)=l[i]:=by simp [xe,List.getD_eq_getElem?_getD,h]
theorem sJ (l:List Qn) (a:Int) (ha:0 ≤ a) (ha':a ≤ 1048576) (hl:l.length ≤ 9223372036854775807) (ht:∀ x ∈ l,x.f6.size ≤ 9223372036854775807) :
  ∃ t,Ev (fun k=>Qd.f k l a) t∧t ≤ a∧(0 ≤ t→t + lQ l=a):=by
 have key:=vk (ρ:=Unit) (r:=()) (n:=l.length) (fun i=>∀ a:Int,0 ≤ a→a ≤ 1048576→∃ t,Ev (fun k=>Qd.l0 k l a (i:Int)) t∧t ≤ a∧(0 ≤ t→t + Qz (l.drop i)=a)) ?_ ?_ 0 (by omega)
 ·unfold Qd.f;rw [Yg (by omega) (by omega)]
  by_cases h:a - (l.length:Int) < 0
  ·exact ⟨-1,Ev.pos h (Ev.now _),by omega,by omega⟩
  ·obtain ⟨t,e1,e2,e3⟩:=key (a - l.length) (by omega) (by omega);refine ⟨t,Ev.neg h e1,by omega,fun h0=>?_⟩;have:=e3 h0;rw [List.drop_zero] at this;unfold lQ;omega
 ·intro a h0 h1;refine ⟨a,?_,by omega,?_⟩
  ·refine Ev.step (fun k=>by rw [Qd.l0]) ?_;exact Ev.neg (by omega) (Ev.now _)
  ·intro _;rw [List.drop_length];simp [Qz]
 ·intro i hi ih a h0 h1;have hx:=ht l[i] (List.getElem_mem hi)
  have hd:Qz (l.drop i)=l[i].f6.size + Qz (l.drop (i + 1)):=by
   rw [List.drop_eq_getElem_cons hi];simp only [Qz,List.map_cons,List.sum_cons]
  by_cases h:a - (l[i].f6.size:Int) < 0
  ·refine ⟨-1,?_,by omega,by omega⟩;refine Ev.step (fun k=>by rw [Qd.l0]) ?_;refine Ev.pos (by omega) (Ev.pos (by omega) ?_);rw [Cw hi];unfold Mi.f;rw [Yg (by omega) (by omega),if_pos h];exact Ev.val (Ev.pos (by decide) (Ev.now _))
  ·obtain ⟨t,e1,e2,e3⟩:=ih (a - l[i].f6.size) (by omega) (by omega);refine ⟨t,?_,by omega,fun hh=>by have:=e3 hh;omega⟩;refine Ev.step (fun k=>by rw [Qd.l0]) ?_;refine Ev.pos (by omega) (Ev.pos (by omega) ?_);rw [Cw hi];unfold Mi.f;rw [Yg (by omega) (by omega),if_neg h];refine Ev.val (Ev.neg (by omega) ?_);rw [De hi hl];exact e1
theorem tJ (l:List Xw) (a:Int) (ha:0 ≤ a) (ha':a ≤ 1048576) (hl:l.length ≤ 9223372036854775807) (ht:∀ x ∈ l,x.f0.length ≤ 9223372036854775807∧∀ y ∈ x.f0,y.f6.size ≤ 9223372036854775807) :
  ∃ t,Ev (fun k=>Dd.f k l a) t∧t ≤ a∧(0 ≤ t→t + C4 l=a):=by
 have key:=vk (ρ:=Unit) (r:=()) (n:=l.length) (fun i=>∀ a:Int,0 ≤ a→a ≤ 1048576→∃ t,Ev (fun k=>Dd.l0 k l a (i:Int)) t∧t ≤ a∧(0 ≤ t→t + ((l.drop i).map fun x=>lQ x.f0).sum=a)) ?_ ?_ 0 (by omega)
 ·unfold Dd.f;rw [Yg (by omega) (by omega)]
  by_cases h:a - (l.length:Int) < 0
  ·exact ⟨-1,Ev.pos h (Ev.now _),by omega,by omega⟩
  ·obtain ⟨t,e1,e2,e3⟩:=key (a - l.length) (by omega) (by omega);refine ⟨t,Ev.neg h e1,by omega,fun h0=>?_⟩;have:=e3 h0;rw [List.drop_zero] at this;unfold C4;omega
 ·intro a h0 h1;refine ⟨a,?_,by omega,?_⟩
  ·refine Ev.step (fun k=>by rw [Dd.l0]) ?_;exact Ev.neg (by omega) (Ev.now _)
  ·intro _;rw [List.drop_length];simp
 ·intro i hi ih a h0 h1;have hx:=ht l[i] (List.getElem_mem hi)
  have hd:((l.drop i).map fun x=>lQ x.f0).sum=lQ l[i].f0 + ((l.drop (i + 1)).map fun x=>lQ x.f0).sum:=by
   rw [List.drop_eq_getElem_cons hi];simp only [List.map_cons,List.sum_cons]
  obtain ⟨u,f1,f2,f3⟩:=sJ l[i].f0 a h0 h1 hx.1 hx.2
  by_cases h:u < 0
  ·refine ⟨-1,?_,by omega,by omega⟩;refine Ev.step (fun k=>by rw [Dd.l0]) ?_;refine Ev.pos (by omega) (Ev.pos (by omega) ?_);rw [Qq hi];unfold Ni.f;refine Ev.bind (Ev.bind f1 (Ev.pos h (Ev.now _))) ?_;exact Ev.pos (by decide) (Ev.now _)
  ·obtain ⟨t,e1,e2,e3⟩:=ih u (by omega) (by omega);have:=f3 (by omega);refine ⟨t,?_,by omega,fun hh=>by have:=e3 hh;omega⟩;refine Ev.step (fun k=>by rw [Dd.l0]) ?_;refine Ev.pos (by omega) (Ev.pos (by omega) ?_);rw [Qq hi];unfold Ni.f;refine Ev.bind (Ev.bind f1 (Ev.neg h (Ev.now _))) ?_;refine Ev.neg (by omega) ?_;rw [De hi hl];exact e1
theorem VC {l:List Nat} {n:Nat} (h:n ∈ l):n ≤ l.sum:=by
 induction l with
 | nil=>cases h
 | cons a l ih =>
  rw [List.sum_cons];cases h with
  | head=>omega
  | tail _ h=>have:=ih h;omega
theorem EI {l:List Xw} {n:Nat} (h:C4 l ≤ n):l.length ≤ n∧∀ x ∈ l,x.f0.length ≤ n:=by
 unfold C4 at h;refine ⟨by omega,fun x hx=>?_⟩;have:lQ x.f0 ≤ (l.map fun x=>lQ x.f0).sum:=VC (List.mem_map.mpr ⟨x,hx,rfl⟩);unfold lQ at this h;omega
theorem XK (x0:List Int) (x1 x2 x3:Int) (x4:List Xw) (a:Int) (ha:0 ≤ a) (ha':a ≤ 1048576) (h0:x0.length ≤ 9223372036854775807) (hl:x4.length ≤ 9223372036854775807) (ht:∀ x ∈ x4,x.f0.length ≤ 9223372036854775807∧∀ y ∈ x.f0,y.f6.size ≤ 9223372036854775807) :
  ∃ t,Ev (fun k=>Lh.f k x0 x1 x2 x3 x4 a) t∧t ≤ a∧(0 ≤ t→t + x0.length + C4 x4=a):=by
 obtain ⟨t,e1,e2,e3⟩:=JV x0 a ha ha' h0;unfold Lh.f;rw [e1];simp only [Option.bind_some]
 by_cases ht':t < 0
 ·exact ⟨-1,Ev.pos ht' (Ev.now _),by omega,by omega⟩
 ·obtain ⟨u,f1,f2,f3⟩:=tJ x4 t (by omega) (by omega) hl ht
  by_cases hu:u < 0
  ·exact ⟨-1,Ev.neg ht' (Ev.bind f1 (Ev.pos hu (Ev.now _))),by omega,by omega⟩
  ·exact ⟨u,Ev.neg ht' (Ev.bind f1 (Ev.neg hu (Ev.now _))),by omega,fun _=>by have:=e3 (by omega);have:=f3 (by omega);omega⟩
def ng (x:Xw):Re:=⟨x.f0.map Ym,x.f1,x.f2,x.f3,x.f4⟩
theorem rJ (l:List Xw) (hl:l.length ≤ 1048576) (hb:∀ x ∈ l,x.f0.length ≤ 1048576):Ev (fun k=>ud.f k l) (l.map ng):=by
 refine Ev.congr (f:=fun k=>ud.l0 k l (List.replicate l.length iI) 0) (fun k=>?_) ?_
 ·unfold ud.f;rw [if_pos (by omega),if_pos (by omega)]
  rfl
 ·have key:=vk (r:=l.map ng) (n:=l.length) (fun i=>Ev (fun k=>ud.l0 k l ((l.map ng).take i ++ List.replicate ((l.map ng).length - i) iI) (i:Int)) (l.map ng)) ?_ ?_ 0 (by omega)
  ·rw [OE,List.length_map] at key;exact key
  ·refine Ev.step (fun k=>by rw [ud.l0]) ?_;refine Ev.neg (by omega) ?_;have e:=lD (m:=l.map ng) (z:=iI);rw [List.length_map] at e;rw [List.length_map,e];exact Ev.now _
  ·intro i hi h;refine Ev.step (fun k=>by rw [ud.l0]) ?_;refine Ev.pos (by omega) (Ev.pos (by omega) ?_);unfold Ll.f;have hx:=hb l[i] (List.getElem_mem hi);rw [Qq hi];refine Ev.bind (Ev.bind (qJ l[i].f0 (by omega)) (Ev.now _)) ?_;refine Ev.pos (by simp;omega) ?_
   have hc:ng l[i]=(l.map ng).getD i iI:=by
    simp [List.getD_eq_getElem?_getD,hi]
   have hf:=kD (m:=l.map ng) (z:=iI) (i:=i) (by rw [List.length_map];exact hi);rw [← hc] at hf;rw [De hi (by omega),Int.toNat_natCast];have e:=hf ▸ h;exact e
theorem th {l:List Re} {i:Nat} (h:i < l.length):Ea l (i:Int)=l[i]:=by simp [Ea,List.getD_eq_getElem?_getD,h]
theorem Rq {l:List Be} {i:Nat} (h:i < l.length):Da l (i:Int)=l[i]:=by simp [Da,List.getD_eq_getElem?_getD,h]
theorem zJ (l:List Re) (hl:l.length ≤ 9223372036854775807) (hb:∀ x ∈ l,x.f0.length ≤ 9223372036854775807):Ev (fun k=>tc.f k l l) true:=by
 refine Ev.congr (f:=fun k=>tc.l0 k l l 0) (fun k=>?_) ?_
 ·unfold tc.f;rw [if_pos rfl]
 ·refine vk (r:=true) (n:=l.length) (fun i=>Ev (fun k=>tc.l0 k l l (i:Int)) true) ?_ ?_ 0 (by omega)
  ·refine Ev.step (fun k=>by rw [tc.l0]) ?_;exact Ev.neg (by omega) (Ev.now _)
  ·intro i hi h;refine Ev.step (fun k=>by rw [tc.l0]) ?_;refine Ev.pos (by omega) (Ev.pos (by omega) (Ev.pos (by omega) ?_));unfold sk.f;rw [th hi];refine Ev.bind (Ev.bind (yJ l[i].f0 (hb _ (List.getElem_mem hi))) (Ev.pos rfl (Ev.pos rfl (Ev.pos rfl (Ev.pos rfl (Ev.pos rfl (Ev.now _))))))) (Ev.pos rfl ?_);rw [De hi hl];exact h
theorem WK (x0:List Int) (x1 x2 x3:Int) (x4:List Xw) (h0:x0.length ≤ 1048576) (hl:x4.length ≤ 1048576) (hb:∀ x ∈ x4,x.f0.length ≤ 1048576):Ev (fun k=>Ng.f k x0 x1 x2 x3 x4) (x0,x1,x2,x3,x4.map ng):=by
 unfold Ng.f;exact Ev.bind (OQ x0 (by omega)) (Ev.bind (rJ x4 hl hb) (Ev.now _))
theorem bL (x0:List Int) (x1 x2 x3:Int) (x4:List Re) (h0:x0.length ≤ 9223372036854775807) (hl:x4.length ≤ 9223372036854775807) (hb:∀ x ∈ x4,x.f0.length ≤ 9223372036854775807):Ev (fun k=>Oi.f k x0 x1 x2 x3 x4 x0 x1 x2 x3 x4) true:=by
 unfold Oi.f;refine Ev.bind (QE x0 h0) ?_;refine Ev.pos rfl (Ev.pos rfl (Ev.pos rfl (Ev.pos rfl ?_)));exact Ev.bind (zJ x4 hl hb) (Ev.pos rfl (Ev.now _))
attribute [local go_sem] Jh Bi tj nk wh uh Ci Ai
def jl.f (Ra:List (Be)) (La:Int) (Ja:Int) (Ma:Int) (xb:Int):Option (List Int):=if La=0 then (some (([Ma]:List Int))) else (if La=1 then (some (([Ma,xb]:List Int))) else (some ([]:List Int)))
theorem jl.calls (Xa:Option Addr) (Ya:Nat) (Ra:List (Be)) (La:Int) (Ja:Int) (Ma:Int) (xb:Int) (r:List Int) (w:World) (Xd:Kd.C nj w Xa Ra.length Ra) (Vd:Ra.length ≤ Ya) (h:jl.f Ra La Ja Ma xb=some r) :
  Calls Try.prog 78 #[.agg #[.slice Xa Ra.length Ya,.int .i64 La,.int .i64 Ja,.int .i64 Ma,.int .i64 xb]] w fun e w'=>∃ Hl:Value,e = .returned (Hl)∧Kd.R (Kd.int .i64) 3 w' w.heap.size (fun _=>True) Hl r∧Below w.heap.size w w':=by
 have YA:=Try.underlying59;have Ye:=ga.mk Xd;have gf:=ga.mk Vd;clear Xd Vd;have HB:=ga.mk (Below.refl w.heap.size w);have H:(if La=0 then (some (([Ma]:List Int))) else (if La=1 then (some (([Ma,xb]:List Int))) else (some ([]:List Int))))=some r:=h;clear h
 by_cases c2:La=0
 ·rw [if_pos c2] at H;have vw:(La == 0)=true:=beq_iff_eq.mpr c2;have uA:(La != 0)=false:=bne_eq_false_iff_eq.mpr c2;clear c2;obtain ⟨ld,tf⟩:∃ y_:List Int,y_=(([Ma]:List Int)):=⟨_,rfl⟩;replace H:(some ld)=some r:=by first|(rw [tf];with_reducible exact H)|(have Md:=(Option.bind_some _ _).symm.trans H;rw [tf];with_reducible exact Md)|(have Md:=(Option.bind_some _ _).symm.trans H;with_reducible exact Md)|with_reducible exact H|(rw [tf];exact H)|exact H
  have Ch:=ga.mk tf;clear tf;obtain rfl:=Option.some.inj H;go_enter Try.func78,Try.ntmps78;go_wp2_with (first|((with_reducible refine qb (N:=1) rfl ?_);refine Gb ?hg (N:=1) ?hd (cs:=#[.slice Xa Ra.length Ya,.int .i64 La,.int .i64 Ja,.int .i64 Ma,.int .i64 xb]) (t:=59) ?hr ?_;(case hd=>rfl);(case hg=>rfl);(case hr=>first|(go_simp;done)|(go_simp;rfl));intro ya hg w3 Ob hb;have yb:=ga.mk (Qa (by repeat (first|(with_reducible first|exact HB.out|apply qa|apply ja|apply ta)|exact HB.out)) hb);have Ib:=ga.mk (Ob);have Nb:=ga.mk ((by rw [hg];exact (Ia (by repeat (first|(with_reducible first|exact HB.out|apply qa|apply ja|apply ta)|exact HB.out))):w.heap.size ≤ ya));have Dc:=ga.mk ((by rw [hg];exact (Ia (by repeat (first|(with_reducible first|exact HB.out|apply qa|apply ja|apply ta)|exact HB.out))):w.heap.size ≤ ya));clear HB;have HB:=yb;have oa:=Ib;have Nd:=Nb;have Ta:=Dc;clear yb Ib Nb Dc hb Ob hg;have oA:w3.cell? ⟨ya,0,none⟩=some (.slice Xa Ra.length Ya):=(ia oa.out 0).trans rfl;have nA:w3.cell? ⟨ya,1,none⟩=some (.int .i64 La):=(ia oa.out 1).trans rfl;have mA:w3.cell? ⟨ya,2,none⟩=some (.int .i64 Ja):=(ia oa.out 2).trans rfl;have lA:w3.cell? ⟨ya,3,none⟩=some (.int .i64 Ma):=(ia oa.out 3).trans rfl;have kA:w3.cell? ⟨ya,4,none⟩=some (.int .i64 xb):=(ia oa.out 4).trans rfl;have gA:=aa oa.out 0;have fA:=aa oa.out 1;have eA:=aa oa.out 2;have dA:=aa oa.out 3;have cA:=aa oa.out 4)|((with_reducible refine qb (N:=9) rfl ?_);refine Kd.ej (Kd.int .i64) _ 3 ?hg (N:=9) ?hd (xs:=([Ma]:List Int)) (inner:=[.int .i64 Ma]) (ok:=fun _=>True) (Tg:=fun _=>True) ?hr ?hp (fun _ hk=>hk) trivial (Below.refl _ _) (Nat.le_refl _) (by simp) ?_;(case hd=>rfl);(case hg=>rfl);(case hr=>first|(go_simp;done)|(go_simp;rfl));(case hp=>exact (xd.one (show Kd.M (Kd.int .i64) _ _ _ Ma [.int .i64 Ma] from rfl) (xd.none _ _)));intro En w5 XI hb Al He;clear Al He;(first|rw [← Ch.out] at XI|(simp only [Int.reduceToNat] at XI;rw [← Ch.out] at XI));have yb:=ga.mk (Kd.we XI (Ia (by repeat (first|(with_reducible first|exact HB.out|apply qa|apply ja|apply ta|refine ua ?_ Ta.out)|exact HB.out))));have Ib:=ga.mk (Va (g:=ya) (o:=.cells #[.slice Xa Ra.length Ya,.int .i64 La,.int .i64 Ja,.int .i64 Ma,.int .i64 xb] 59 (0,0)) (by (with_reducible repeat (first|refine Ba ?_ _|refine Fa ?_|refine Ca ?_ _));exact oa.out) hb);have Nb:=ga.mk (Qa (by repeat (first|(with_reducible first|exact HB.out|apply qa|apply ja|apply ta|refine ua ?_ Ta.out)|exact HB.out)) hb);clear oa HB;have mg:=yb;have oa:=Ib;have HB:=Nb;clear yb Ib Nb hb XI));go_ret;exact ⟨_,by first|rfl|(simp [Oa,Na] <;> rfl)|(simp [*,Oa,Na] <;> rfl),by (with_reducible repeat (first|apply Kd.Ab|apply Kd.zb|apply Kd.Pb));exact mg.out,by repeat (first|(with_reducible first|exact HB.out|apply qa|apply ja|apply ta|refine ua ?_ Ta.out)|exact HB.out)⟩
 ·rw [if_neg c2] at H;have vw:(La == 0)=false:=beq_eq_false_iff_ne.mpr c2;have uA:(La != 0)=true:=bne_iff_ne.mpr c2
  by_cases c7:La=1
  ·rw [if_pos c7] at H;have Ek:(La == 1)=true:=beq_iff_eq.mpr c7;have kr:(La != 1)=false:=bne_eq_false_iff_eq.mpr c7;clear c7;obtain ⟨Od,lf⟩:∃ y_:List Int,y_=(([Ma,xb]:List Int)):=⟨_,rfl⟩;replace H:(some Od)=some r:=by first|(rw [lf];with_reducible exact H)|(have Md:=(Option.bind_some _ _).symm.trans H;rw [lf];with_reducible exact Md)|(have Md:=(Option.bind_some _ _).symm.trans H;with_reducible exact Md)|with_reducible exact H|(rw [lf];exact H)|exact H
   have Dk:=ga.mk lf;clear lf;obtain rfl:=Option.some.inj H;go_enter Try.func78,Try.ntmps78;go_wp2_with (first|((with_reducible refine qb (N:=1) rfl ?_);refine Gb ?hg (N:=1) ?hd (cs:=#[.slice Xa Ra.length Ya,.int .i64 La,.int .i64 Ja,.int .i64 Ma,.int .i64 xb]) (t:=59) ?hr ?_;(case hd=>rfl);(case hg=>rfl);(case hr=>first|(go_simp;done)|(go_simp;rfl));intro ya hg w8 Ob hb;have yb:=ga.mk (Qa (by repeat (first|(with_reducible first|exact HB.out|apply qa|apply ja|apply ta)|exact HB.out)) hb);have Ib:=ga.mk (Ob);have Nb:=ga.mk ((by rw [hg];exact (Ia (by repeat (first|(with_reducible first|exact HB.out|apply qa|apply ja|apply ta)|exact HB.out))):w.heap.size ≤ ya));have Dc:=ga.mk ((by rw [hg];exact (Ia (by repeat (first|(with_reducible first|exact HB.out|apply qa|apply ja|apply ta)|exact HB.out))):w.heap.size ≤ ya));clear HB;have HB:=yb;have oa:=Ib;have Nd:=Nb;have Ta:=Dc;clear yb Ib Nb Dc hb Ob hg;have xm:w8.cell? ⟨ya,0,none⟩=some (.slice Xa Ra.length Ya):=(ia oa.out 0).trans rfl;have wm:w8.cell? ⟨ya,1,none⟩=some (.int .i64 La):=(ia oa.out 1).trans rfl;have vm:w8.cell? ⟨ya,2,none⟩=some (.int .i64 Ja):=(ia oa.out 2).trans rfl;have um:w8.cell? ⟨ya,3,none⟩=some (.int .i64 Ma):=(ia oa.out 3).trans rfl;have rm:w8.cell? ⟨ya,4,none⟩=some (.int .i64 xb):=(ia oa.out 4).trans rfl;have qm:=aa oa.out 0;have om:=aa oa.out 1;have mm:=aa oa.out 2;have jm:=aa oa.out 3;have gm:=aa oa.out 4)|((with_reducible refine qb (N:=16) rfl ?_);refine Kd.ej (Kd.int .i64) _ 3 ?hg (N:=16) ?hd (xs:=([Ma,xb]:List Int)) (inner:=[.int .i64 Ma,.int .i64 xb]) (ok:=fun _=>True) (Tg:=fun _=>True) ?hr ?hp (fun _ hk=>hk) trivial (Below.refl _ _) (Nat.le_refl _) (by simp) ?_;(case hd=>rfl);(case hg=>rfl);(case hr=>first|(go_simp;done)|(go_simp;rfl));(case hp=>exact (xd.one (show Kd.M (Kd.int .i64) _ _ _ Ma [.int .i64 Ma] from rfl) (xd.one (show Kd.M (Kd.int .i64) _ _ _ xb [.int .i64 xb] from rfl) (xd.none _ _))));intro Oz Wq Wo hb Al He;clear Al He;(first|rw [← Dk.out] at Wo|(simp only [Int.reduceToNat] at Wo;rw [← Dk.out] at Wo));have yb:=ga.mk (Kd.we Wo (Ia (by repeat (first|(with_reducible first|exact HB.out|apply qa|apply ja|apply ta|refine ua ?_ Ta.out)|exact HB.out))));have Ib:=ga.mk (Va (g:=ya) (o:=.cells #[.slice Xa Ra.length Ya,.int .i64 La,.int .i64 Ja,.int .i64 Ma,.int .i64 xb] 59 (0,0)) (by (with_reducible repeat (first|refine Ba ?_ _|refine Fa ?_|refine Ca ?_ _));exact oa.out) hb);have Nb:=ga.mk (Qa (by repeat (first|(with_reducible first|exact HB.out|apply qa|apply ja|apply ta|refine ua ?_ Ta.out)|exact HB.out)) hb);clear oa HB;have di:=yb;have oa:=Ib;have HB:=Nb;clear yb Ib Nb hb Wo));go_ret;exact ⟨_,by first|rfl|(simp [Oa,Na] <;> rfl)|(simp [*,Oa,Na] <;> rfl),by (with_reducible repeat (first|apply Kd.Ab|apply Kd.zb|apply Kd.Pb));exact di.out,by repeat (first|(with_reducible first|exact HB.out|apply qa|apply ja|apply ta|refine ua ?_ Ta.out)|exact HB.out)⟩
  ·rw [if_neg c7] at H;have Ek:(La == 1)=false:=beq_eq_false_iff_ne.mpr c7;have kr:(La != 1)=true:=bne_iff_ne.mpr c7;obtain rfl:=Option.some.inj H;go_enter Try.func78,Try.ntmps78;go_wp2_with (first|((with_reducible refine qb (N:=1) rfl ?_);refine Gb ?hg (N:=1) ?hd (cs:=#[.slice Xa Ra.length Ya,.int .i64 La,.int .i64 Ja,.int .i64 Ma,.int .i64 xb]) (t:=59) ?hr ?_;(case hd=>rfl);(case hg=>rfl);(case hr=>first|(go_simp;done)|(go_simp;rfl));intro ya hg Ht Ob hb;have yb:=ga.mk (Qa (by repeat (first|(with_reducible first|exact HB.out|apply qa|apply ja|apply ta)|exact HB.out)) hb);have Ib:=ga.mk (Ob);have Nb:=ga.mk ((by rw [hg];exact (Ia (by repeat (first|(with_reducible first|exact HB.out|apply qa|apply ja|apply ta)|exact HB.out))):w.heap.size ≤ ya));have Dc:=ga.mk ((by rw [hg];exact (Ia (by repeat (first|(with_reducible first|exact HB.out|apply qa|apply ja|apply ta)|exact HB.out))):w.heap.size ≤ ya));clear HB;have HB:=yb;have oa:=Ib;have Nd:=Nb;have Ta:=Dc;clear yb Ib Nb Dc hb Ob hg;have Gq:Ht.cell? ⟨ya,0,none⟩=some (.slice Xa Ra.length Ya):=(ia oa.out 0).trans rfl;have Fq:Ht.cell? ⟨ya,1,none⟩=some (.int .i64 La):=(ia oa.out 1).trans rfl;have Dq:Ht.cell? ⟨ya,2,none⟩=some (.int .i64 Ja):=(ia oa.out 2).trans rfl;have Cq:Ht.cell? ⟨ya,3,none⟩=some (.int .i64 Ma):=(ia oa.out 3).trans rfl;have Bq:Ht.cell? ⟨ya,4,none⟩=some (.int .i64 xb):=(ia oa.out 4).trans rfl;have mq:=aa oa.out 0;have lq:=aa oa.out 1;have jq:=aa oa.out 2;have iq:=aa oa.out 3;have gq:=aa oa.out 4));go_ret;exact ⟨_,by first|rfl|(simp [Oa,Na] <;> rfl)|(simp [*,Oa,Na] <;> rfl),by first|exact Kd.WE _ _ _ _ _|exact Kd.D2 _ _ _ _ _|exact Kd.V1 _ _ _ _ _|exact Kd.Z1 _ _ _ _ _|exact Kd.HJ _ _ _ _ _,by repeat (first|(with_reducible first|exact HB.out|apply qa|apply ja|apply ta|refine ua ?_ Ta.out)|exact HB.out)⟩
theorem cE (g:Nat) (lb:Array Value) (p:Be→Bool) (eg:∀ args w,(callFunc g args).run Try.prog w = .ok (.enter g args) w) (A0:Option Addr) (c0:Nat) (l0:List Be) (w:World) (Ck:Kd.C nj w A0 l0.length l0) (hc0:l0.length ≤ c0)
  (hp:∀ (W:World) (x:Be),Below w.heap.size w W→Calls Try.prog g (#[(.agg #[.int .i64 x.f0,.int .i64 x.f1,.int .i64 x.f2,.int .i64 x.f3,.int .i64 x.f4,.int .i64 x.f5,.string x.f6])] ++ lb) W fun e w'=>e = .returned (.bool (p x))∧Below W.heap.size W w') :
  Calls Try.prog 120 #[.slice A0 l0.length c0,.func (.func g) #[] lb] w fun e w'=>(∃ i:Int,e = .returned (.int .i64 i)∧decide (0 ≤ i)=l0.any p)∧Below w.heap.size w w':=by
 have hmx:=Ck.2.1;have fl:=ga.mk Ck;have dI:=ga.mk hc0;have HP:=ga.mk hp;clear Ck hc0 hp;go_enter Try.func120,Try.ntmps120;go_wp2
 go_loopg [5,8] l0.length (fun gg _ s8 wr=>∃ kk:Nat,kk ≤ l0.length∧l0.length - kk ≤ gg∧s8 = .int .i64 kk∧ga (Below w.heap.size w wr)∧ga ((l0.take kk).any p=false))
 case atStart=>exact ⟨0,Nat.zero_le _,by omega,rfl,⟨Below.refl _ w⟩,⟨by simp⟩⟩
 case round =>
  (try clear BW);(try clear HA);obtain ⟨kk,hkk,hg,rfl,BW,HA⟩:=hrel
  by_cases hlt:kk < l0.length
  ·have p1:0 ≤ (kk:Int):=by omega
   have q1:(kk:Int) < (l0.length:Int):=by omega
   obtain ⟨ad,e1,hx0,hx1,Ku,Lp,Yp,dM,nI⟩:=fo fl.out (kk:Int) p1 q1;cases e1;simp only [Int.toNat_natCast] at hx0 hx1 Ku Lp Yp dM nI;replace hx0:=(BW.out.cell (World.block_lt_of_cell? w _ hx0)).trans hx0;replace hx1:=(BW.out.cell (World.block_lt_of_cell? w _ hx1)).trans hx1;replace Ku:=(BW.out.cell (World.block_lt_of_cell? w _ Ku)).trans Ku;replace Lp:=(BW.out.cell (World.block_lt_of_cell? w _ Lp)).trans Lp;replace Yp:=(BW.out.cell (World.block_lt_of_cell? w _ Yp)).trans Yp;replace dM:=(BW.out.cell (World.block_lt_of_cell? w _ dM)).trans dM;replace nI:=(BW.out.cell (World.block_lt_of_cell? w _ nI)).trans nI;have er:=HP.out wr (Da l0 (kk:Int)) BW.out;cases hq:p (Da l0 (kk:Int)) with
   | true =>
    rw [hq] at er;go_wp2_with (go_at_fn g;refine er.mono ?_;rintro e w1 ⟨rfl,rA⟩);go_ret;exact ⟨⟨_,rfl,by rw [pP (d:=Du) hlt hq];simp⟩,BW.out.trans (rA.mono BW.out.size)⟩
   | false =>
    rw [hq] at er;go_wp2_with (go_at_fn g;refine er.mono ?_;rintro e w1 ⟨rfl,rA⟩)
    go_roundg (l0.length - (kk + 1))
    case measure=>omega
    case rel=>exact ⟨kk + 1,by omega,by omega,by go_num,⟨BW.out.trans (rA.mono BW.out.size)⟩,⟨Lw (d:=Du) hlt HA.out hq⟩⟩
  ·have haq:¬ (kk:Int) < (l0.length:Int):=by omega
   have he:kk=l0.length:=by omega
   subst he;go_wp2;go_ret;exact ⟨⟨_,rfl,by have h_:=HA.out;rw [List.take_length] at h_;rw [h_];simp⟩,BW.out⟩
theorem Sw (g:Nat) (lb:Array Value) (p:Be→Bool) (eg:∀ args w,(callFunc g args).run Try.prog w = .ok (.enter g args) w) (A0:Option Addr) (c0:Nat) (l0:List Be) (w:World) (Ck:Kd.C nj w A0 l0.length l0) (hc0:l0.length ≤ c0)
  (hp:∀ (W:World) (x:Be),Below w.heap.size w W→Calls Try.prog g (#[(.agg #[.int .i64 x.f0,.int .i64 x.f1,.int .i64 x.f2,.int .i64 x.f3,.int .i64 x.f4,.int .i64 x.f5,.string x.f6])] ++ lb) W fun e w'=>e = .returned (.bool (p x))∧Below W.heap.size W w') :
  Calls Try.prog 102 #[.slice A0 l0.length c0,.func (.func g) #[] lb] w fun e w'=>e = .returned (.bool (l0.any p))∧Below w.heap.size w w':=by
 have HI:=ga.mk (cE g lb p eg A0 c0 l0 w Ck hc0 hp);clear Ck hc0 hp;go_enter Try.func102,Try.ntmps102;go_wp2_with (go_at_call 120;refine HI.out.mono ?_;rintro e w1 ⟨⟨i,rfl,hi⟩,rA⟩;have HD:=ga.mk hi;clear hi);go_ret;exact ⟨by rw [← HD.out];first|rfl|simp,rA⟩
def Bb.l0:Nat→List ByteArray→ByteArray→Int→Int→Option (Int)
 | 0,_,_,_,_=>none
 | k + 1,x0,x1,x7,x8=>if x8 < x7 then (if 0 ≤ x8 then (if x8 < (x0.length:Int) then (if x1.toList=(lg ByteArray.empty x0 x8).toList then (some x8) else (Bb.l0 k x0 x1 x7 (wrap64 (x8 + 1)))) else (none)) else (none)) else (some (-1))
def Bb.f (k:Nat) (l0:List ByteArray) (a1:ByteArray):Option (Int):=Bb.l0 k l0 a1 (l0.length:Int) 0
theorem Bb.QC:∀ k,(∀ y0 y1 y2 y3,Dm (Bb.l0 k y0 y1 y2 y3) (Bb.l0 (k + 1) y0 y1 y2 y3))
 | 0=>fun _ _ _ _ r h=>by simp [Bb.l0] at h
 | k + 1=>by
  have sS:=Bb.QC k
  ·intro y0 y1 y2 y3;unfold Bb.l0
   repeat' first
   | (with_reducible exact sS _ _ _ _)
   | (with_reducible exact Dm.refl _)
   | (with_reducible exact Dm.none _)
   | (with_reducible refine Dm.ite ?_ ?_)
   | (with_reducible refine Dm.bind ?_ (fun _=>?_))
   | exact sS _ _ _ _
   | exact Dm.none _
   | refine Dm.ite ?_ ?_
   | refine Dm.bind ?_ (fun _=>?_)
theorem Bb.mono:∀ a0 a1 k,Dm (Bb.f k a0 a1) (Bb.f (k + 1) a0 a1):=by
 intro a0 a1 k;have sS:=Bb.QC k;unfold Bb.f
 repeat' first
   | (with_reducible exact sS _ _ _ _)
   | (with_reducible exact Dm.refl _)
   | (with_reducible exact Dm.none _)
   | (with_reducible refine Dm.ite ?_ ?_)
   | (with_reducible refine Dm.bind ?_ (fun _=>?_))
   | exact sS _ _ _ _
   | exact Dm.none _
   | refine Dm.ite ?_ ?_
   | refine Dm.bind ?_ (fun _=>?_)
theorem Bb.calls (k:Nat) (A0:Option Addr) (c0:Nat) (l0:List ByteArray) (a1:ByteArray) (r:Int) (w:World) (Ck:Kd.C Kd.string w A0 l0.length l0) (hc0:l0.length ≤ c0) (h:Bb.f k l0 a1=some r) :
  Calls Try.prog 109 #[.slice A0 l0.length c0,.string a1] w fun e w'=>e = .returned (.int .i64 r)∧ec w w':=by
 have fl:=ga.mk Ck;have dI:=ga.mk hc0;clear Ck hc0;have H:(Bb.l0 k l0 a1 (l0.length:Int) 0)=some r:=h;clear h;have H':=ga.mk H;clear H;go_enter Try.func109,Try.ntmps109;go_wp2
 go_loopg [8] k (fun kq v8 w'=>∃ (Jp:Int),v8 = .int .i64 Jp∧ga (Bb.l0 kq l0 a1 (l0.length:Int) Jp=some r)∧ga (kq ≤ k)∧ec w w')
 case atStart=>exact ⟨(0),(by first|rfl|(simp;done)|(simp [*];done)),H',⟨Nat.le_refl _⟩,by repeat (first|exact ec.refl _|apply ec.step)⟩
 case round =>
  clear H'
  try clear c1
  try clear p2
  (try clear HA);(try clear Xf);obtain ⟨Jp,rfl,HA,Xf,⟨m1,rfl⟩⟩:=hrel;cases gk with
  | zero=>exact absurd HA.out (by simp [Bb.l0])
  | succ k1 =>
   have H:=HA.out;clear HA;simp only [Bb.l0] at H
   by_cases c3:Jp < (l0.length:Int)
   ·rw [if_pos c3] at H;have Vg:decide (Jp < (l0.length:Int))=true:=decide_eq_true c3;clear c3
    by_cases c4:0 ≤ Jp
    ·rw [if_pos c4] at H;have cj:decide (0 ≤ Jp)=true:=decide_eq_true c4;clear c4
     by_cases c5:Jp < (l0.length:Int)
     ·rw [if_pos c5] at H;have Ui:decide (Jp < (l0.length:Int))=true:=decide_eq_true c5;clear c5
      by_cases c6:a1.toList=(lg ByteArray.empty l0 Jp).toList
      ·rw [if_pos c6] at H;have zm:(a1.toList == (lg ByteArray.empty l0 Jp).toList)=true:=beq_iff_eq.mpr c6;have dB:(a1.toList != (lg ByteArray.empty l0 Jp).toList)=false:=bne_eq_false_iff_eq.mpr c6;clear c6;obtain rfl:=Option.some.inj H;have We:0 ≤ (Jp:Int):=Ua;have Ve:Jp < (l0.length:Int):=Ua;obtain ⟨Ae,ki,Td⟩:=Kd.dw fl.out Jp We Ve;cases ki;replace We:=eq_true We;replace Ve:=eq_true Ve;go_wp2;go_ret;exact ⟨by first|rfl|(simp;done)|(simp [*];done),by repeat (first|exact ec.refl _|apply ec.step)⟩
      ·rw [if_neg c6] at H;have zm:(a1.toList == (lg ByteArray.empty l0 Jp).toList)=false:=beq_eq_false_iff_ne.mpr c6;have dB:(a1.toList != (lg ByteArray.empty l0 Jp).toList)=true:=bne_iff_ne.mpr c6;have H':=ga.mk H;clear H;have We:0 ≤ (Jp:Int):=Ua;have Ve:Jp < (l0.length:Int):=Ua;obtain ⟨Ae,ki,Td⟩:=Kd.dw fl.out Jp We Ve;cases ki;replace We:=eq_true We;replace Ve:=eq_true Ve;go_wp2
       go_roundg k1
       case measure=>have:=Xf.out;omega
       case rel=>exact ⟨(wrap64 (Jp + 1)),(by first|rfl|(simp;done)|(simp [*];done)),H',⟨by have:=Xf.out;omega⟩,by repeat (first|exact ec.refl _|apply ec.step)⟩
     ·rw [if_neg c5] at H;exact absurd H (by simp)
    ·rw [if_neg c4] at H;exact absurd H (by simp)
   ·rw [if_neg c3] at H;have Vg:decide (Jp < (l0.length:Int))=false:=decide_eq_false c3;clear c3;obtain rfl:=Option.some.inj H;go_wp2;go_ret;exact ⟨by first|rfl|(simp;done)|(simp [*];done),by repeat (first|exact ec.refl _|apply ec.step)⟩
def Pc.f (k:Nat) (l0:List ByteArray) (a1:ByteArray):Option (Bool):=(Bb.f k l0 a1).bind fun t101=>(some (decide (t101 ≥ 0)))
theorem Pc.mono:∀ a0 a1 k,Dm (Pc.f k a0 a1) (Pc.f (k + 1) a0 a1):=by
 intro a0 a1 k;unfold Pc.f
 repeat' first
   | (with_reducible exact Bb.mono _ _ _)
   | (with_reducible exact Dm.refl _)
   | (with_reducible exact Dm.none _)
   | (with_reducible refine Dm.ite ?_ ?_)
   | (with_reducible refine Dm.bind ?_ (fun _=>?_))
   | exact Bb.mono _ _ _
   | exact Dm.none _
   | refine Dm.ite ?_ ?_
   | refine Dm.bind ?_ (fun _=>?_)
theorem Pc.calls (k:Nat) (A0:Option Addr) (c0:Nat) (l0:List ByteArray) (a1:ByteArray) (r:Bool) (w:World) (Ck:Kd.C Kd.string w A0 l0.length l0) (hc0:l0.length ≤ c0) (h:Pc.f k l0 a1=some r) :
  Calls Try.prog 126 #[.slice A0 l0.length c0,.string a1] w fun e w'=>e = .returned (.bool r)∧ec w w':=by
 have fl:=ga.mk Ck;have dI:=ga.mk hc0;clear Ck hc0;have H:((Bb.f k l0 a1).bind fun t101=>(some (decide (t101 ≥ 0))))=some r:=h;clear h;replace H:=Option.bind_eq_some_iff.mp H;obtain ⟨t101,jx,H⟩:=H;replace H:(some (decide (t101 ≥ 0)))=some r:=H;have A3:=ga.mk jx;clear jx;obtain rfl:=Option.some.inj H;go_enter Try.func126,Try.ntmps126;go_wp2_with (first|((with_reducible refine mb (f:=109) rfl ?_);refine Fc (some 7) rfl rfl Try.func109 (by kernel_rfl) rfl #[.slice A0 l0.length c0,.string a1] rfl (by (try simp only [List.map_toArray,List.map_cons,List.map_nil]);first|done|rfl|(simp only [List.length_drop,List.length_take];rfl)) ?_;(with_reducible refine (Bb.calls k _ _ l0 a1 t101 _ ?yc ?uc A3.out).mono ?_);(case yc=>repeat (first|exact fl.out|(with_reducible refine Kd.Rb ?_ _)|(with_reducible refine Kd.Qb ?_ _)|(with_reducible refine Kd.Yb ?_)));(case uc=>exact dI.out);rintro e w' ⟨rfl,⟨nd,rfl⟩⟩;refine ⟨_,rfl,?_⟩));go_ret;exact ⟨by first|rfl|(simp;done)|(simp [*];done),by repeat (first|exact ec.refl _|apply ec.step)⟩
def Gn.f (k:Nat) (a0:ByteArray):Option (Bool):=(Pc.f k (([(⟨#[61,61]⟩:ByteArray),(⟨#[60]⟩:ByteArray),(⟨#[38]⟩:ByteArray),(⟨#[43]⟩:ByteArray),(⟨#[45]⟩:ByteArray),(⟨#[42]⟩:ByteArray)]:List ByteArray)) a0).bind fun t104=>(some t104)
theorem Gn.calls (k:Nat) (a0:ByteArray) (r:Bool) (w:World) (h:Gn.f k a0=some r) :
  Calls Try.prog 122 #[.string a0] w fun e w'=>e = .returned (.bool r)∧Below w.heap.size w w':=by
 have HB:=ga.mk (Below.refl w.heap.size w);have H:((Pc.f k (([(⟨#[61,61]⟩:ByteArray),(⟨#[60]⟩:ByteArray),(⟨#[38]⟩:ByteArray),(⟨#[43]⟩:ByteArray),(⟨#[45]⟩:ByteArray),(⟨#[42]⟩:ByteArray)]:List ByteArray)) a0).bind fun t104=>(some t104))=some r:=h;clear h;obtain ⟨Qf,Uf⟩:∃ y_:List ByteArray,y_=(([(⟨#[61,61]⟩:ByteArray),(⟨#[60]⟩:ByteArray),(⟨#[38]⟩:ByteArray),(⟨#[43]⟩:ByteArray),(⟨#[45]⟩:ByteArray),(⟨#[42]⟩:ByteArray)]:List ByteArray)):=⟨_,rfl⟩;replace H:((Pc.f k Qf a0).bind fun t104=>(some t104))=some r:=by first|(rw [Uf];with_reducible exact H)|(have Md:=(Option.bind_some _ _).symm.trans H;rw [Uf];with_reducible exact Md)|(have Md:=(Option.bind_some _ _).symm.trans H;with_reducible exact Md)|with_reducible exact H|(rw [Uf];exact H)|exact H
 have Qk:=ga.mk Uf;clear Uf;replace H:=Option.bind_eq_some_iff.mp H;obtain ⟨t104,xI,H⟩:=H;replace H:(some t104)=some r:=H;have A2:=ga.mk xI;clear xI;obtain rfl:=Option.some.inj H;go_enter Try.func122,Try.ntmps122;go_wp2_with (first|((with_reducible refine qb (N:=3) rfl ?_);refine Kd.ej Kd.string _ 9 ?hg (N:=3) ?hd (xs:=([(⟨#[61,61]⟩:ByteArray),(⟨#[60]⟩:ByteArray),(⟨#[38]⟩:ByteArray),(⟨#[43]⟩:ByteArray),(⟨#[45]⟩:ByteArray),(⟨#[42]⟩:ByteArray)]:List ByteArray)) (inner:=[.string (⟨#[61,61]⟩:ByteArray),.string (⟨#[60]⟩:ByteArray),.string (⟨#[38]⟩:ByteArray),.string (⟨#[43]⟩:ByteArray),.string (⟨#[45]⟩:ByteArray),.string (⟨#[42]⟩:ByteArray)]) (ok:=fun _=>True) (Tg:=fun _=>True) ?hr ?hp (fun _ hk=>hk) trivial (Below.refl _ _) (Nat.le_refl _) (by simp) ?_;(case hd=>rfl);(case hg=>rfl);(case hr=>first|(go_simp;done)|(go_simp;rfl));(case hp=>exact (xd.one (show Kd.M Kd.string _ _ _ (⟨#[61,61]⟩:ByteArray) [.string (⟨#[61,61]⟩:ByteArray)] from rfl) (xd.one (show Kd.M Kd.string _ _ _ (⟨#[60]⟩:ByteArray) [.string (⟨#[60]⟩:ByteArray)] from rfl) (xd.one (show Kd.M Kd.string _ _ _ (⟨#[38]⟩:ByteArray) [.string (⟨#[38]⟩:ByteArray)] from rfl) (xd.one (show Kd.M Kd.string _ _ _ (⟨#[43]⟩:ByteArray) [.string (⟨#[43]⟩:ByteArray)] from rfl) (xd.one (show Kd.M Kd.string _ _ _ (⟨#[45]⟩:ByteArray) [.string (⟨#[45]⟩:ByteArray)] from rfl) (xd.one (show Kd.M Kd.string _ _ _ (⟨#[42]⟩:ByteArray) [.string (⟨#[42]⟩:ByteArray)] from rfl) (xd.none _ _))))))));intro CI w3 bA hb Al He;clear Al He;(first|rw [← Qk.out] at bA|(simp only [Int.reduceToNat] at bA;rw [← Qk.out] at bA));have yb:=ga.mk (Kd.we bA (Ia (by repeat (first|(with_reducible first|exact HB.out|apply qa|apply ja|apply ta)|exact HB.out))));have Ib:=ga.mk (Qa (by repeat (first|(with_reducible first|exact HB.out|apply qa|apply ja|apply ta)|exact HB.out)) hb);clear HB;have Cr:=yb;have HB:=Ib;clear yb Ib hb bA;obtain ⟨Ao5,co5,O6⟩:=Kd.Zd Cr.out;subst O6)|((with_reducible refine mb (f:=126) rfl ?_);refine Fc (some 5) rfl rfl Try.func126 (by kernel_rfl) rfl #[.slice Ao5 Qf.length co5,.string a0] rfl (by (try simp only [List.map_toArray,List.map_cons,List.map_nil]);first|done|rfl|(simp only [List.length_drop,List.length_take];rfl)) ?_;(with_reducible refine (Pc.calls k _ _ Qf a0 t104 _ ?yc ?uc A2.out).mono ?_);(case yc=>repeat (first|exact (Kd.Bc Cr.out).2.2|(with_reducible refine Kd.Rb ?_ _)|(with_reducible refine Kd.Qb ?_ _)|(with_reducible refine Kd.Yb ?_)));(case uc=>exact (Kd.Bc Cr.out).2.1);rintro e w' ⟨rfl,⟨nd,rfl⟩⟩;refine ⟨_,rfl,?_⟩));go_ret;exact ⟨by first|rfl|(simp [Oa,Na] <;> rfl)|(simp [*,Oa,Na] <;> rfl),by repeat (first|(with_reducible first|exact HB.out|apply qa|apply ja|apply ta)|exact HB.out)⟩
theorem eae (d:Nat) (w:World) (x0 y0:Int) (x1 y1:Int) (x2 y2:Int) (x3 y3:Int) (x4 y4:Int) (x5 y5:Int) (x6 y6:ByteArray) :
  (Op.equalIn (d + 2) 65 (.agg #[.int .i64 x0,.int .i64 x1,.int .i64 x2,.int .i64 x3,.int .i64 x4,.int .i64 x5,.string x6]) (.agg #[.int .i64 y0,.int .i64 y1,.int .i64 y2,.int .i64 y3,.int .i64 y4,.int .i64 y5,.string y6])).run Try.prog w = .ok (x0 == y0 && (x1 == y1 && (x2 == y2 && (x3 == y3 && (x4 == y4 && (x5 == y5 && (x6.toList == y6.toList))))))) w:=by
 refine N6 Try.underlying65 (by kernel_rfl) ?_;refine gr (by rfl) (by go_simp;rfl) (by go_simp;rfl) (by go_simp) ?_;refine gr (by rfl) (by go_simp;rfl) (by go_simp;rfl) (by go_simp) ?_;refine gr (by rfl) (by go_simp;rfl) (by go_simp;rfl) (by go_simp) ?_;refine gr (by rfl) (by go_simp;rfl) (by go_simp;rfl) (by go_simp) ?_;refine gr (by rfl) (by go_simp;rfl) (by go_simp;rfl) (by go_simp) ?_;refine gr (by rfl) (by go_simp;rfl) (by go_simp;rfl) (by go_simp) ?_;exact YT (by rfl) (by go_simp;rfl) (by go_simp;rfl) (by go_simp)
attribute [local go_sem high] eae
def kK:List ByteArray:=[⟨#[61,61]⟩,⟨#[60]⟩,⟨#[38]⟩,⟨#[43]⟩,⟨#[45]⟩,⟨#[42]⟩]
def zx (s:ByteArray):Bool:=kK.any fun y=>decide (s.toList=y.toList)
theorem xQ (s:ByteArray):Gn.f 8 s=some (zx s):=by
 unfold Gn.f Pc.f Bb.f zx kK;simp only [Bb.l0,List.any_cons,List.any_nil]
 by_cases h0:s.toList=[61,61]
 ·simp [lg,h0]
 by_cases h1:s.toList=[60]
 ·simp [lg,h1,wrap64]
 by_cases h2:s.toList=[38]
 ·simp [lg,h2,wrap64]
 by_cases h3:s.toList=[43]
 ·simp [lg,h3,wrap64]
 by_cases h4:s.toList=[45]
 ·simp [lg,h4,wrap64]
 by_cases h5:s.toList=[42]
 ·simp [lg,h5,wrap64]
 simp [lg,h0,h1,h2,h3,h4,h5,wrap64]
theorem CK (s:ByteArray) (w:World):Calls Try.prog 122 #[.string s] w fun e w'=>e = .returned (.bool (zx s))∧Below w.heap.size w w':=Gn.calls 8 s (zx s) w (xQ s)
def uk (slots s:Int):Bool:=decide (0 ≤ s) && decide (s < slots)
theorem Xj (B:Nat) (slots s:Int) (W:World) (hb3:W.cell? ⟨B,3,none⟩=some (.int .i64 slots)):Calls Try.prog 121 #[.int .i64 s,.pointer (some ⟨B,0,none⟩)] W fun e w'=>e = .returned (.bool (uk slots s))∧W=w':=by
 unfold uk
 by_cases h:0 ≤ s
 all_goals
  go_enter Try.func121,Try.ntmps121;go_wp2;go_ret;exact ⟨by simp [*];try omega,rfl⟩
theorem FQ (A0 A4:Option Addr) (c0 c4 n0 n4:Nat) (p1 p2 slots d a b c n:Int) (t:ByteArray) (w:World) (hn0:n0 ≤ 9223372036854775807) (KE:n4 ≤ 9223372036854775807) :
  Calls Try.prog 104 #[.agg #[.slice A0 n0 c0,.int .i64 p1,.int .i64 p2,.int .i64 slots,.slice A4 n4 c4],.agg #[.int .i64 0,.int .i64 d,.int .i64 a,.int .i64 b,.int .i64 c,.int .i64 n,.string t]] w fun e w'=>e = .returned (.bool (uk slots d && (a == 0 && (b == 0 && (c == 0 && t.toList.isEmpty)))))∧Below w.heap.size w w':=by
 obtain ⟨W1,Wf⟩:∃ W1,W1=(w.alloc (.cells #[.slice A0 n0 c0,.int .i64 p1,.int .i64 p2,.int .i64 slots,.slice A4 n4 c4] 30 (0,0))).alloc (.cells #[.int .i64 0,.int .i64 d,.int .i64 a,.int .i64 b,.int .i64 c,.int .i64 n,.string t] 65 (0,0)):=⟨_,rfl⟩;have HW:=ga.mk Wf;have HB:=ga.mk (show Below w.heap.size w W1 from by rw [Wf];exact qa (qa (Below.refl _ _) _) _);have hz:W1.heap.size=w.heap.size + 2:=by rw [Wf];simp
 have SD:W1.cell? ⟨w.heap.size,3,none⟩=some (.int .i64 slots):=by rw [Wf];simp
 have hx0:W1.cell? ⟨w.heap.size + 1,0,none⟩=some (.int .i64 0):=by rw [Wf];simp
 have hx1:W1.cell? ⟨w.heap.size + 1,1,none⟩=some (.int .i64 d):=by rw [Wf];simp
 have Ku:W1.cell? ⟨w.heap.size + 1,2,none⟩=some (.int .i64 a):=by rw [Wf];simp
 have Lp:W1.cell? ⟨w.heap.size + 1,3,none⟩=some (.int .i64 b):=by rw [Wf];simp
 have Yp:W1.cell? ⟨w.heap.size + 1,4,none⟩=some (.int .i64 c):=by rw [Wf];simp
 have dM:W1.cell? ⟨w.heap.size + 1,5,none⟩=some (.int .i64 n):=by rw [Wf];simp
 have nI:W1.cell? ⟨w.heap.size + 1,6,none⟩=some (.string t):=by rw [Wf];simp
 clear Wf;go_enter Try.func104,Try.ntmps104;go_wp2_with (first|(go_at_call 55;(with_reducible refine (Xk _ _ _ _).mono ?_);rintro e w1 ⟨rfl,⟨k1,rfl⟩⟩));rw [← HW.out];clear HW
 go_region
 all_goals go_wp2_with (first|(go_at_call 121;(refine (Xj _ slots _ _ ?hc).mono ?_);(case hc=>first|(go_simp;done)|(go_simp;rfl));rintro e w1 ⟨rfl,rfl⟩))
 all_goals go_ret
 all_goals exact ⟨by (try clear MY xX GK Mt);simp [*],by repeat (first|exact HB.out|(refine Qa ?_ Mt.out)|apply ja|apply ta|apply qa|refine ua ?_ (by first|omega|(simp;done)|(simp;omega)))⟩
theorem DQ (A0 A4:Option Addr) (c0 c4 n0 n4:Nat) (p1 p2 slots d a b c n:Int) (t:ByteArray) (w:World) (hn0:n0 ≤ 9223372036854775807) (KE:n4 ≤ 9223372036854775807) :
  Calls Try.prog 104 #[.agg #[.slice A0 n0 c0,.int .i64 p1,.int .i64 p2,.int .i64 slots,.slice A4 n4 c4],.agg #[.int .i64 1,.int .i64 d,.int .i64 a,.int .i64 b,.int .i64 c,.int .i64 n,.string t]] w fun e w'=>e = .returned (.bool (uk slots d && uk slots a && (b == 0 && (c == 0 && (n == 0 && t.toList.isEmpty)))))∧Below w.heap.size w w':=by
 obtain ⟨W1,Wf⟩:∃ W1,W1=(w.alloc (.cells #[.slice A0 n0 c0,.int .i64 p1,.int .i64 p2,.int .i64 slots,.slice A4 n4 c4] 30 (0,0))).alloc (.cells #[.int .i64 1,.int .i64 d,.int .i64 a,.int .i64 b,.int .i64 c,.int .i64 n,.string t] 65 (0,0)):=⟨_,rfl⟩;have HW:=ga.mk Wf;have HB:=ga.mk (show Below w.heap.size w W1 from by rw [Wf];exact qa (qa (Below.refl _ _) _) _);have hz:W1.heap.size=w.heap.size + 2:=by rw [Wf];simp
 have SD:W1.cell? ⟨w.heap.size,3,none⟩=some (.int .i64 slots):=by rw [Wf];simp
 have hx0:W1.cell? ⟨w.heap.size + 1,0,none⟩=some (.int .i64 1):=by rw [Wf];simp
 have hx1:W1.cell? ⟨w.heap.size + 1,1,none⟩=some (.int .i64 d):=by rw [Wf];simp
 have Ku:W1.cell? ⟨w.heap.size + 1,2,none⟩=some (.int .i64 a):=by rw [Wf];simp
 have Lp:W1.cell? ⟨w.heap.size + 1,3,none⟩=some (.int .i64 b):=by rw [Wf];simp
 have Yp:W1.cell? ⟨w.heap.size + 1,4,none⟩=some (.int .i64 c):=by rw [Wf];simp
 have dM:W1.cell? ⟨w.heap.size + 1,5,none⟩=some (.int .i64 n):=by rw [Wf];simp
 have nI:W1.cell? ⟨w.heap.size + 1,6,none⟩=some (.string t):=by rw [Wf];simp
 clear Wf;go_enter Try.func104,Try.ntmps104;go_wp2_with (first|(go_at_call 55;(with_reducible refine (Xk _ _ _ _).mono ?_);rintro e w1 ⟨rfl,⟨k1,rfl⟩⟩));rw [← HW.out];clear HW
 go_region
 all_goals go_wp2_with (first|(go_at_call 121;(refine (Xj _ slots _ _ ?hc).mono ?_);(case hc=>first|(go_simp;done)|(go_simp;rfl));rintro e w1 ⟨rfl,rfl⟩))
 all_goals go_ret
 all_goals exact ⟨by (try clear MY xX GK Mt);simp [*],by repeat (first|exact HB.out|(refine Qa ?_ Mt.out)|apply ja|apply ta|apply qa|refine ua ?_ (by first|omega|(simp;done)|(simp;omega)))⟩
theorem CQ (A0 A4:Option Addr) (c0 c4 n0 n4:Nat) (p1 p2 slots d a b c n:Int) (t:ByteArray) (w:World) (hn0:n0 ≤ 9223372036854775807) (KE:n4 ≤ 9223372036854775807) :
  Calls Try.prog 104 #[.agg #[.slice A0 n0 c0,.int .i64 p1,.int .i64 p2,.int .i64 slots,.slice A4 n4 c4],.agg #[.int .i64 2,.int .i64 d,.int .i64 a,.int .i64 b,.int .i64 c,.int .i64 n,.string t]] w fun e w'=>e = .returned (.bool (uk slots d && uk slots a && uk slots b && zx t && (c == 0 && n == 0)))∧Below w.heap.size w w':=by
 obtain ⟨W1,Wf⟩:∃ W1,W1=(w.alloc (.cells #[.slice A0 n0 c0,.int .i64 p1,.int .i64 p2,.int .i64 slots,.slice A4 n4 c4] 30 (0,0))).alloc (.cells #[.int .i64 2,.int .i64 d,.int .i64 a,.int .i64 b,.int .i64 c,.int .i64 n,.string t] 65 (0,0)):=⟨_,rfl⟩;have HW:=ga.mk Wf;have HB:=ga.mk (show Below w.heap.size w W1 from by rw [Wf];exact qa (qa (Below.refl _ _) _) _);have hz:W1.heap.size=w.heap.size + 2:=by rw [Wf];simp
 have SD:W1.cell? ⟨w.heap.size,3,none⟩=some (.int .i64 slots):=by rw [Wf];simp
 have hx0:W1.cell? ⟨w.heap.size + 1,0,none⟩=some (.int .i64 2):=by rw [Wf];simp
 have hx1:W1.cell? ⟨w.heap.size + 1,1,none⟩=some (.int .i64 d):=by rw [Wf];simp
 have Ku:W1.cell? ⟨w.heap.size + 1,2,none⟩=some (.int .i64 a):=by rw [Wf];simp
 have Lp:W1.cell? ⟨w.heap.size + 1,3,none⟩=some (.int .i64 b):=by rw [Wf];simp
 have Yp:W1.cell? ⟨w.heap.size + 1,4,none⟩=some (.int .i64 c):=by rw [Wf];simp
 have dM:W1.cell? ⟨w.heap.size + 1,5,none⟩=some (.int .i64 n):=by rw [Wf];simp
 have nI:W1.cell? ⟨w.heap.size + 1,6,none⟩=some (.string t):=by rw [Wf];simp
 clear Wf;go_enter Try.func104,Try.ntmps104;go_wp2_with (first|(go_at_call 55;(with_reducible refine (Xk _ _ _ _).mono ?_);rintro e w1 ⟨rfl,⟨k1,rfl⟩⟩));rw [← HW.out];clear HW
 go_region
 all_goals go_wp2_with (first|(go_at_call 121;(refine (Xj _ slots _ _ ?hc).mono ?_);(case hc=>first|(go_simp;done)|(go_simp;rfl));rintro e w1 ⟨rfl,rfl⟩)|(go_at_call 122;(with_reducible refine (CK _ _).mono ?_);rintro e w2 ⟨rfl,bk⟩;have Mt:=ga.mk bk;obtain ⟨MY,xX⟩:=U1 bk;have GK:=bk.size;simp at GK;clear bk))
 all_goals go_ret
 all_goals exact ⟨by (try clear MY xX GK Mt);simp [*],by repeat (first|exact HB.out|(refine Qa ?_ Mt.out)|apply ja|apply ta|apply qa|refine ua ?_ (by first|omega|(simp;done)|(simp;omega)))⟩
theorem BQ (A0 A4:Option Addr) (c0 c4 n0 n4:Nat) (p1 p2 slots d a b c n:Int) (t:ByteArray) (w:World) (hn0:n0 ≤ 9223372036854775807) (KE:n4 ≤ 9223372036854775807) :
  Calls Try.prog 104 #[.agg #[.slice A0 n0 c0,.int .i64 p1,.int .i64 p2,.int .i64 slots,.slice A4 n4 c4],.agg #[.int .i64 3,.int .i64 d,.int .i64 a,.int .i64 b,.int .i64 c,.int .i64 n,.string t]] w fun e w'=>e = .returned (.bool (uk slots d && uk slots b && Yk n 0 ((n0:Int) - 1) && (uk slots a || a == -1) && (c == 0 && t.toList.isEmpty)))∧Below w.heap.size w w':=by
 obtain ⟨W1,Wf⟩:∃ W1,W1=(w.alloc (.cells #[.slice A0 n0 c0,.int .i64 p1,.int .i64 p2,.int .i64 slots,.slice A4 n4 c4] 30 (0,0))).alloc (.cells #[.int .i64 3,.int .i64 d,.int .i64 a,.int .i64 b,.int .i64 c,.int .i64 n,.string t] 65 (0,0)):=⟨_,rfl⟩;have HW:=ga.mk Wf;have HB:=ga.mk (show Below w.heap.size w W1 from by rw [Wf];exact qa (qa (Below.refl _ _) _) _);have hz:W1.heap.size=w.heap.size + 2:=by rw [Wf];simp
 have SD:W1.cell? ⟨w.heap.size,3,none⟩=some (.int .i64 slots):=by rw [Wf];simp
 have hx0:W1.cell? ⟨w.heap.size + 1,0,none⟩=some (.int .i64 3):=by rw [Wf];simp
 have hx1:W1.cell? ⟨w.heap.size + 1,1,none⟩=some (.int .i64 d):=by rw [Wf];simp
 have Ku:W1.cell? ⟨w.heap.size + 1,2,none⟩=some (.int .i64 a):=by rw [Wf];simp
 have Lp:W1.cell? ⟨w.heap.size + 1,3,none⟩=some (.int .i64 b):=by rw [Wf];simp
 have Yp:W1.cell? ⟨w.heap.size + 1,4,none⟩=some (.int .i64 c):=by rw [Wf];simp
 have dM:W1.cell? ⟨w.heap.size + 1,5,none⟩=some (.int .i64 n):=by rw [Wf];simp
 have nI:W1.cell? ⟨w.heap.size + 1,6,none⟩=some (.string t):=by rw [Wf];simp
 clear Wf;go_enter Try.func104,Try.ntmps104;go_wp2_with (first|(go_at_call 55;(with_reducible refine (Xk _ _ _ _).mono ?_);rintro e w1 ⟨rfl,⟨k1,rfl⟩⟩));rw [← HW.out];clear HW
 go_region
 all_goals go_wp2_with (first|(go_at_call 121;(refine (Xj _ slots _ _ ?hc).mono ?_);(case hc=>first|(go_simp;done)|(go_simp;rfl));rintro e w1 ⟨rfl,rfl⟩))
 all_goals go_ret
 all_goals exact ⟨by (try clear MY xX GK Mt);simp [*],by repeat (first|exact HB.out|(refine Qa ?_ Mt.out)|apply ja|apply ta|apply qa|refine ua ?_ (by first|omega|(simp;done)|(simp;omega)))⟩
theorem AQ (A0 A4:Option Addr) (c0 c4 n0 n4:Nat) (p1 p2 slots d a b c n:Int) (t:ByteArray) (w:World) (hn0:n0 ≤ 9223372036854775807) (KE:n4 ≤ 9223372036854775807) :
  Calls Try.prog 104 #[.agg #[.slice A0 n0 c0,.int .i64 p1,.int .i64 p2,.int .i64 slots,.slice A4 n4 c4],.agg #[.int .i64 4,.int .i64 d,.int .i64 a,.int .i64 b,.int .i64 c,.int .i64 n,.string t]] w fun e w'=>e = .returned (.bool (uk slots c && uk slots b && Yk n 0 ((n0:Int) - 1) && (uk slots a || a == -1) && (d == 0 && t.toList.isEmpty)))∧Below w.heap.size w w':=by
 obtain ⟨W1,Wf⟩:∃ W1,W1=(w.alloc (.cells #[.slice A0 n0 c0,.int .i64 p1,.int .i64 p2,.int .i64 slots,.slice A4 n4 c4] 30 (0,0))).alloc (.cells #[.int .i64 4,.int .i64 d,.int .i64 a,.int .i64 b,.int .i64 c,.int .i64 n,.string t] 65 (0,0)):=⟨_,rfl⟩;have HW:=ga.mk Wf;have HB:=ga.mk (show Below w.heap.size w W1 from by rw [Wf];exact qa (qa (Below.refl _ _) _) _);have hz:W1.heap.size=w.heap.size + 2:=by rw [Wf];simp
 have SD:W1.cell? ⟨w.heap.size,3,none⟩=some (.int .i64 slots):=by rw [Wf];simp
 have hx0:W1.cell? ⟨w.heap.size + 1,0,none⟩=some (.int .i64 4):=by rw [Wf];simp
 have hx1:W1.cell? ⟨w.heap.size + 1,1,none⟩=some (.int .i64 d):=by rw [Wf];simp
 have Ku:W1.cell? ⟨w.heap.size + 1,2,none⟩=some (.int .i64 a):=by rw [Wf];simp
 have Lp:W1.cell? ⟨w.heap.size + 1,3,none⟩=some (.int .i64 b):=by rw [Wf];simp
 have Yp:W1.cell? ⟨w.heap.size + 1,4,none⟩=some (.int .i64 c):=by rw [Wf];simp
 have dM:W1.cell? ⟨w.heap.size + 1,5,none⟩=some (.int .i64 n):=by rw [Wf];simp
 have nI:W1.cell? ⟨w.heap.size + 1,6,none⟩=some (.string t):=by rw [Wf];simp
 clear Wf;go_enter Try.func104,Try.ntmps104;go_wp2_with (first|(go_at_call 55;(with_reducible refine (Xk _ _ _ _).mono ?_);rintro e w1 ⟨rfl,⟨k1,rfl⟩⟩));rw [← HW.out];clear HW
 go_region
 all_goals go_wp2_with (first|(go_at_call 121;(refine (Xj _ slots _ _ ?hc).mono ?_);(case hc=>first|(go_simp;done)|(go_simp;rfl));rintro e w1 ⟨rfl,rfl⟩))
 all_goals go_ret
 all_goals exact ⟨by (try clear MY xX GK Mt);simp [*],by repeat (first|exact HB.out|(refine Qa ?_ Mt.out)|apply ja|apply ta|apply qa|refine ua ?_ (by first|omega|(simp;done)|(simp;omega)))⟩
theorem zQ (A0 A4:Option Addr) (c0 c4 n0 n4:Nat) (p1 p2 slots d a b c n:Int) (t:ByteArray) (w:World) (hn0:n0 ≤ 9223372036854775807) (KE:n4 ≤ 9223372036854775807) :
  Calls Try.prog 104 #[.agg #[.slice A0 n0 c0,.int .i64 p1,.int .i64 p2,.int .i64 slots,.slice A4 n4 c4],.agg #[.int .i64 5,.int .i64 d,.int .i64 a,.int .i64 b,.int .i64 c,.int .i64 n,.string t]] w fun e w'=>e = .returned (.bool (uk slots d && (a == 0 && (b == 0 && (c == 0 && (n == 0 && t.toList.isEmpty))))))∧Below w.heap.size w w':=by
 obtain ⟨W1,Wf⟩:∃ W1,W1=(w.alloc (.cells #[.slice A0 n0 c0,.int .i64 p1,.int .i64 p2,.int .i64 slots,.slice A4 n4 c4] 30 (0,0))).alloc (.cells #[.int .i64 5,.int .i64 d,.int .i64 a,.int .i64 b,.int .i64 c,.int .i64 n,.string t] 65 (0,0)):=⟨_,rfl⟩;have HW:=ga.mk Wf;have HB:=ga.mk (show Below w.heap.size w W1 from by rw [Wf];exact qa (qa (Below.refl _ _) _) _);have hz:W1.heap.size=w.heap.size + 2:=by rw [Wf];simp
 have SD:W1.cell? ⟨w.heap.size,3,none⟩=some (.int .i64 slots):=by rw [Wf];simp
 have hx0:W1.cell? ⟨w.heap.size + 1,0,none⟩=some (.int .i64 5):=by rw [Wf];simp
 have hx1:W1.cell? ⟨w.heap.size + 1,1,none⟩=some (.int .i64 d):=by rw [Wf];simp
 have Ku:W1.cell? ⟨w.heap.size + 1,2,none⟩=some (.int .i64 a):=by rw [Wf];simp
 have Lp:W1.cell? ⟨w.heap.size + 1,3,none⟩=some (.int .i64 b):=by rw [Wf];simp
 have Yp:W1.cell? ⟨w.heap.size + 1,4,none⟩=some (.int .i64 c):=by rw [Wf];simp
 have dM:W1.cell? ⟨w.heap.size + 1,5,none⟩=some (.int .i64 n):=by rw [Wf];simp
 have nI:W1.cell? ⟨w.heap.size + 1,6,none⟩=some (.string t):=by rw [Wf];simp
 clear Wf;go_enter Try.func104,Try.ntmps104;go_wp2_with (first|(go_at_call 55;(with_reducible refine (Xk _ _ _ _).mono ?_);rintro e w1 ⟨rfl,⟨k1,rfl⟩⟩));rw [← HW.out];clear HW
 go_region
 all_goals go_wp2_with (first|(go_at_call 121;(refine (Xj _ slots _ _ ?hc).mono ?_);(case hc=>first|(go_simp;done)|(go_simp;rfl));rintro e w1 ⟨rfl,rfl⟩))
 all_goals go_ret
 all_goals exact ⟨by (try clear MY xX GK Mt);simp [*],by repeat (first|exact HB.out|(refine Qa ?_ Mt.out)|apply ja|apply ta|apply qa|refine ua ?_ (by first|omega|(simp;done)|(simp;omega)))⟩
theorem yQ (A0 A4:Option Addr) (c0 c4 n0 n4:Nat) (p1 p2 slots d a b c n:Int) (t:ByteArray) (w:World) (hn0:n0 ≤ 9223372036854775807) (KE:n4 ≤ 9223372036854775807) :
  Calls Try.prog 104 #[.agg #[.slice A0 n0 c0,.int .i64 p1,.int .i64 p2,.int .i64 slots,.slice A4 n4 c4],.agg #[.int .i64 6,.int .i64 d,.int .i64 a,.int .i64 b,.int .i64 c,.int .i64 n,.string t]] w fun e w'=>e = .returned (.bool (uk slots a && (d == 0 && (b == 0 && (c == 0 && (n == 0 && t.toList.isEmpty))))))∧Below w.heap.size w w':=by
 obtain ⟨W1,Wf⟩:∃ W1,W1=(w.alloc (.cells #[.slice A0 n0 c0,.int .i64 p1,.int .i64 p2,.int .i64 slots,.slice A4 n4 c4] 30 (0,0))).alloc (.cells #[.int .i64 6,.int .i64 d,.int .i64 a,.int .i64 b,.int .i64 c,.int .i64 n,.string t] 65 (0,0)):=⟨_,rfl⟩;have HW:=ga.mk Wf;have HB:=ga.mk (show Below w.heap.size w W1 from by rw [Wf];exact qa (qa (Below.refl _ _) _) _);have hz:W1.heap.size=w.heap.size + 2:=by rw [Wf];simp
 have SD:W1.cell? ⟨w.heap.size,3,none⟩=some (.int .i64 slots):=by rw [Wf];simp
 have hx0:W1.cell? ⟨w.heap.size + 1,0,none⟩=some (.int .i64 6):=by rw [Wf];simp
 have hx1:W1.cell? ⟨w.heap.size + 1,1,none⟩=some (.int .i64 d):=by rw [Wf];simp
 have Ku:W1.cell? ⟨w.heap.size + 1,2,none⟩=some (.int .i64 a):=by rw [Wf];simp
 have Lp:W1.cell? ⟨w.heap.size + 1,3,none⟩=some (.int .i64 b):=by rw [Wf];simp
 have Yp:W1.cell? ⟨w.heap.size + 1,4,none⟩=some (.int .i64 c):=by rw [Wf];simp
 have dM:W1.cell? ⟨w.heap.size + 1,5,none⟩=some (.int .i64 n):=by rw [Wf];simp
 have nI:W1.cell? ⟨w.heap.size + 1,6,none⟩=some (.string t):=by rw [Wf];simp
 clear Wf;go_enter Try.func104,Try.ntmps104;go_wp2_with (first|(go_at_call 55;(with_reducible refine (Xk _ _ _ _).mono ?_);rintro e w1 ⟨rfl,⟨k1,rfl⟩⟩));rw [← HW.out];clear HW
 go_region
 all_goals go_wp2_with (first|(go_at_call 121;(refine (Xj _ slots _ _ ?hc).mono ?_);(case hc=>first|(go_simp;done)|(go_simp;rfl));rintro e w1 ⟨rfl,rfl⟩))
 all_goals go_ret
 all_goals exact ⟨by (try clear MY xX GK Mt);simp [*],by repeat (first|exact HB.out|(refine Qa ?_ Mt.out)|apply ja|apply ta|apply qa|refine ua ?_ (by first|omega|(simp;done)|(simp;omega)))⟩
theorem DK (A0 A4:Option Addr) (c0 c4 n0 n4:Nat) (p1 p2 slots d a b c n:Int) (t:ByteArray) (w:World) (hn0:n0 ≤ 9223372036854775807) (KE:n4 ≤ 9223372036854775807) (o:Int) (h0:(o == 0)=false) (h1:(o == 1)=false) (h2:(o == 2)=false) (h3:(o == 3)=false) (h4:(o == 4)=false) (h5:(o == 5)=false) (h6:(o == 6)=false) :
  Calls Try.prog 104 #[.agg #[.slice A0 n0 c0,.int .i64 p1,.int .i64 p2,.int .i64 slots,.slice A4 n4 c4],.agg #[.int .i64 o,.int .i64 d,.int .i64 a,.int .i64 b,.int .i64 c,.int .i64 n,.string t]] w fun e w'=>e = .returned (.bool (false))∧Below w.heap.size w w':=by
 obtain ⟨W1,Wf⟩:∃ W1,W1=(w.alloc (.cells #[.slice A0 n0 c0,.int .i64 p1,.int .i64 p2,.int .i64 slots,.slice A4 n4 c4] 30 (0,0))).alloc (.cells #[.int .i64 o,.int .i64 d,.int .i64 a,.int .i64 b,.int .i64 c,.int .i64 n,.string t] 65 (0,0)):=⟨_,rfl⟩;have HW:=ga.mk Wf;have HB:=ga.mk (show Below w.heap.size w W1 from by rw [Wf];exact qa (qa (Below.refl _ _) _) _);have hz:W1.heap.size=w.heap.size + 2:=by rw [Wf];simp
 have SD:W1.cell? ⟨w.heap.size,3,none⟩=some (.int .i64 slots):=by rw [Wf];simp
 have hx0:W1.cell? ⟨w.heap.size + 1,0,none⟩=some (.int .i64 o):=by rw [Wf];simp
 have hx1:W1.cell? ⟨w.heap.size + 1,1,none⟩=some (.int .i64 d):=by rw [Wf];simp
 have Ku:W1.cell? ⟨w.heap.size + 1,2,none⟩=some (.int .i64 a):=by rw [Wf];simp
 have Lp:W1.cell? ⟨w.heap.size + 1,3,none⟩=some (.int .i64 b):=by rw [Wf];simp
 have Yp:W1.cell? ⟨w.heap.size + 1,4,none⟩=some (.int .i64 c):=by rw [Wf];simp
 have dM:W1.cell? ⟨w.heap.size + 1,5,none⟩=some (.int .i64 n):=by rw [Wf];simp
 have nI:W1.cell? ⟨w.heap.size + 1,6,none⟩=some (.string t):=by rw [Wf];simp
 clear Wf;go_enter Try.func104,Try.ntmps104;go_wp2_with (first|(go_at_call 55;(with_reducible refine (Xk _ _ _ _).mono ?_);rintro e w1 ⟨rfl,⟨k1,rfl⟩⟩));rw [← HW.out];clear HW
 go_region
 all_goals go_wp2_with (first|(go_at_call 121;(refine (Xj _ slots _ _ ?hc).mono ?_);(case hc=>first|(go_simp;done)|(go_simp;rfl));rintro e w1 ⟨rfl,rfl⟩))
 all_goals go_ret
 all_goals exact ⟨by (try clear MY xX GK Mt);simp [*],by repeat (first|exact HB.out|(refine Qa ?_ Mt.out)|apply ja|apply ta|apply qa|refine ua ?_ (by first|omega|(simp;done)|(simp;omega)))⟩
def Ml (n0:Nat) (slots:Int) (o d a b c n:Int) (t:ByteArray):Bool :=
 if o=0 then uk slots d && (a == 0 && (b == 0 && (c == 0 && t.toList.isEmpty)))
 else if o=1 then uk slots d && uk slots a && (b == 0 && (c == 0 && (n == 0 && t.toList.isEmpty)))
 else if o=2 then uk slots d && uk slots a && uk slots b && zx t && (c == 0 && n == 0)
 else if o=3 then uk slots d && uk slots b && Yk n 0 ((n0:Int) - 1) && (uk slots a || a == -1) && (c == 0 && t.toList.isEmpty)
 else if o=4 then uk slots c && uk slots b && Yk n 0 ((n0:Int) - 1) && (uk slots a || a == -1) && (d == 0 && t.toList.isEmpty)
 else if o=5 then uk slots d && (a == 0 && (b == 0 && (c == 0 && (n == 0 && t.toList.isEmpty))))
 else if o=6 then uk slots a && (d == 0 && (b == 0 && (c == 0 && (n == 0 && t.toList.isEmpty))))
 else false
theorem NI (A0 A4:Option Addr) (c0 c4 n0 n4:Nat) (p1 p2 slots:Int) (w:World) (hn0:n0 ≤ 9223372036854775807) (KE:n4 ≤ 9223372036854775807) (o d a b c n:Int) (t:ByteArray) :
  Calls Try.prog 104 #[.agg #[.slice A0 n0 c0,.int .i64 p1,.int .i64 p2,.int .i64 slots,.slice A4 n4 c4],.agg #[.int .i64 o,.int .i64 d,.int .i64 a,.int .i64 b,.int .i64 c,.int .i64 n,.string t]] w fun e w'=>e = .returned (.bool (Ml n0 slots o d a b c n t))∧Below w.heap.size w w':=by
 unfold Ml
 by_cases h0:o=0
 ·rw [if_pos h0,h0];exact FQ A0 A4 c0 c4 n0 n4 p1 p2 slots d a b c n t w hn0 KE
 rw [if_neg h0]
 by_cases h1:o=1
 ·rw [if_pos h1,h1];exact DQ A0 A4 c0 c4 n0 n4 p1 p2 slots d a b c n t w hn0 KE
 rw [if_neg h1]
 by_cases h2:o=2
 ·rw [if_pos h2,h2];exact CQ A0 A4 c0 c4 n0 n4 p1 p2 slots d a b c n t w hn0 KE
 rw [if_neg h2]
 by_cases h3:o=3
 ·rw [if_pos h3,h3];exact BQ A0 A4 c0 c4 n0 n4 p1 p2 slots d a b c n t w hn0 KE
 rw [if_neg h3]
 by_cases h4:o=4
 ·rw [if_pos h4,h4];exact AQ A0 A4 c0 c4 n0 n4 p1 p2 slots d a b c n t w hn0 KE
 rw [if_neg h4]
 by_cases h5:o=5
 ·rw [if_pos h5,h5];exact zQ A0 A4 c0 c4 n0 n4 p1 p2 slots d a b c n t w hn0 KE
 rw [if_neg h5]
 by_cases h6:o=6
 ·rw [if_pos h6,h6];exact yQ A0 A4 c0 c4 n0 n4 p1 p2 slots d a b c n t w hn0 KE
 rw [if_neg h6];exact DK A0 A4 c0 c4 n0 n4 p1 p2 slots d a b c n t w hn0 KE o (beq_eq_false_iff_ne.mpr h0) (beq_eq_false_iff_ne.mpr h1) (beq_eq_false_iff_ne.mpr h2) (beq_eq_false_iff_ne.mpr h3) (beq_eq_false_iff_ne.mpr h4) (beq_eq_false_iff_ne.mpr h5) (beq_eq_false_iff_ne.mpr h6)
def bn (n0:Nat) (slots:Int) (x:Be):Bool:=Ml n0 slots x.f0 x.f1 x.f2 x.f3 x.f4 x.f5 x.f6
def Pj (n0:Nat) (slots:Int) (n4:Nat) (code:List Be) (j a tg els:Int):Bool :=
 !(code.any fun x=>!bn n0 slots x) && decide (0 ≤ slots) &&
  (if j=0 then Yk tg 0 ((n4:Int) - 1) && a == 0 && els == 0
   else if j=1 then Yk tg 0 ((n4:Int) - 1) && Yk els 0 ((n4:Int) - 1) && uk slots a
   else if j=2 then uk slots a && tg == 0 && els == 0
   else false)
theorem GQ (B:Nat) (A0 A4:Option Addr) (c0 c4 n0 n4:Nat) (p1 p2 slots:Int) (hn0:n0 ≤ 9223372036854775807) (KE:n4 ≤ 9223372036854775807) (W:World) (x:Be)
  (hb0:W.cell? ⟨B,0,none⟩=some (.slice A0 n0 c0)) (rA:W.cell? ⟨B,1,none⟩=some (.int .i64 p1)) (bk:W.cell? ⟨B,2,none⟩=some (.int .i64 p2)) (hb3:W.cell? ⟨B,3,none⟩=some (.int .i64 slots)) (d_:W.cell? ⟨B,4,none⟩=some (.slice A4 n4 c4)) (hB:B < W.heap.size) :
  Calls Try.prog 103 #[.agg #[.int .i64 x.f0,.int .i64 x.f1,.int .i64 x.f2,.int .i64 x.f3,.int .i64 x.f4,.int .i64 x.f5,.string x.f6],.pointer (some ⟨B,0,none⟩)] W
   fun e w'=>e = .returned (.bool (!bn n0 slots x))∧Below W.heap.size W w':=by
 have hne:B ≠ W.heap.size:=by omega
 unfold bn;have HC:=ga.mk (fun W'=>NI A0 A4 c0 c4 n0 n4 p1 p2 slots W' hn0 KE x.f0 x.f1 x.f2 x.f3 x.f4 x.f5 x.f6);generalize Ml n0 slots x.f0 x.f1 x.f2 x.f3 x.f4 x.f5 x.f6=b at HC ⊢;go_enter Try.func103,Try.ntmps103;go_wp2_with (go_at_call 104;(with_reducible refine (HC.out _).mono ?_);rintro e w1 ⟨rfl,hb⟩;have HD:=ga.mk (Qa (qa (Below.refl _ _) _) hb);clear hb);go_ret;exact ⟨rfl,HD.out⟩
theorem OI (A0 A4 A5:Option Addr) (c0 c4 c5 n0 n4:Nat) (p1 p2 slots:Int) (l5:List Be) (j a tg els:Int) (w:World) (hn0:n0 ≤ 9223372036854775807) (KE:n4 ≤ 9223372036854775807) (lV:Kd.C nj w A5 l5.length l5) (hc5:l5.length ≤ c5) :
  Calls Try.prog 77 #[.agg #[.slice A0 n0 c0,.int .i64 p1,.int .i64 p2,.int .i64 slots,.slice A4 n4 c4],.agg #[.slice A5 l5.length c5,.int .i64 j,.int .i64 a,.int .i64 tg,.int .i64 els]] w fun e w'=>e = .returned (.bool (Pj n0 slots n4 l5 j a tg els))∧Below w.heap.size w w':=by
 have eg:=enters_of Try.func103 (by kernel_rfl) rfl;have hm5:=lV.2.1;obtain ⟨W1,Wf⟩:∃ W1,W1=(w.alloc (.cells #[.slice A0 n0 c0,.int .i64 p1,.int .i64 p2,.int .i64 slots,.slice A4 n4 c4] 30 (0,0))).alloc (.cells #[.slice A5 l5.length c5,.int .i64 j,.int .i64 a,.int .i64 tg,.int .i64 els] 59 (0,0)):=⟨_,rfl⟩;have HW:=ga.mk Wf;have hB1:Below w.heap.size w W1:=by rw [Wf];exact qa (qa (Below.refl _ _) _) _
 have hz:W1.heap.size=w.heap.size + 2:=by rw [Wf];simp
 have ZS:W1.cell? ⟨w.heap.size,0,none⟩=some (.slice A0 n0 c0):=by rw [Wf];simp
 have fE:W1.cell? ⟨w.heap.size,1,none⟩=some (.int .i64 p1):=by rw [Wf];simp
 have YS:W1.cell? ⟨w.heap.size,2,none⟩=some (.int .i64 p2):=by rw [Wf];simp
 have XJ:W1.cell? ⟨w.heap.size,3,none⟩=some (.int .i64 slots):=by rw [Wf];simp
 have pI:W1.cell? ⟨w.heap.size,4,none⟩=some (.slice A4 n4 c4):=by rw [Wf];simp
 have hx0:W1.cell? ⟨w.heap.size + 1,0,none⟩=some (.slice A5 l5.length c5):=by rw [Wf];simp
 have hx1:W1.cell? ⟨w.heap.size + 1,1,none⟩=some (.int .i64 j):=by rw [Wf];simp
 have Ku:W1.cell? ⟨w.heap.size + 1,2,none⟩=some (.int .i64 a):=by rw [Wf];simp
 have Lp:W1.cell? ⟨w.heap.size + 1,3,none⟩=some (.int .i64 tg):=by rw [Wf];simp
 have Yp:W1.cell? ⟨w.heap.size + 1,4,none⟩=some (.int .i64 els):=by rw [Wf];simp
 have Zq:=Kd.Jb lV hB1;clear Wf lV
 have HF:=ga.mk (Sw 103 #[.pointer (some ⟨w.heap.size,0,none⟩)] (fun x=>!bn n0 slots x) eg A5 c5 l5 W1 Zq hc5
  (fun W2 x hb'=>GQ w.heap.size A0 A4 c0 c4 n0 n4 p1 p2 slots hn0 KE W2 x ((hb'.cell (p:=⟨w.heap.size,0,none⟩) (by simp;omega)).trans ZS) ((hb'.cell (p:=⟨w.heap.size,1,none⟩) (by simp;omega)).trans fE) ((hb'.cell (p:=⟨w.heap.size,2,none⟩) (by simp;omega)).trans YS) ((hb'.cell (p:=⟨w.heap.size,3,none⟩) (by simp;omega)).trans XJ) ((hb'.cell (p:=⟨w.heap.size,4,none⟩) (by simp;omega)).trans pI) (Nat.lt_of_lt_of_le (by omega) hb'.size)))
 have HB:=ga.mk hB1;clear Zq hB1 eg;unfold Pj;cases hq:l5.any (fun x=>!bn n0 slots x) with
 | true =>
  rw [hq] at HF;go_enter Try.func77,Try.ntmps77
  go_upto_region 1 with (fail)
  rw [← HW.out];clear HW;go_wp2_with (first|(go_at_call 102;(with_reducible refine HF.out.mono ?_);rintro e w2 ⟨rfl,bk⟩;have Mt:=ga.mk bk;clear bk))
  all_goals
   go_ret;exact ⟨by simp,Qa HB.out Mt.out⟩
 | false =>
  rw [hq] at HF;cases ha0:decide (0 ≤ a)
  all_goals
   go_enter Try.func77,Try.ntmps77
   go_upto_region 1 with (fail)
   rw [← HW.out];clear HW
   go_upto_region 3 with (first|(go_at_call 102;(with_reducible refine HF.out.mono ?_);rintro e w2 ⟨rfl,bk⟩;replace XJ:=(bk.cell (World.block_lt_of_cell? W1 _ XJ)).trans XJ;replace pI:=(bk.cell (World.block_lt_of_cell? W1 _ pI)).trans pI;replace hx1:=(bk.cell (World.block_lt_of_cell? W1 _ hx1)).trans hx1;replace Ku:=(bk.cell (World.block_lt_of_cell? W1 _ Ku)).trans Ku;replace Lp:=(bk.cell (World.block_lt_of_cell? W1 _ Lp)).trans Lp;replace Yp:=(bk.cell (World.block_lt_of_cell? W1 _ Yp)).trans Yp;have Mt:=ga.mk (Qa HB.out bk);clear bk HB ZS fE YS hx0))
   go_quiet ((go_at_call 55;exact Calls.quiet_of ((Xk _ _ _ _).mono fun _ _ ⟨he,hm⟩=>⟨he,hm.out⟩)))
   go_wp2
   all_goals go_ret
   all_goals exact ⟨by first|(simp [uk, *];done)|(simp [uk, *];intros;omega)|(clear HF XJ pI hx1 Ku Lp Yp;simp_all [uk];done)|(clear HF XJ pI hx1 Ku Lp Yp;simp_all [uk];omega),by repeat (first|exact Mt.out|apply ja)⟩
def Qi.f (Ra:List Int) (La:Int) (Ja:Int) (Ma:Int) (Aa:List (Re)) (Nc:List (Be)) (Tb:Int) (Kb:Int) (Lb:Int) (Xb:Int):Option Bool:=some (Pj Ra.length Ma Aa.length Nc Tb Kb Lb Xb)
theorem Qi.calls (Xa:Option Addr) (Ya:Nat) (Ra:List Int) (La:Int) (Ja:Int) (Ma:Int) (Mb:Option Addr) (Fb:Nat) (Aa:List (Re)) (Nf:Option Addr) (Ef:Nat) (Nc:List (Be)) (Tb:Int) (Kb:Int) (Lb:Int) (Xb:Int) (r:Bool) (w:World) (Xd:Kd.C (Kd.int .i64) w Xa Ra.length Ra) (Vd:Ra.length ≤ Ya) (Ff:Kd.C Kp w Mb Aa.length Aa) (uf:Aa.length ≤ Fb) (Fw:Kd.C nj w Nf Nc.length Nc) (Hw:Nc.length ≤ Ef) (h:Qi.f Ra La Ja Ma Aa Nc Tb Kb Lb Xb=some r) :
  Calls Try.prog 77 #[.agg #[.slice Xa Ra.length Ya,.int .i64 La,.int .i64 Ja,.int .i64 Ma,.slice Mb Aa.length Fb],.agg #[.slice Nf Nc.length Ef,.int .i64 Tb,.int .i64 Kb,.int .i64 Lb,.int .i64 Xb]] w fun e w'=>e = .returned (.bool r)∧Below w.heap.size w w':=by
 injection h with h
 subst h;exact OI Xa Mb Nf Ya Fb Ef Ra.length Aa.length La Ja Ma Nc Tb Kb Lb Xb w Xd.2.1 Ff.2.1 Fw Hw
mutual
def Vb.j0:Nat→Bool→List Int→Int→Int→Int→List (Re)→Option (Bool)
 | 0,_,_,_,_,_,_=>none
 | k + 1,x29,Cc,Tc,Ic,Gc,Wb=>if x29=true then (some false) else (Vb.l0 k 0 Wb (Wb.length:Int) 0 Cc Tc Ic Gc Wb)
def Vb.l0:Nat→Int→List (Re)→Int→Int→List Int→Int→Int→Int→List (Re)→Option (Bool)
 | 0,_,_,_,_,_,_,_,_,_=>none
 | k + 1,x3,KZ,x32,eV,Cc,Tc,Ic,Gc,Wb=>if eV < x32 then (if 0 ≤ eV then (if eV < (KZ.length:Int) then ((Qi.f Cc Tc Ic Gc Wb ((Ea KZ eV).f0) ((Ea KZ eV).f1) ((Ea KZ eV).f2) ((Ea KZ eV).f3) ((Ea KZ eV).f4)).bind fun t107=>(if t107=true then (Vb.l0 k (wrap64 (x3 + (((Ea KZ eV).f0).length:Int))) KZ x32 (wrap64 (eV + 1)) Cc Tc Ic Gc Wb) else (some false))) else (none)) else (none)) else (some (decide (x3 ≤ 1000)))
end
def Vb.f (k:Nat) (Ra:List Int) (La:Int) (Ja:Int) (Ma:Int) (Aa:List (Re)):Option (Bool):=(Eg.f Ra La Ja ([]:List (yA))).bind fun t102=>(if t102=true then ((bh.f Ma Ja 1000).bind fun t103=>(if t103=true then ((bh.f (Aa.length:Int) 1 300).bind fun t104=>(Vb.j0 k (!t104) Ra La Ja Ma Aa)) else (Vb.j0 k true Ra La Ja Ma Aa))) else (Vb.j0 k true Ra La Ja Ma Aa))
theorem Vb.calls (k:Nat) (Xa:Option Addr) (Ya:Nat) (Ra:List Int) (La:Int) (Ja:Int) (Ma:Int) (Mb:Option Addr) (Fb:Nat) (Aa:List (Re)) (r:Bool) (w:World) (Xd:Kd.C (Kd.int .i64) w Xa Ra.length Ra) (Vd:Ra.length ≤ Ya) (Ff:Kd.C Kp w Mb Aa.length Aa) (uf:Aa.length ≤ Fb) (h:Vb.f k Ra La Ja Ma Aa=some r) :
  Calls Try.prog 46 #[.agg #[.slice Xa Ra.length Ya,.int .i64 La,.int .i64 Ja,.int .i64 Ma,.slice Mb Aa.length Fb]] w fun e w'=>e = .returned (.bool r)∧Below w.heap.size w w':=by
 have eE:=Try.underlying30;have tay:=Try.underlying95;have YA:=Try.underlying59;have Ye:=ga.mk Xd;have gf:=ga.mk Vd;clear Xd Vd;have wg:=ga.mk Ff;have ei:=ga.mk uf;clear Ff uf;have HB:=ga.mk (Below.refl w.heap.size w);have H:((Eg.f Ra La Ja ([]:List (yA))).bind fun t102=>(if t102=true then ((bh.f Ma Ja 1000).bind fun t103=>(if t103=true then ((bh.f (Aa.length:Int) 1 300).bind fun t104=>(Vb.j0 k (!t104) Ra La Ja Ma Aa)) else (Vb.j0 k true Ra La Ja Ma Aa))) else (Vb.j0 k true Ra La Ja Ma Aa)))=some r:=h;clear h;have YP:=ga.mk H;clear H;go_enter Try.func46,Try.ntmps46
 go_upto_region 1 with (first|((with_reducible refine qb (N:=1) rfl ?_);(try (refine Ti (by rfl) ?_;dsimp only));refine Gb ?hg (N:=1) ?hd (cs:=#[.slice Xa Ra.length Ya,.int .i64 La,.int .i64 Ja,.int .i64 Ma,.slice Mb Aa.length Fb]) (t:=30) ?hr ?_;(case hd=>rfl);(case hg=>rfl);(case hr=>first|(go_simp;done)|(go_simp;rfl));intro ya hg w3 Ob hb;have yb:=ga.mk (Qa (by repeat (first|(with_reducible first|exact HB.out|apply qa|apply ja|apply ta)|exact HB.out)) hb);have Ib:=ga.mk (Ob);have Nb:=ga.mk ((by rw [hg];exact (Ia (by repeat (first|(with_reducible first|exact HB.out|apply qa|apply ja|apply ta)|exact HB.out))):w.heap.size ≤ ya));have Dc:=ga.mk ((by rw [hg];exact (Ia (by repeat (first|(with_reducible first|exact HB.out|apply qa|apply ja|apply ta)|exact HB.out))):w.heap.size ≤ ya));clear HB;have HB:=yb;have oa:=Ib;have Nd:=Nb;have Ta:=Dc;clear yb Ib Nb Dc hb Ob hg))
 (try simp only [Act.put,List.setIfInBounds_toArray,List.set_cons_zero,List.set_cons_succ])
 go_cut [29] (fun v29 wc=>∃ (kq:Nat) (QL:Bool),v29 = .bool QL∧ga (Vb.j0 kq QL Ra La Ja Ma Aa=some r)∧ga (kq ≤ k)∧ga (wc.heap[ya]? = some (.cells #[(.slice Xa Ra.length Ya),.int .i64 La,.int .i64 Ja,.int .i64 Ma,(.slice Mb Aa.length Fb)] 30 (0,0)))∧ga (Below w.heap.size w wc))
 case first =>
  have H:=YP.out;clear YP;replace H:=Option.bind_eq_some_iff.mp H;obtain ⟨t102,fQ,H⟩:=H;replace H:(if t102=true then ((bh.f Ma Ja 1000).bind fun t103=>(if t103=true then ((bh.f (Aa.length:Int) 1 300).bind fun t104=>(Vb.j0 k (!t104) Ra La Ja Ma Aa)) else (Vb.j0 k true Ra La Ja Ma Aa))) else (Vb.j0 k true Ra La Ja Ma Aa))=some r:=H;have A4:=ga.mk fQ;clear fQ
  by_cases c5:t102=true
  ·subst c5;have H1:((bh.f Ma Ja 1000).bind fun t103=>(if t103=true then ((bh.f (Aa.length:Int) 1 300).bind fun t104=>(Vb.j0 k (!t104) Ra La Ja Ma Aa)) else (Vb.j0 k true Ra La Ja Ma Aa)))=some r:=by rw [if_pos rfl] at H;exact H
   clear H;have H:=H1;clear H1;replace H:=Option.bind_eq_some_iff.mp H;obtain ⟨t103,N3,H⟩:=H;replace H:(if t103=true then ((bh.f (Aa.length:Int) 1 300).bind fun t104=>(Vb.j0 k (!t104) Ra La Ja Ma Aa)) else (Vb.j0 k true Ra La Ja Ma Aa))=some r:=H;have A6:=ga.mk N3;clear N3
   by_cases c7:t103=true
   ·subst c7;have H1:((bh.f (Aa.length:Int) 1 300).bind fun t104=>(Vb.j0 k (!t104) Ra La Ja Ma Aa))=some r:=by rw [if_pos rfl] at H;exact H
    clear H;have H:=H1;clear H1;replace H:=Option.bind_eq_some_iff.mp H;obtain ⟨t104,ZU,H⟩:=H;replace H:(Vb.j0 k (!t104) Ra La Ja Ma Aa)=some r:=H;have A8:=ga.mk ZU;clear ZU;have H':=ga.mk H;clear H;have xm:w3.cell? ⟨ya,0,none⟩=some (.slice Xa Ra.length Ya):=(ia oa.out 0).trans rfl;have wm:w3.cell? ⟨ya,1,none⟩=some (.int .i64 La):=(ia oa.out 1).trans rfl;have vm:w3.cell? ⟨ya,2,none⟩=some (.int .i64 Ja):=(ia oa.out 2).trans rfl;have um:w3.cell? ⟨ya,3,none⟩=some (.int .i64 Ma):=(ia oa.out 3).trans rfl;have rm:w3.cell? ⟨ya,4,none⟩=some (.slice Mb Aa.length Fb):=(ia oa.out 4).trans rfl;have qm:=aa oa.out 0;have om:=aa oa.out 1;have mm:=aa oa.out 2;have jm:=aa oa.out 3;have gm:=aa oa.out 4;go_wp2_with (first|((with_reducible refine mb (f:=76) rfl ?_);refine Fc (some 13) rfl rfl Try.func76 (by kernel_rfl) rfl #[.agg #[.slice Xa Ra.length Ya,.int .i64 La,.int .i64 Ja,.slice none 0 0]] rfl (by (try simp only [List.map_toArray,List.map_cons,List.map_nil]);first|done|rfl|(simp only [List.length_drop,List.length_take];rfl)) ?_;(refine (Eg.calls _ _ Ra La Ja _ _ ([]:List (yA)) true _ ?yc ?uc ?Gd ?Ed A4.out).mono ?_);(case yc=>repeat (first|exact (Kd.Jb Ye.out HB.out)|(with_reducible refine Kd.Rb ?_ _)|(with_reducible refine Kd.Qb ?_ _)|(with_reducible refine Kd.Yb ?_)));(case uc=>exact gf.out);(case Gd=>exact Kd.dQ _ _);(case Ed=>exact Nat.le_refl _);rintro e Wq ⟨rfl,hb⟩;refine ⟨_,rfl,?_⟩;have yb:=ga.mk (Va (g:=ya) (o:=.cells #[.slice Xa Ra.length Ya,.int .i64 La,.int .i64 Ja,.int .i64 Ma,.slice Mb Aa.length Fb] 30 (0,0)) (by (with_reducible repeat (first|refine Ba ?_ _|refine Fa ?_|refine Ca ?_ _));exact oa.out) hb);have Ib:=ga.mk (Qa (by repeat (first|(with_reducible first|exact HB.out|apply qa|apply ja|apply ta|refine ua ?_ Ta.out)|exact HB.out)) hb);clear oa HB;have oa:=yb;have HB:=Ib;clear yb Ib;(try clear hb);(try clear bk);(try clear hk);(try clear hi);have bt:Wq.cell? ⟨ya,0,none⟩=some (.slice Xa Ra.length Ya):=(ia oa.out 0).trans rfl;have Zs:Wq.cell? ⟨ya,1,none⟩=some (.int .i64 La):=(ia oa.out 1).trans rfl;have Ys:Wq.cell? ⟨ya,2,none⟩=some (.int .i64 Ja):=(ia oa.out 2).trans rfl;have Xs:Wq.cell? ⟨ya,3,none⟩=some (.int .i64 Ma):=(ia oa.out 3).trans rfl;have Ws:Wq.cell? ⟨ya,4,none⟩=some (.slice Mb Aa.length Fb):=(ia oa.out 4).trans rfl;have Gs:=aa oa.out 0;have Fs:=aa oa.out 1;have Es:=aa oa.out 2;have Ds:=aa oa.out 3;have Cs:=aa oa.out 4)|(go_at_call 55;(with_reducible refine (bh.calls Ma Ja 1000 true _ A6.out).mono ?_);rintro e w' ⟨rfl,⟨nd,rfl⟩⟩)|(go_at_call 55;(with_reducible refine (bh.calls (Aa.length:Int) 1 300 t104 _ A8.out).mono ?_);rintro e w' ⟨rfl,⟨nd,rfl⟩⟩))
    go_meet
    case rel=>exact ⟨_,(!t104),(by first|rfl|(simp;done)|(simp [*];done)),H',⟨by first|omega|exact Nat.le_refl _⟩,⟨by (with_reducible repeat (first|refine Ba ?_ _|refine Fa ?_|refine Ca ?_ _));exact oa.out⟩,⟨by repeat (first|(with_reducible first|exact HB.out|apply qa|apply ja|apply ta|refine ua ?_ Ta.out)|exact HB.out)⟩⟩
   ·replace c7:=Bool.eq_false_iff.mpr c7;subst c7;have H1:(Vb.j0 k true Ra La Ja Ma Aa)=some r:=by rw [if_neg (show ¬ (false=true) by decide)] at H;exact H
    clear H;have H:=H1;clear H1;have H':=ga.mk H;clear H;have Mq:w3.cell? ⟨ya,0,none⟩=some (.slice Xa Ra.length Ya):=(ia oa.out 0).trans rfl;have Kq:w3.cell? ⟨ya,1,none⟩=some (.int .i64 La):=(ia oa.out 1).trans rfl;have Jq:w3.cell? ⟨ya,2,none⟩=some (.int .i64 Ja):=(ia oa.out 2).trans rfl;have Iq:w3.cell? ⟨ya,3,none⟩=some (.int .i64 Ma):=(ia oa.out 3).trans rfl;have Hq:w3.cell? ⟨ya,4,none⟩=some (.slice Mb Aa.length Fb):=(ia oa.out 4).trans rfl;have vq:=aa oa.out 0;have uq:=aa oa.out 1;have rq:=aa oa.out 2;have qq:=aa oa.out 3;have oq:=aa oa.out 4;go_wp2_with (first|((with_reducible refine mb (f:=76) rfl ?_);refine Fc (some 13) rfl rfl Try.func76 (by kernel_rfl) rfl #[.agg #[.slice Xa Ra.length Ya,.int .i64 La,.int .i64 Ja,.slice none 0 0]] rfl (by (try simp only [List.map_toArray,List.map_cons,List.map_nil]);first|done|rfl|(simp only [List.length_drop,List.length_take];rfl)) ?_;(refine (Eg.calls _ _ Ra La Ja _ _ ([]:List (yA)) true _ ?yc ?uc ?Gd ?Ed A4.out).mono ?_);(case yc=>repeat (first|exact (Kd.Jb Ye.out HB.out)|(with_reducible refine Kd.Rb ?_ _)|(with_reducible refine Kd.Qb ?_ _)|(with_reducible refine Kd.Yb ?_)));(case uc=>exact gf.out);(case Gd=>exact Kd.dQ _ _);(case Ed=>exact Nat.le_refl _);rintro e Yq ⟨rfl,hb⟩;refine ⟨_,rfl,?_⟩;have yb:=ga.mk (Va (g:=ya) (o:=.cells #[.slice Xa Ra.length Ya,.int .i64 La,.int .i64 Ja,.int .i64 Ma,.slice Mb Aa.length Fb] 30 (0,0)) (by (with_reducible repeat (first|refine Ba ?_ _|refine Fa ?_|refine Ca ?_ _));exact oa.out) hb);have Ib:=ga.mk (Qa (by repeat (first|(with_reducible first|exact HB.out|apply qa|apply ja|apply ta|refine ua ?_ Ta.out)|exact HB.out)) hb);clear oa HB;have oa:=yb;have HB:=Ib;clear yb Ib;(try clear hb);(try clear bk);(try clear hk);(try clear hi);have Nj:Yq.cell? ⟨ya,0,none⟩=some (.slice Xa Ra.length Ya):=(ia oa.out 0).trans rfl;have Mj:Yq.cell? ⟨ya,1,none⟩=some (.int .i64 La):=(ia oa.out 1).trans rfl;have Lj:Yq.cell? ⟨ya,2,none⟩=some (.int .i64 Ja):=(ia oa.out 2).trans rfl;have Kj:Yq.cell? ⟨ya,3,none⟩=some (.int .i64 Ma):=(ia oa.out 3).trans rfl;have Jj:Yq.cell? ⟨ya,4,none⟩=some (.slice Mb Aa.length Fb):=(ia oa.out 4).trans rfl;have Gj:=aa oa.out 0;have Fj:=aa oa.out 1;have Ej:=aa oa.out 2;have Dj:=aa oa.out 3;have Cj:=aa oa.out 4)|(go_at_call 55;(with_reducible refine (bh.calls Ma Ja 1000 false _ A6.out).mono ?_);rintro e w' ⟨rfl,⟨nd,rfl⟩⟩))
    go_meet
    case rel=>exact ⟨_,(true),(by first|rfl|(simp;done)|(simp [*];done)),H',⟨by first|omega|exact Nat.le_refl _⟩,⟨by (with_reducible repeat (first|refine Ba ?_ _|refine Fa ?_|refine Ca ?_ _));exact oa.out⟩,⟨by repeat (first|(with_reducible first|exact HB.out|apply qa|apply ja|apply ta|refine ua ?_ Ta.out)|exact HB.out)⟩⟩
  ·replace c5:=Bool.eq_false_iff.mpr c5;subst c5;have H1:(Vb.j0 k true Ra La Ja Ma Aa)=some r:=by rw [if_neg (show ¬ (false=true) by decide)] at H;exact H
   clear H;have H:=H1;clear H1;have H':=ga.mk H;clear H;have qz:w3.cell? ⟨ya,0,none⟩=some (.slice Xa Ra.length Ya):=(ia oa.out 0).trans rfl;have pz:w3.cell? ⟨ya,1,none⟩=some (.int .i64 La):=(ia oa.out 1).trans rfl;have oz:w3.cell? ⟨ya,2,none⟩=some (.int .i64 Ja):=(ia oa.out 2).trans rfl;have mz:w3.cell? ⟨ya,3,none⟩=some (.int .i64 Ma):=(ia oa.out 3).trans rfl;have kz:w3.cell? ⟨ya,4,none⟩=some (.slice Mb Aa.length Fb):=(ia oa.out 4).trans rfl;have Uy:=aa oa.out 0;have Ty:=aa oa.out 1;have Sy:=aa oa.out 2;have Ry:=aa oa.out 3;have Qy:=aa oa.out 4;go_wp2_with (first|((with_reducible refine mb (f:=76) rfl ?_);refine Fc (some 13) rfl rfl Try.func76 (by kernel_rfl) rfl #[.agg #[.slice Xa Ra.length Ya,.int .i64 La,.int .i64 Ja,.slice none 0 0]] rfl (by (try simp only [List.map_toArray,List.map_cons,List.map_nil]);first|done|rfl|(simp only [List.length_drop,List.length_take];rfl)) ?_;(refine (Eg.calls _ _ Ra La Ja _ _ ([]:List (yA)) false _ ?yc ?uc ?Gd ?Ed A4.out).mono ?_);(case yc=>repeat (first|exact (Kd.Jb Ye.out HB.out)|(with_reducible refine Kd.Rb ?_ _)|(with_reducible refine Kd.Qb ?_ _)|(with_reducible refine Kd.Yb ?_)));(case uc=>exact gf.out);(case Gd=>exact Kd.dQ _ _);(case Ed=>exact Nat.le_refl _);rintro e sx ⟨rfl,hb⟩;refine ⟨_,rfl,?_⟩;have yb:=ga.mk (Va (g:=ya) (o:=.cells #[.slice Xa Ra.length Ya,.int .i64 La,.int .i64 Ja,.int .i64 Ma,.slice Mb Aa.length Fb] 30 (0,0)) (by (with_reducible repeat (first|refine Ba ?_ _|refine Fa ?_|refine Ca ?_ _));exact oa.out) hb);have Ib:=ga.mk (Qa (by repeat (first|(with_reducible first|exact HB.out|apply qa|apply ja|apply ta|refine ua ?_ Ta.out)|exact HB.out)) hb);clear oa HB;have oa:=yb;have HB:=Ib;clear yb Ib;(try clear hb);(try clear bk);(try clear hk);(try clear hi)))
   go_meet
   case rel=>exact ⟨_,(true),(by first|rfl|(simp;done)|(simp [*];done)),H',⟨by first|omega|exact Nat.le_refl _⟩,⟨by (with_reducible repeat (first|refine Ba ?_ _|refine Fa ?_|refine Ca ?_ _));exact oa.out⟩,⟨by repeat (first|(with_reducible first|exact HB.out|apply qa|apply ja|apply ta|refine ua ?_ Ta.out)|exact HB.out)⟩⟩
 case rest =>
  clear YP
  try clear p2
  try clear c4
  try clear c5
  try clear c7
  try clear bt
  try clear Zs
  try clear Ys
  try clear Xs
  try clear Ws
  try clear Mq
  try clear Kq
  try clear Jq
  try clear Iq
  try clear Hq
  try clear Nj
  try clear Mj
  try clear Lj
  try clear Kj
  try clear Jj
  try clear qz
  try clear pz
  try clear oz
  try clear mz
  try clear kz
  try clear xm
  try clear wm
  try clear vm
  try clear um
  try clear rm
  try clear Gs
  try clear Fs
  try clear Es
  try clear Ds
  try clear Cs
  try clear vq
  try clear uq
  try clear rq
  try clear qq
  try clear oq
  try clear Gj
  try clear Fj
  try clear Ej
  try clear Dj
  try clear Cj
  try clear Uy
  try clear Ty
  try clear Sy
  try clear Ry
  try clear Qy
  try clear qm
  try clear om
  try clear mm
  try clear jm
  try clear gm
  obtain ⟨kq,QL,rfl,HA,D3,oa,HB⟩:=hcut;cases kq with
  | zero=>exact absurd HA.out (by simp [Vb.j0])
  | succ gS =>
   have H:=HA.out;clear HA;simp only [Vb.j0] at H
   by_cases Qp:QL=true
   ·subst Qp;have H1:(some false)=some r:=by rw [if_pos rfl] at H;exact H
    clear H;have H:=H1;clear H1;obtain rfl:=Option.some.inj H;go_wp2;go_ret;exact ⟨by first|rfl|(simp [Oa,Na] <;> rfl)|(simp [*,Oa,Na] <;> rfl),by repeat (first|(with_reducible first|exact HB.out|apply qa|apply ja|apply ta|refine ua ?_ Ta.out)|exact HB.out)⟩
   ·replace Qp:=Bool.eq_false_iff.mpr Qp;subst Qp;have H1:(Vb.l0 gS 0 Aa (Aa.length:Int) 0 Ra La Ja Ma Aa)=some r:=by rw [if_neg (show ¬ (false=true) by decide)] at H;exact H
    clear H;have H:=H1;clear H1;have H':=ga.mk H;clear H;have Zv:wc.cell? ⟨ya,0,none⟩=some (.slice Xa Ra.length Ya):=(ia oa.out 0).trans rfl;have Yv:wc.cell? ⟨ya,1,none⟩=some (.int .i64 La):=(ia oa.out 1).trans rfl;have Xv:wc.cell? ⟨ya,2,none⟩=some (.int .i64 Ja):=(ia oa.out 2).trans rfl;have Wv:wc.cell? ⟨ya,3,none⟩=some (.int .i64 Ma):=(ia oa.out 3).trans rfl;have Vv:wc.cell? ⟨ya,4,none⟩=some (.slice Mb Aa.length Fb):=(ia oa.out 4).trans rfl;have zv:=aa oa.out 0;have wv:=aa oa.out 1;have vv:=aa oa.out 2;have uv:=aa oa.out 3;have tv:=aa oa.out 4;go_wp2
    go_loopg [3,33] gS (fun kq v3 v33 w'=>∃ (Mz:Int) (me:Int),v3 = .int .i64 Mz∧v33 = .int .i64 me∧ga (Vb.l0 kq Mz Aa (Aa.length:Int) me Ra La Ja Ma Aa=some r)∧ga (kq ≤ gS)∧ga (w'.heap[ya]? = some (.cells #[(.slice Xa Ra.length Ya),.int .i64 La,.int .i64 Ja,.int .i64 Ma,(.slice Mb Aa.length Fb)] 30 (0,0)))∧ga (Below w.heap.size w w'))
    case atStart=>exact ⟨(0),(0),(by first|rfl|(simp;done)|(simp [*];done)),(by first|rfl|(simp;done)|(simp [*];done)),H',⟨Nat.le_refl _⟩,⟨by (with_reducible repeat (first|refine Ba ?_ _|refine Fa ?_|refine Ca ?_ _));exact oa.out⟩,⟨by repeat (first|(with_reducible first|exact HB.out|apply qa|apply ja|apply ta|refine ua ?_ Ta.out)|exact HB.out)⟩⟩
    case round =>
     clear H'
     try clear c1
     try clear p2
     try clear c4
     try clear c5
     try clear c7
     try clear Qp
     try clear bt
     try clear Zs
     try clear Ys
     try clear Xs
     try clear Ws
     try clear Mq
     try clear Kq
     try clear Jq
     try clear Iq
     try clear Hq
     try clear Nj
     try clear Mj
     try clear Lj
     try clear Kj
     try clear Jj
     try clear qz
     try clear pz
     try clear oz
     try clear mz
     try clear kz
     try clear Zv
     try clear Yv
     try clear Xv
     try clear Wv
     try clear Vv
     try clear xm
     try clear wm
     try clear vm
     try clear um
     try clear rm
     try clear Gs
     try clear Fs
     try clear Es
     try clear Ds
     try clear Cs
     try clear vq
     try clear uq
     try clear rq
     try clear qq
     try clear oq
     try clear Gj
     try clear Fj
     try clear Ej
     try clear Dj
     try clear Cj
     try clear Uy
     try clear Ty
     try clear Sy
     try clear Ry
     try clear Qy
     try clear zv
     try clear wv
     try clear vv
     try clear uv
     try clear tv
     try clear qm
     try clear om
     try clear mm
     try clear jm
     try clear gm
     try clear p2
     (try clear HA);(try clear Dr);(try clear oa);(try clear HB);obtain ⟨Mz,me,rfl,rfl,HA,Dr,oa,HB⟩:=hrel;cases gk with
     | zero=>exact absurd HA.out (by simp [Vb.l0])
     | succ k2 =>
      have H:=HA.out;clear HA;simp only [Vb.l0] at H
      by_cases Pn:me < (Aa.length:Int)
      ·rw [if_pos Pn] at H;have vu:decide (me < (Aa.length:Int))=true:=decide_eq_true Pn;clear Pn
       by_cases Np:0 ≤ me
       ·rw [if_pos Np] at H;have Jw:decide (0 ≤ me)=true:=decide_eq_true Np;clear Np
        by_cases Pt:me < (Aa.length:Int)
        ·rw [if_pos Pt] at H;have nP:decide (me < (Aa.length:Int))=true:=decide_eq_true Pt;clear Pt;replace H:=Option.bind_eq_some_iff.mp H;obtain ⟨t107,dah,H⟩:=H;replace H:(if t107=true then (Vb.l0 k2 (wrap64 (Mz + (((Ea Aa me).f0).length:Int))) Aa (Aa.length:Int) (wrap64 (me + 1)) Ra La Ja Ma Aa) else (some false))=some r:=H;have A22:=ga.mk dah;clear dah
         by_cases eB:t107=true
         ·subst eB;have H1:(Vb.l0 k2 (wrap64 (Mz + (((Ea Aa me).f0).length:Int))) Aa (Aa.length:Int) (wrap64 (me + 1)) Ra La Ja Ma Aa)=some r:=by rw [if_pos rfl] at H;exact H
          clear H;have H:=H1;clear H1;have H':=ga.mk H;clear H;have Ao:0 ≤ (me:Int):=Ua;have yo:me < (Aa.length:Int):=Ua;obtain ⟨Jm,Mk,Gk,tD,Dh,Wk,Vk,Uk,Tk,Aj,Bj⟩:=Vi wg.out me Ao yo;cases tD;replace Dh:=Sa HB.out Dh;replace Wk:=Sa HB.out Wk;replace Vk:=Sa HB.out Vk;replace Uk:=Sa HB.out Uk;replace Tk:=Sa HB.out Tk;have Zo:=ga.mk Bj;have ow:=ga.mk Aj;clear Bj Aj;replace Ao:=eq_true Ao;replace yo:=eq_true yo;go_wp2_with (first|((with_reducible refine qb (N:=5) rfl ?_);(try (refine Ti (by rfl) ?_;dsimp only));refine Gb ?hg (N:=5) ?hd (cs:=#[.slice none 0 0,.int .i64 0,.int .i64 0,.int .i64 0,.int .i64 0]) (t:=59) ?hr ?_;(case hd=>rfl);(case hg=>rfl);(case hr=>first|(go_simp;done)|(go_simp;rfl));intro Ok hg mR Ob hb;have yb:=ga.mk (Va (g:=ya) (o:=.cells #[.slice Xa Ra.length Ya,.int .i64 La,.int .i64 Ja,.int .i64 Ma,.slice (some Jm) Aa.length Fb] 30 (0,0)) (by (with_reducible repeat (first|refine Ba ?_ _|refine Fa ?_|refine Ca ?_ _));exact oa.out) hb);have Ib:=ga.mk (Qa (by repeat (first|(with_reducible first|exact HB.out|apply qa|apply ja|apply ta|refine ua ?_ Ta.out)|exact HB.out)) hb);have Nb:=ga.mk (Ob);have Dc:=ga.mk ((by rw [hg];exact (Ia (by repeat (first|(with_reducible first|exact HB.out|apply qa|apply ja|apply ta|refine ua ?_ Ta.out)|exact HB.out))):w.heap.size ≤ Ok));have Vf:=ga.mk ((by rw [hg];exact (Ia (by repeat (first|(with_reducible first|exact HB.out|apply qa|apply ja|apply ta|refine ua ?_ Ta.out)|exact HB.out))):w.heap.size ≤ Ok));have Kg:=ga.mk ((by rw [hg];exact Nat.ne_of_lt (Ec (g:=ya) (o:=.cells #[.slice Xa Ra.length Ya,.int .i64 La,.int .i64 Ja,.int .i64 Ma,.slice (some Jm) Aa.length Fb] 30 (0,0)) (by (with_reducible repeat (first|refine Ba ?_ _|refine Fa ?_|refine Ca ?_ _));exact oa.out)):ya ≠ Ok));have Rg:=ga.mk ((by rw [hg];exact Nat.ne_of_gt (Ec (g:=ya) (o:=.cells #[.slice Xa Ra.length Ya,.int .i64 La,.int .i64 Ja,.int .i64 Ma,.slice (some Jm) Aa.length Fb] 30 (0,0)) (by (with_reducible repeat (first|refine Ba ?_ _|refine Fa ?_|refine Ca ?_ _));exact oa.out)):Ok ≠ ya));clear oa HB;have oa:=yb;have HB:=Ib;have Ii:=Nb;have Uag:=Dc;have Cu:=Vf;have xh:=Kg;have BA:=Rg;clear yb Ib Nb Dc Vf Kg Rg hb Ob hg;have Baa:=BA.out;have paa:=xh.out;have Kv:mR.cell? ⟨Ok,0,none⟩=some (.slice none 0 0):=(ia Ii.out 0).trans rfl;have Jv:mR.cell? ⟨Ok,1,none⟩=some (.int .i64 0):=(ia Ii.out 1).trans rfl;have Iv:mR.cell? ⟨Ok,2,none⟩=some (.int .i64 0):=(ia Ii.out 2).trans rfl;have Hv:mR.cell? ⟨Ok,3,none⟩=some (.int .i64 0):=(ia Ii.out 3).trans rfl;have Gv:mR.cell? ⟨Ok,4,none⟩=some (.int .i64 0):=(ia Ii.out 4).trans rfl;have Wu:=aa Ii.out 0;have Vu:=aa Ii.out 1;have Uu:=aa Ii.out 2;have Tu:=aa Ii.out 3;have Su:=aa Ii.out 4;have Fv:mR.cell? ⟨ya,0,none⟩=some (.slice Xa Ra.length Ya):=(ia oa.out 0).trans rfl;have Dv:mR.cell? ⟨ya,1,none⟩=some (.int .i64 La):=(ia oa.out 1).trans rfl;have Cv:mR.cell? ⟨ya,2,none⟩=some (.int .i64 Ja):=(ia oa.out 2).trans rfl;have Bv:mR.cell? ⟨ya,3,none⟩=some (.int .i64 Ma):=(ia oa.out 3).trans rfl;have Av:mR.cell? ⟨ya,4,none⟩=some (.slice (some Jm) Aa.length Fb):=(ia oa.out 4).trans rfl;have Ru:=aa oa.out 0;have Qu:=aa oa.out 1;have Pu:=aa oa.out 2;have Ou:=aa oa.out 3;have Nu:=aa oa.out 4)|((with_reducible refine mb (f:=77) rfl ?_);refine Fc (some 44) rfl rfl Try.func77 (by kernel_rfl) rfl #[.agg #[.slice Xa Ra.length Ya,.int .i64 La,.int .i64 Ja,.int .i64 Ma,.slice (some Jm) Aa.length Fb],.agg #[.slice Mk ((Ea Aa me).f0).length Gk,.int .i64 ((Ea Aa me).f1),.int .i64 ((Ea Aa me).f2),.int .i64 ((Ea Aa me).f3),.int .i64 ((Ea Aa me).f4)]] rfl (by (try simp only [List.map_toArray,List.map_cons,List.map_nil]);first|done|rfl|(simp only [List.length_drop,List.length_take];rfl)) ?_;(with_reducible refine (Qi.calls _ _ Ra La Ja Ma _ _ Aa _ _ ((Ea Aa me).f0) ((Ea Aa me).f1) ((Ea Aa me).f2) ((Ea Aa me).f3) ((Ea Aa me).f4) true _ ?yc ?uc ?Gd ?Ed ?Cx ?Bx A22.out).mono ?_);(case yc=>exact Kd.Jb Ye.out (by repeat (first|(with_reducible first|exact HB.out|apply qa|apply ja|apply ta|refine ua ?_ Ta.out|refine ua ?_ Cu.out)|exact HB.out)));(case uc=>exact gf.out);(case Gd=>exact Kd.Jb wg.out (by repeat (first|(with_reducible first|exact HB.out|apply qa|apply ja|apply ta|refine ua ?_ Ta.out|refine ua ?_ Cu.out)|exact HB.out)));(case Ed=>exact ei.out);(case Cx=>exact Kd.Jb Zo.out (by repeat (first|(with_reducible first|exact HB.out|apply qa|apply ja|apply ta|refine ua ?_ Ta.out|refine ua ?_ Cu.out)|exact HB.out)));(case Bx=>exact ow.out);rintro e Ut ⟨rfl,hb⟩;refine ⟨_,rfl,?_⟩;have yb:=ga.mk (Va (g:=ya) (o:=.cells #[.slice Xa Ra.length Ya,.int .i64 La,.int .i64 Ja,.int .i64 Ma,.slice (some Jm) Aa.length Fb] 30 (0,0)) (by (with_reducible repeat (first|refine Ba ?_ _|refine Fa ?_|refine Ca ?_ _));refine Je ?_ xh.out _;(with_reducible repeat (first|refine Ba ?_ _|refine Fa ?_|refine Ca ?_ _));refine Je ?_ xh.out _;(with_reducible repeat (first|refine Ba ?_ _|refine Fa ?_|refine Ca ?_ _));refine Je ?_ xh.out _;(with_reducible repeat (first|refine Ba ?_ _|refine Fa ?_|refine Ca ?_ _));refine Je ?_ xh.out _;(with_reducible repeat (first|refine Ba ?_ _|refine Fa ?_|refine Ca ?_ _));refine Je ?_ xh.out _;(with_reducible repeat (first|refine Ba ?_ _|refine Fa ?_|refine Ca ?_ _));exact oa.out) hb);have Ib:=ga.mk (Va (g:=Ok) (o:=.cells #[.slice Mk ((Ea Aa me).f0).length Gk,.int .i64 ((Ea Aa me).f1),.int .i64 ((Ea Aa me).f2),.int .i64 ((Ea Aa me).f3),.int .i64 ((Ea Aa me).f4)] 59 (0,0)) (by (with_reducible repeat (first|refine Ba ?_ _|refine Fa ?_|refine Ca ?_ _));refine Ie (cs:=#[.slice Mk ((Ea Aa me).f0).length Gk,.int .i64 ((Ea Aa me).f1),.int .i64 ((Ea Aa me).f2),.int .i64 ((Ea Aa me).f3),.int .i64 0]) ?_ 4 _ rfl;(with_reducible repeat (first|refine Ba ?_ _|refine Fa ?_|refine Ca ?_ _));refine Ie (cs:=#[.slice Mk ((Ea Aa me).f0).length Gk,.int .i64 ((Ea Aa me).f1),.int .i64 ((Ea Aa me).f2),.int .i64 0,.int .i64 0]) ?_ 3 _ rfl;(with_reducible repeat (first|refine Ba ?_ _|refine Fa ?_|refine Ca ?_ _));refine Ie (cs:=#[.slice Mk ((Ea Aa me).f0).length Gk,.int .i64 ((Ea Aa me).f1),.int .i64 0,.int .i64 0,.int .i64 0]) ?_ 2 _ rfl;(with_reducible repeat (first|refine Ba ?_ _|refine Fa ?_|refine Ca ?_ _));refine Ie (cs:=#[.slice Mk ((Ea Aa me).f0).length Gk,.int .i64 0,.int .i64 0,.int .i64 0,.int .i64 0]) ?_ 1 _ rfl;(with_reducible repeat (first|refine Ba ?_ _|refine Fa ?_|refine Ca ?_ _));refine Ie (cs:=#[.slice none 0 0,.int .i64 0,.int .i64 0,.int .i64 0,.int .i64 0]) ?_ 0 _ rfl;(with_reducible repeat (first|refine Ba ?_ _|refine Fa ?_|refine Ca ?_ _));exact Ii.out) hb);have Nb:=ga.mk (Qa (by repeat (first|(with_reducible first|exact HB.out|apply qa|apply ja|apply ta|refine ua ?_ Ta.out|refine ua ?_ Cu.out)|exact HB.out)) hb);clear oa Ii HB;have oa:=yb;have Ii:=Ib;have HB:=Nb;clear yb Ib Nb;(try clear hb);(try clear bk);(try clear hk);(try clear hi)))
          go_roundg k2
          case measure=>have:=D3.out;have:=Dr.out;omega
          case rel=>exact ⟨(wrap64 (Mz + (((Ea Aa me).f0).length:Int))),(wrap64 (me + 1)),(by first|rfl|(simp;done)|(simp [*];done)),(by first|rfl|(simp;done)|(simp [*];done)),H',⟨by have:=D3.out;have:=Dr.out;omega⟩,⟨by (with_reducible repeat (first|refine Ba ?_ _|refine Fa ?_|refine Ca ?_ _));exact oa.out⟩,⟨by repeat (first|(with_reducible first|exact HB.out|apply qa|apply ja|apply ta|refine ua ?_ Ta.out|refine ua ?_ Cu.out)|exact HB.out)⟩⟩
         ·replace eB:=Bool.eq_false_iff.mpr eB;subst eB;have H1:(some false)=some r:=by rw [if_neg (show ¬ (false=true) by decide)] at H;exact H
          clear H;have H:=H1;clear H1;obtain rfl:=Option.some.inj H;have Ao:0 ≤ (me:Int):=Ua;have yo:me < (Aa.length:Int):=Ua;obtain ⟨Jm,Mk,Gk,tD,Dh,Wk,Vk,Uk,Tk,Aj,Bj⟩:=Vi wg.out me Ao yo;cases tD;replace Dh:=Sa HB.out Dh;replace Wk:=Sa HB.out Wk;replace Vk:=Sa HB.out Vk;replace Uk:=Sa HB.out Uk;replace Tk:=Sa HB.out Tk;have Zo:=ga.mk Bj;have ow:=ga.mk Aj;clear Bj Aj;replace Ao:=eq_true Ao;replace yo:=eq_true yo;go_wp2_with (first|((with_reducible refine qb (N:=5) rfl ?_);(try (refine Ti (by rfl) ?_;dsimp only));refine Gb ?hg (N:=5) ?hd (cs:=#[.slice none 0 0,.int .i64 0,.int .i64 0,.int .i64 0,.int .i64 0]) (t:=59) ?hr ?_;(case hd=>rfl);(case hg=>rfl);(case hr=>first|(go_simp;done)|(go_simp;rfl));intro Ok hg lF Ob hb;have yb:=ga.mk (Va (g:=ya) (o:=.cells #[.slice Xa Ra.length Ya,.int .i64 La,.int .i64 Ja,.int .i64 Ma,.slice (some Jm) Aa.length Fb] 30 (0,0)) (by (with_reducible repeat (first|refine Ba ?_ _|refine Fa ?_|refine Ca ?_ _));exact oa.out) hb);have Ib:=ga.mk (Qa (by repeat (first|(with_reducible first|exact HB.out|apply qa|apply ja|apply ta|refine ua ?_ Ta.out)|exact HB.out)) hb);have Nb:=ga.mk (Ob);have Dc:=ga.mk ((by rw [hg];exact (Ia (by repeat (first|(with_reducible first|exact HB.out|apply qa|apply ja|apply ta|refine ua ?_ Ta.out)|exact HB.out))):w.heap.size ≤ Ok));have Vf:=ga.mk ((by rw [hg];exact (Ia (by repeat (first|(with_reducible first|exact HB.out|apply qa|apply ja|apply ta|refine ua ?_ Ta.out)|exact HB.out))):w.heap.size ≤ Ok));have Kg:=ga.mk ((by rw [hg];exact Nat.ne_of_lt (Ec (g:=ya) (o:=.cells #[.slice Xa Ra.length Ya,.int .i64 La,.int .i64 Ja,.int .i64 Ma,.slice (some Jm) Aa.length Fb] 30 (0,0)) (by (with_reducible repeat (first|refine Ba ?_ _|refine Fa ?_|refine Ca ?_ _));exact oa.out)):ya ≠ Ok));have Rg:=ga.mk ((by rw [hg];exact Nat.ne_of_gt (Ec (g:=ya) (o:=.cells #[.slice Xa Ra.length Ya,.int .i64 La,.int .i64 Ja,.int .i64 Ma,.slice (some Jm) Aa.length Fb] 30 (0,0)) (by (with_reducible repeat (first|refine Ba ?_ _|refine Fa ?_|refine Ca ?_ _));exact oa.out)):Ok ≠ ya));clear oa HB;have oa:=yb;have HB:=Ib;have Ii:=Nb;have Uag:=Dc;have Cu:=Vf;have xh:=Kg;have BA:=Rg;clear yb Ib Nb Dc Vf Kg Rg hb Ob hg;have wav:=BA.out;have Qau:=xh.out;have jz:lF.cell? ⟨Ok,0,none⟩=some (.slice none 0 0):=(ia Ii.out 0).trans rfl;have iz:lF.cell? ⟨Ok,1,none⟩=some (.int .i64 0):=(ia Ii.out 1).trans rfl;have gz:lF.cell? ⟨Ok,2,none⟩=some (.int .i64 0):=(ia Ii.out 2).trans rfl;have fz:lF.cell? ⟨Ok,3,none⟩=some (.int .i64 0):=(ia Ii.out 3).trans rfl;have ez:lF.cell? ⟨Ok,4,none⟩=some (.int .i64 0):=(ia Ii.out 4).trans rfl;have Py:=aa Ii.out 0;have Oy:=aa Ii.out 1;have Ny:=aa Ii.out 2;have My:=aa Ii.out 3;have Ly:=aa Ii.out 4;have SB:lF.cell? ⟨ya,0,none⟩=some (.slice Xa Ra.length Ya):=(ia oa.out 0).trans rfl;have RB:lF.cell? ⟨ya,1,none⟩=some (.int .i64 La):=(ia oa.out 1).trans rfl;have QB:lF.cell? ⟨ya,2,none⟩=some (.int .i64 Ja):=(ia oa.out 2).trans rfl;have OB:lF.cell? ⟨ya,3,none⟩=some (.int .i64 Ma):=(ia oa.out 3).trans rfl;have NB:lF.cell? ⟨ya,4,none⟩=some (.slice (some Jm) Aa.length Fb):=(ia oa.out 4).trans rfl;have sB:=aa oa.out 0;have rB:=aa oa.out 1;have qB:=aa oa.out 2;have oB:=aa oa.out 3;have nB:=aa oa.out 4)|((with_reducible refine mb (f:=77) rfl ?_);refine Fc (some 44) rfl rfl Try.func77 (by kernel_rfl) rfl #[.agg #[.slice Xa Ra.length Ya,.int .i64 La,.int .i64 Ja,.int .i64 Ma,.slice (some Jm) Aa.length Fb],.agg #[.slice Mk ((Ea Aa me).f0).length Gk,.int .i64 ((Ea Aa me).f1),.int .i64 ((Ea Aa me).f2),.int .i64 ((Ea Aa me).f3),.int .i64 ((Ea Aa me).f4)]] rfl (by (try simp only [List.map_toArray,List.map_cons,List.map_nil]);first|done|rfl|(simp only [List.length_drop,List.length_take];rfl)) ?_;(with_reducible refine (Qi.calls _ _ Ra La Ja Ma _ _ Aa _ _ ((Ea Aa me).f0) ((Ea Aa me).f1) ((Ea Aa me).f2) ((Ea Aa me).f3) ((Ea Aa me).f4) false _ ?yc ?uc ?Gd ?Ed ?Cx ?Bx A22.out).mono ?_);(case yc=>exact Kd.Jb Ye.out (by repeat (first|(with_reducible first|exact HB.out|apply qa|apply ja|apply ta|refine ua ?_ Ta.out|refine ua ?_ Cu.out)|exact HB.out)));(case uc=>exact gf.out);(case Gd=>exact Kd.Jb wg.out (by repeat (first|(with_reducible first|exact HB.out|apply qa|apply ja|apply ta|refine ua ?_ Ta.out|refine ua ?_ Cu.out)|exact HB.out)));(case Ed=>exact ei.out);(case Cx=>exact Kd.Jb Zo.out (by repeat (first|(with_reducible first|exact HB.out|apply qa|apply ja|apply ta|refine ua ?_ Ta.out|refine ua ?_ Cu.out)|exact HB.out)));(case Bx=>exact ow.out);rintro e RL ⟨rfl,hb⟩;refine ⟨_,rfl,?_⟩;have yb:=ga.mk (Va (g:=ya) (o:=.cells #[.slice Xa Ra.length Ya,.int .i64 La,.int .i64 Ja,.int .i64 Ma,.slice (some Jm) Aa.length Fb] 30 (0,0)) (by (with_reducible repeat (first|refine Ba ?_ _|refine Fa ?_|refine Ca ?_ _));refine Je ?_ xh.out _;(with_reducible repeat (first|refine Ba ?_ _|refine Fa ?_|refine Ca ?_ _));refine Je ?_ xh.out _;(with_reducible repeat (first|refine Ba ?_ _|refine Fa ?_|refine Ca ?_ _));refine Je ?_ xh.out _;(with_reducible repeat (first|refine Ba ?_ _|refine Fa ?_|refine Ca ?_ _));refine Je ?_ xh.out _;(with_reducible repeat (first|refine Ba ?_ _|refine Fa ?_|refine Ca ?_ _));refine Je ?_ xh.out _;(with_reducible repeat (first|refine Ba ?_ _|refine Fa ?_|refine Ca ?_ _));exact oa.out) hb);have Ib:=ga.mk (Va (g:=Ok) (o:=.cells #[.slice Mk ((Ea Aa me).f0).length Gk,.int .i64 ((Ea Aa me).f1),.int .i64 ((Ea Aa me).f2),.int .i64 ((Ea Aa me).f3),.int .i64 ((Ea Aa me).f4)] 59 (0,0)) (by (with_reducible repeat (first|refine Ba ?_ _|refine Fa ?_|refine Ca ?_ _));refine Ie (cs:=#[.slice Mk ((Ea Aa me).f0).length Gk,.int .i64 ((Ea Aa me).f1),.int .i64 ((Ea Aa me).f2),.int .i64 ((Ea Aa me).f3),.int .i64 0]) ?_ 4 _ rfl;(with_reducible repeat (first|refine Ba ?_ _|refine Fa ?_|refine Ca ?_ _));refine Ie (cs:=#[.slice Mk ((Ea Aa me).f0).length Gk,.int .i64 ((Ea Aa me).f1),.int .i64 ((Ea Aa me).f2),.int .i64 0,.int .i64 0]) ?_ 3 _ rfl;(with_reducible repeat (first|refine Ba ?_ _|refine Fa ?_|refine Ca ?_ _));refine Ie (cs:=#[.slice Mk ((Ea Aa me).f0).length Gk,.int .i64 ((Ea Aa me).f1),.int .i64 0,.int .i64 0,.int .i64 0]) ?_ 2 _ rfl;(with_reducible repeat (first|refine Ba ?_ _|refine Fa ?_|refine Ca ?_ _));refine Ie (cs:=#[.slice Mk ((Ea Aa me).f0).length Gk,.int .i64 0,.int .i64 0,.int .i64 0,.int .i64 0]) ?_ 1 _ rfl;(with_reducible repeat (first|refine Ba ?_ _|refine Fa ?_|refine Ca ?_ _));refine Ie (cs:=#[.slice none 0 0,.int .i64 0,.int .i64 0,.int .i64 0,.int .i64 0]) ?_ 0 _ rfl;(with_reducible repeat (first|refine Ba ?_ _|refine Fa ?_|refine Ca ?_ _));exact Ii.out) hb);have Nb:=ga.mk (Qa (by repeat (first|(with_reducible first|exact HB.out|apply qa|apply ja|apply ta|refine ua ?_ Ta.out|refine ua ?_ Cu.out)|exact HB.out)) hb);clear oa Ii HB;have oa:=yb;have Ii:=Ib;have HB:=Nb;clear yb Ib Nb;(try clear hb);(try clear bk);(try clear hk);(try clear hi)));go_ret;exact ⟨by first|rfl|(simp [Oa,Na] <;> rfl)|(simp [*,Oa,Na] <;> rfl),by repeat (first|(with_reducible first|exact HB.out|apply qa|apply ja|apply ta|refine ua ?_ Ta.out|refine ua ?_ Cu.out)|exact HB.out)⟩
        ·rw [if_neg Pt] at H;exact absurd H (by simp)
       ·rw [if_neg Np] at H;exact absurd H (by simp)
      ·rw [if_neg Pn] at H;have vu:decide (me < (Aa.length:Int))=false:=decide_eq_false Pn;clear Pn;obtain rfl:=Option.some.inj H;go_wp2;go_ret;exact ⟨by first|rfl|(simp [Oa,Na] <;> rfl)|(simp [*,Oa,Na] <;> rfl),by repeat (first|(with_reducible first|exact HB.out|apply qa|apply ja|apply ta|refine ua ?_ Ta.out)|exact HB.out)⟩
end Go.Proofs.Ytkigbdceceeenaa.P
end
section
namespace Go.Proofs.Ytkigbdceceeenaa.P
open Go.RowKit Go.Proofs.Pa.Ub Go.Proofs.Pa.Sd Go.Proofs.Pa.Xe
set_option linter.unusedVariables false
set_option linter.unusedSimpArgs false
open Classical in
noncomputable def fB (n:Nat) (p:Nat→Prop):Bool:=decide (∀ j,j < n→p j)
open Classical in
theorem cR {n:Nat} {p:Nat→Prop} (h:∀ j,j < n→p j):fB n p=true:=by
 unfold fB;exact decide_eq_true h
open Classical in
theorem FJ {n:Nat} {p:Nat→Prop}:fB n p=true ↔ ∀ j,j < n→p j:=by
 unfold fB;exact decide_eq_true_iff
theorem EL {n i:Nat} {p:Nat→Prop} (hi:i < n) (h:¬ p i):fB n p=false:=by
 cases e:fB n p with
 | false=>rfl
 | true=>exact absurd (FJ.mp e i hi) h
theorem eL {ρ:Type} {n:Nat} {R e:ρ} (p:Nat→Prop) (f:Nat→Nat→Option ρ) (hend:Ev (f n) R) (hyes:∀ i,i < n→p i→∀ r,Ev (f (i + 1)) r→Ev (f i) r) (hno:∀ i,i < n→¬ p i→Ev (f i) e):Ev (f 0) (bif fB n p then R else e):=by
 have key:∀ d i,i + d=n→(∀ j,j < i→p j)→Ev (f i) (bif fB n p then R else e):=by
  intro d
  induction d with
  | zero =>
   intro i hi h;have:i=n:=by omega
   subst this;rw [cR h];exact hend
  | succ d ih =>
   intro i hi h
   by_cases hp:p i
   ·refine hyes i (by omega) hp _ (ih (i + 1) (by omega) ?_);intro j hj
    by_cases hji:j=i
    ·rw [hji];exact hp
    ·exact h j (by omega)
   ·rw [EL (by omega) hp];exact hno i (by omega) hp
 exact key n 0 (by omega) (fun j hj=>absurd hj (by omega))
theorem xA {α:Type} (l:List α) (z:α) (q:α→Bool):fB l.length (fun j=>q (l.getD j z)=true) = !(l.any fun x=>!q x):=by
 rw [Bool.eq_iff_iff,FJ];simp only [Bool.not_eq_true',List.any_eq_false,Bool.not_eq_true',Bool.not_eq_false]
 constructor
 ·intro h x hx;obtain ⟨j,hj,rfl⟩:=List.mem_iff_getElem.mp hx;have:=h j hj;rw [List.getD_eq_getElem?_getD,List.getElem?_eq_getElem hj] at this
  simpa using this
 ·intro h j hj;have:=h l[j] (List.getElem_mem hj);rw [List.getD_eq_getElem?_getD,List.getElem?_eq_getElem hj]
  simpa using this
end Go.Proofs.Ytkigbdceceeenaa.P
end
section
namespace Go.Proofs.Ytkigbdceceeenaa.P
open Go.RowKit Go.Proofs.Pa.Ub Go.Proofs.Pa.Sd Go.Proofs.Pa.Xe
set_option linter.unusedVariables false
set_option linter.unusedSimpArgs false
theorem rS (a b c:Int):Za.f a b c=some (Yk a b c):=by
 unfold Za.f Yk
 by_cases h:a ≥ b
 ·rw [if_pos h];have h':b ≤ a:=h;simp [h']
 ·rw [if_neg h];have h':¬ b ≤ a:=h;simp [h']
theorem bg (a b c:Int):Ev (fun _=>Za.f a b c) (Yk a b c):=Ev.here (rS a b c)
theorem L6 (t:ByteArray):Ev (fun k=>Pe.f k ([(⟨#[61,61]⟩:ByteArray),(⟨#[60]⟩:ByteArray),(⟨#[38]⟩:ByteArray),(⟨#[43]⟩:ByteArray),(⟨#[45]⟩:ByteArray),(⟨#[42]⟩:ByteArray)]:List ByteArray) t) (zx t):=by
 refine ⟨8,fun k hk=>?_⟩;obtain ⟨m,rfl⟩:∃ m,k=m + 8:=⟨k - 8,by omega⟩;unfold Pe.f zx kK;simp only [Pe.l0,List.any_cons,List.any_nil]
 by_cases h0:t.toList=[61,61]
 ·simp [lg,h0]
 by_cases h1:t.toList=[60]
 ·simp [lg,h1,wrap64]
 by_cases h2:t.toList=[38]
 ·simp [lg,h2,wrap64]
 by_cases h3:t.toList=[43]
 ·simp [lg,h3,wrap64]
 by_cases h4:t.toList=[45]
 ·simp [lg,h4,wrap64]
 by_cases h5:t.toList=[42]
 ·simp [lg,h5,wrap64]
 simp [lg,Ne.symm h0,Ne.symm h1,Ne.symm h2,Ne.symm h3,Ne.symm h4,Ne.symm h5,h0,h1,h2,h3,h4,h5,wrap64]
theorem EK (s d:Int):Yk d 0 (s - 1)=uk s d:=by
 unfold Yk uk;rw [Bool.eq_iff_iff];simp;omega
def AF (D A B C M:Bool) (o d a b n:Int) (t:ByteArray):Bool :=
 if o=0 then D && (a == 0 && b == 0)
 else if o=1 then D && (A && (b == 0 && n == 0))
 else if o=2 then D && (A && (B && (n == 0 && zx t)))
 else if o=3 then D && M
 else if o=4 then d == 0 && (M && C)
 else if o=5 then D && (a == 0 && (b == 0 && n == 0))
 else if o=6 then d == 0 && (A && (b == 0 && n == 0))
 else false
theorem Ev.zz {b:Bool} {f:Nat→Option Bool} {r:Bool} (hf:b=true→Ev f r):Ev (fun n=>if b=true then f n else some false) (b && r):=by
 cases b with
 | true=>exact Ev.pos rfl (hf rfl)
 | false=>exact Ev.neg (by simp) (Ev.now _)
theorem Ev.pE {c:Prop} [Decidable c] {f:Nat→Option Bool} {r:Bool} (hf:c→Ev f r):Ev (fun n=>if c then f n else some false) (decide c && r):=by
 by_cases h:c
 ·rw [decide_eq_true h];exact Ev.pos h (hf h)
 ·rw [decide_eq_false h];exact Ev.neg h (Ev.now _)
section
variable {l0:List Int} {p v s:Int} {l4:List Re} {o d a b c n:Int} {t:ByteArray}
theorem wJ (D A B M:Bool) (x:Bool) (hs:0 ≤ s) (hs':s ≤ 1000):Ev (fun k=>jb.j1 k D A B M x l0 p v s l4 o d a b c n t) (!x && AF D A B (uk s c) M o d a b n t):=by
 refine Ev.step (fun k=>by rw [jb.j1]) ?_;cases x with
 | true=>exact Ev.pos rfl (Ev.now _)
 | false =>
  refine Ev.neg (by simp) ?_;rw [Bool.not_false,Bool.true_and];unfold AF
  by_cases h0:o=0
  ·rw [if_pos h0];exact Ev.pos h0 (Ev.zz fun _=>Ev.pE fun _=>Ev.now _)
  rw [if_neg h0];refine Ev.neg h0 ?_
  by_cases h1:o=1
  ·rw [if_pos h1];exact Ev.pos h1 (Ev.zz fun _=>Ev.zz fun _=>Ev.pE fun _=>Ev.now _)
  rw [if_neg h1];refine Ev.neg h1 ?_
  by_cases h2:o=2
  ·rw [if_pos h2];exact Ev.pos h2 (Ev.zz fun _=>Ev.zz fun _=>Ev.zz fun _=>Ev.pE fun _=>Ev.bind (L6 t) (Ev.now _))
  rw [if_neg h2];refine Ev.neg h2 ?_
  by_cases h3:o=3
  ·rw [if_pos h3,if_pos h3];exact (Ev.zz fun _=>Ev.now _)
  rw [if_neg h3,if_neg h3]
  by_cases h4:o=4
  ·rw [if_pos h4,if_pos h4];refine (Ev.pE fun _=>Ev.zz fun _=>?_);rw [Yg (x:=s - 1) (by omega) (by omega),← EK];exact Ev.bind (bg _ _ _) (Ev.now _)
  rw [if_neg h4,if_neg h4]
  by_cases h5:o=5
  ·rw [if_pos h5,if_pos h5];exact (Ev.zz fun _=>Ev.pE fun _=>Ev.pE fun _=>Ev.now _)
  rw [if_neg h5,if_neg h5]
  by_cases h6:o=6
  ·rw [if_pos h6,if_pos h6];exact (Ev.pE fun _=>Ev.zz fun _=>Ev.pE fun _=>Ev.now _)
  rw [if_neg h6,if_neg h6];exact Ev.now _
theorem Nn (M:Bool) (hM:M=((uk s a || a == -1) && (uk s b && Yk n 0 ((l0.length:Int) - 1)))) (hs:0 ≤ s) (hs':s ≤ 1000):Ev (fun k=>jb.j0 k (uk s d) (uk s a) (uk s b) M l0 p v s l4 o d a b c n t) (Ml l0.length s o d a b c n t):=by
 refine Ev.step (fun k=>by rw [jb.j0]) ?_
 have key:∀ x:Bool,(x=if o=2 then (c != 0) else if t.toList=[] then (if o=4 then false else (c != 0)) else true)→Ev (fun k=>jb.j1 k (uk s d) (uk s a) (uk s b) M x l0 p v s l4 o d a b c n t) (Ml l0.length s o d a b c n t):=by
  intro x hx
  have e:Ml l0.length s o d a b c n t=(!x && AF (uk s d) (uk s a) (uk s b) (uk s c) M o d a b n t):=by
   subst hM;subst hx;unfold Ml AF
   by_cases h0:o=0
   ·subst h0;rw [Bool.eq_iff_iff]
    by_cases ht:t.toList=[] <;> simp [ht]
    all_goals (constructor <;> intro h <;> simp_all)
   by_cases h1:o=1
   ·subst h1;rw [Bool.eq_iff_iff]
    by_cases ht:t.toList=[] <;> simp [ht]
    all_goals (constructor <;> intro h <;> simp_all)
   by_cases h2:o=2
   ·subst h2;rw [Bool.eq_iff_iff];simp
    constructor <;> intro h <;> simp_all
   by_cases h3:o=3
   ·subst h3;rw [Bool.eq_iff_iff]
    by_cases ht:t.toList=[] <;> simp [ht]
    all_goals (constructor <;> intro h <;> simp_all)
   by_cases h4:o=4
   ·subst h4;rw [Bool.eq_iff_iff]
    by_cases ht:t.toList=[] <;> simp [ht]
    all_goals (constructor <;> intro h <;> simp_all)
   by_cases h5:o=5
   ·subst h5;rw [Bool.eq_iff_iff]
    by_cases ht:t.toList=[] <;> simp [ht]
    all_goals (constructor <;> intro h <;> simp_all)
   by_cases h6:o=6
   ·subst h6;rw [Bool.eq_iff_iff]
    by_cases ht:t.toList=[] <;> simp [ht]
    all_goals (constructor <;> intro h <;> simp_all)
   simp [h0,h1,h2,h3,h4,h5,h6]
  rw [e];exact wJ _ _ _ _ _ hs hs'
 by_cases h2:o=2
 ·exact Ev.pos h2 (Ev.neg (by omega) (key _ (by rw [if_pos h2])))
 ·refine Ev.neg h2 ?_
  by_cases ht:t.toList=([]:List UInt8)
  ·refine Ev.pos ht ?_
   by_cases h4:o=4
   ·exact Ev.pos h4 (key _ (by rw [if_neg h2,if_pos ht,if_pos h4]))
   ·exact Ev.neg h4 (key _ (by rw [if_neg h2,if_pos ht,if_neg h4]))
  ·exact Ev.neg ht (key _ (by rw [if_neg h2,if_neg ht]))
theorem oD (hs:0 ≤ s) (hs':s ≤ 1000) (hl:l0.length ≤ 1048576):Ev (fun k=>jb.f k l0 p v s l4 o d a b c n t) (Ml l0.length s o d a b c n t):=by
 unfold jb.f;rw [Yg (x:=s - 1) (by omega) (by omega),Yg (x:=(l0.length:Int) - 1) (by omega) (by omega)];refine Ev.bind (bg _ _ _) (Ev.bind (bg _ _ _) (Ev.bind (bg _ _ _) ?_));simp only [EK];cases ha:uk s a with
 | true =>
  refine Ev.pos rfl ?_;cases hb:uk s b with
  | true=>exact Ev.pos rfl (Ev.bind (bg _ _ _) (by have:=Nn (l0:=l0) (p:=p) (v:=v) (s:=s) (l4:=l4) (o:=o) (d:=d) (a:=a) (b:=b) (c:=c) (n:=n) (t:=t) (Yk n 0 ((l0.length:Int) - 1)) (by simp [ha,hb]) hs hs';rw [ha,hb] at this;exact this))
  | false=>exact Ev.neg (by simp) (by have:=Nn (l0:=l0) (p:=p) (v:=v) (s:=s) (l4:=l4) (o:=o) (d:=d) (a:=a) (b:=b) (c:=c) (n:=n) (t:=t) false (by simp [hb]) hs hs';rw [ha,hb] at this;exact this)
 | false =>
  refine Ev.neg (by simp) ?_
  by_cases h1:a = -1
  ·refine Ev.pos h1 ?_;cases hb:uk s b with
   | true=>exact Ev.pos rfl (Ev.bind (bg _ _ _) (by have:=Nn (l0:=l0) (p:=p) (v:=v) (s:=s) (l4:=l4) (o:=o) (d:=d) (a:=a) (b:=b) (c:=c) (n:=n) (t:=t) (Yk n 0 ((l0.length:Int) - 1)) (by simp [h1,hb]) hs hs';rw [ha,hb] at this;exact this))
   | false=>exact Ev.neg (by simp) (by have:=Nn (l0:=l0) (p:=p) (v:=v) (s:=s) (l4:=l4) (o:=o) (d:=d) (a:=a) (b:=b) (c:=c) (n:=n) (t:=t) false (by simp [hb]) hs hs';rw [ha,hb] at this;exact this)
  ·exact Ev.neg h1 (by have:=Nn (l0:=l0) (p:=p) (v:=v) (s:=s) (l4:=l4) (o:=o) (d:=d) (a:=a) (b:=b) (c:=c) (n:=n) (t:=t) false (by simp [ha,h1]) hs hs';rw [ha] at this;exact this)
theorem cL (code:List Be) (j ba tg els:Int) (hs:0 ≤ s) (hs':s ≤ 1000) (hl:l0.length ≤ 1048576) (G5:l4.length ≤ 1048576) (hc:code.length ≤ 1048576):Ev (fun k=>ic.f k l0 p v s l4 code j ba tg els) (Pj l0.length s l4.length code j ba tg els):=by
 unfold ic.f;have key:=eL (n:=code.length) (R:=(if j=0 then Yk tg 0 ((l4.length:Int) - 1) && ba == 0 && els == 0 else if j=1 then Yk tg 0 ((l4.length:Int) - 1) && Yk els 0 ((l4.length:Int) - 1) && uk s ba else if j=2 then uk s ba && tg == 0 && els == 0 else false)) (e:=false) (fun i=>bn l0.length s (code.getD i Du)=true) (fun i k=>ic.l0 k (i:Int) l0 p v s l4 code j ba tg els) ?_ ?_ ?_
 ·have e:(bif fB code.length (fun i=>bn l0.length s (code.getD i Du)=true) then (if j=0 then Yk tg 0 ((l4.length:Int) - 1) && ba == 0 && els == 0 else if j=1 then Yk tg 0 ((l4.length:Int) - 1) && Yk els 0 ((l4.length:Int) - 1) && uk s ba else if j=2 then uk s ba && tg == 0 && els == 0 else false) else false)=Pj l0.length s l4.length code j ba tg els:=by
   rw [xA];unfold Pj;rw [decide_eq_true hs,Bool.and_true];cases (!(code.any fun x=>!bn l0.length s x)) <;> rfl
  rw [e] at key;exact key
 ·refine Ev.step (fun k=>by rw [ic.l0]) (Ev.neg (by omega) ?_);rw [Yg (x:=s - 1) (by omega) (by omega),Yg (x:=(l4.length:Int) - 1) (by omega) (by omega)];refine Ev.bind (bg _ _ _) (Ev.bind (bg _ _ _) ?_);rw [EK s ba]
  by_cases h0:j=0
  ·rw [if_pos h0,if_pos h0,Bool.and_assoc];exact Ev.zz fun _=>Ev.pE fun _=>Ev.now _
  rw [if_neg h0,if_neg h0]
  by_cases h1:j=1
  ·rw [if_pos h1,if_pos h1,Bool.and_assoc,Bool.and_comm (Yk els 0 ((l4.length:Int) - 1))];exact Ev.zz fun _=>Ev.zz fun _=>Ev.bind (bg _ _ _) (Ev.now _)
  rw [if_neg h1,if_neg h1]
  by_cases h2:j=2
  ·rw [if_pos h2,if_pos h2,Bool.and_assoc];exact Ev.zz fun _=>Ev.pE fun _=>Ev.now _
  rw [if_neg h2,if_neg h2];exact Ev.now _
 ·intro i hi hp r hr;refine Ev.step (fun k=>by rw [ic.l0]) (Ev.pos (by omega) (Ev.pos (by omega) ?_));refine Ev.bind (oD hs hs' hl) ?_;have hq:Ml l0.length s (Da code (i:Int)).f0 (Da code (i:Int)).f1 (Da code (i:Int)).f2 (Da code (i:Int)).f3 (Da code (i:Int)).f4 (Da code (i:Int)).f5 (Da code (i:Int)).f6=true:=hp;refine Ev.pos hq ?_;rw [De hi (by omega)];exact hr
 ·intro i hi hp;refine Ev.step (fun k=>by rw [ic.l0]) (Ev.pos (by omega) (Ev.pos (by omega) ?_));refine Ev.bind (oD hs hs' hl) ?_;exact Ev.neg hp (Ev.now _)
end
def fe (l:List Re):Nat:=(l.map fun x=>x.f0.length).sum
def jA (l0:List Int) (p v s:Int) (n4:Nat):Bool:=Ow l0 p v && Yk s v 1000 && Yk (n4:Int) 1 300
def Ep (l0:List Int) (s:Int) (l4:List Re) (x:Re):Bool:=Pj l0.length s l4.length x.f0 x.f1 x.f2 x.f3 x.f4
def ym (l0:List Int) (p v s:Int) (l4:List Re):Bool:=jA l0 p v s l4.length && (!(l4.any fun x=>!Ep l0 s l4 x) && decide (fe l4 ≤ 1000))
theorem xx (l:List Re) (i:Nat) (h:i < l.length):fe (l.take (i + 1))=fe (l.take i) + l[i].f0.length:=by
 unfold fe;rw [List.take_succ_eq_append_getElem h,List.map_append,List.sum_append];simp
theorem EC (l:List Nat) (i:Nat):(l.take i).sum ≤ l.sum:=by
 conv=>rhs;rw [← List.take_append_drop i l]
 rw [List.sum_append];omega
theorem GC (l:List Re) (i:Nat):fe (l.take i) ≤ fe l:=by
 unfold fe;rw [List.map_take];exact EC _ _
theorem iA {l0:List Int} {p v s:Int} {n4:Nat} (h:jA l0 p v s n4=true):1 ≤ l0.length∧l0.length ≤ 4∧0 ≤ p∧p ≤ v∧p ≤ 6∧v ≤ 20∧v ≤ s∧s ≤ 1000∧1 ≤ n4∧n4 ≤ 300:=by
 unfold jA Ow Yk at h;simp only [Bool.and_eq_true,decide_eq_true_eq] at h;obtain ⟨⟨⟨⟨⟨⟨h1,h2⟩,_⟩,h3,h4⟩,h5⟩,h6,h7⟩,h8,h9⟩:=h
 split at h4 <;> omega
section
variable {l0:List Int} {p v s:Int} {l4:List Re}
theorem nD (h0:l0.length ≤ 1048576) (G5:l4.length ≤ 1048576) (ht:fe l4 ≤ 1048576):Ev (fun k=>Vb.f k l0 p v s l4) (ym l0 p v s l4):=by
 unfold Vb.f Eg.f;simp only [List.length_nil,if_true];refine Ev.val ?_
 have no:∀ {r:Bool},r=false→Ev (fun k=>Vb.j0 k true l0 p v s l4) r:=by
  intro r hr;subst hr;exact Ev.step (fun k=>by rw [Vb.j0]) (Ev.pos rfl (Ev.now _))
 unfold ym jA;cases hp:Ow l0 p v with
 | false=>exact Ev.neg (by simp) (no (by simp))
 | true =>
  refine Ev.pos rfl (Ev.bind (Ev.here (PI _ _ _)) ?_);cases hv:Yk s v 1000 with
  | false=>exact Ev.neg (by simp) (no (by simp))
  | true =>
   refine Ev.pos rfl (Ev.bind (Ev.here (PI _ _ _)) ?_);cases hn:Yk (l4.length:Int) 1 300 with
   | false=>exact no (by simp)
   | true =>
    refine Ev.step (fun k=>by rw [Vb.j0]) (Ev.neg (by simp) ?_);simp only [Bool.true_and];have key:=eL (n:=l4.length) (R:=decide (fe l4 ≤ 1000)) (e:=false) (fun i=>Ep l0 s l4 (l4.getD i iI)=true) (fun i k=>Vb.l0 k (fe (l4.take i):Int) l4 (l4.length:Int) (i:Int) l0 p v s l4) ?_ ?_ ?_
    ·have e:(bif fB l4.length (fun i=>Ep l0 s l4 (l4.getD i iI)=true) then decide (fe l4 ≤ 1000) else false)=(!(l4.any fun x=>!Ep l0 s l4 x) && decide (fe l4 ≤ 1000)):=by
      rw [xA];cases (!(l4.any fun x=>!Ep l0 s l4 x)) <;> rfl
     rw [e] at key
     simpa [fe] using key
    ·refine Ev.step (fun k=>by rw [Vb.l0]) (Ev.neg (by omega) ?_);rw [List.take_length]
     have e:decide ((fe l4:Int) ≤ 1000)=decide (fe l4 ≤ 1000):=by
      rw [Bool.eq_iff_iff,decide_eq_true_iff,decide_eq_true_iff];omega
     rw [e];exact Ev.now _
    ·intro i hi hq r hr;refine Ev.step (fun k=>by rw [Vb.l0]) (Ev.pos (by omega) (Ev.pos (by omega) (Ev.pos (by omega) ?_)));unfold Qi.f;have hq':Pj l0.length s l4.length (Ea l4 (i:Int)).f0 (Ea l4 (i:Int)).f1 (Ea l4 (i:Int)).f2 (Ea l4 (i:Int)).f3 (Ea l4 (i:Int)).f4=true:=hq;refine Ev.val (Ev.pos hq' ?_);have h1:=xx l4 i hi;have h2:=GC l4 (i + 1);rw [th hi,De hi (by omega),Yg (x:=(fe (l4.take i):Int) + (l4[i].f0.length:Int)) (by omega) (by omega),show (fe (l4.take i):Int) + (l4[i].f0.length:Int)=(fe (l4.take (i + 1)):Int) from by omega];exact hr
    ·intro i hi hq;refine Ev.step (fun k=>by rw [Vb.l0]) (Ev.pos (by omega) (Ev.pos (by omega) (Ev.pos (by omega) ?_)));unfold Qi.f;exact Ev.val (Ev.neg hq (Ev.now _))
theorem qD (h0:l0.length ≤ 1048576) (G5:l4.length ≤ 1048576) (ht:fe l4 ≤ 1048576):Ev (fun k=>Wa.f k l0 p v s l4) (ym l0 p v s l4):=by
 unfold Wa.f
 have no:∀ {r:Bool},r=false→Ev (fun k=>Wa.j1 k true l0 p v s l4) r:=by
  intro r hr;subst hr;exact Ev.step (fun k=>by rw [Wa.j1]) (Ev.pos rfl (Ev.now _))
 have key:=eL (n:=l0.length) (R:=Yk (l0.length:Int) 1 4 && (Yk v 0 20 && (Yk p 0 6 && (decide (p ≤ v) && (Yk s v 1000 && (Yk (l4.length:Int) 1 300 && (!(l4.any fun x=>!Ep l0 s l4 x) && decide (fe l4 ≤ 1000)))))))) (e:=false) (fun i=>Yk (l0.getD i 0) 1 16=true) (fun i k=>Wa.l0 k (i:Int) l0 p v s l4) ?_ ?_ ?_
 ·have e:(bif fB l0.length (fun i=>Yk (l0.getD i 0) 1 16=true) then (Yk (l0.length:Int) 1 4 && (Yk v 0 20 && (Yk p 0 6 && (decide (p ≤ v) && (Yk s v 1000 && (Yk (l4.length:Int) 1 300 && (!(l4.any fun x=>!Ep l0 s l4 x) && decide (fe l4 ≤ 1000)))))))) else false)=ym l0 p v s l4:=by
   rw [xA l0 0 (fun x=>Yk x 1 16)];unfold ym jA Ow;rw [Bool.eq_iff_iff];cases (!(l0.any fun x=>!Yk x 1 16))
   ·simp
   ·simp only [cond_true,Bool.and_eq_true,Yk,decide_eq_true_eq,and_assoc,true_and]
    constructor
    ·rintro ⟨h1,h2,h3,h4,h5,h6,h7,h8⟩;refine ⟨h1,h2,h5,?_,h4,h8⟩
     split <;> omega
    ·rintro ⟨h1,h2,h5,h6,h4,h7,h8,h9⟩;refine ⟨h1,h2,?_⟩
     split at h6 <;> exact ⟨by omega,by omega,by omega,by omega,by omega,h7,h8,h9⟩
  rw [e] at key;exact key
 ·refine Ev.step (fun k=>by rw [Wa.l0]) (Ev.neg (by omega) ?_);refine Ev.bind (bg _ _ _) ?_;cases hb0:Yk (l0.length:Int) 1 4 with
  | false=>exact Ev.neg (by simp) (no (by simp))
  | true =>
   refine Ev.pos rfl (Ev.bind (bg _ _ _) ?_);cases rA:Yk v 0 20 with
   | false=>exact Ev.neg (by simp) (no (by simp))
   | true =>
    refine Ev.pos rfl (Ev.bind (bg _ _ _) ?_);cases bk:Yk p 0 6 with
    | false=>exact Ev.neg (by simp) (no (by simp))
    | true =>
     refine Ev.pos rfl ?_
     by_cases hpv:p > v
     ·refine Ev.pos hpv (no ?_);rw [decide_eq_false (show ¬ p ≤ v from by omega)];simp
     ·refine Ev.neg hpv (Ev.bind (bg _ _ _) ?_);rw [decide_eq_true (show p ≤ v from by omega)];cases hb3:Yk s v 1000 with
      | false=>exact Ev.neg (by simp) (no (by simp))
      | true =>
       refine Ev.pos rfl (Ev.bind (bg _ _ _) ?_);cases d_:Yk (l4.length:Int) 1 300 with
       | false=>exact no (by simp)
       | true =>
        refine Ev.step (fun k=>by rw [Wa.j1]) (Ev.neg (by simp) ?_);simp only [Bool.true_and];have hs0:0 ≤ s∧s ≤ 1000:=by simp [Yk] at rA hb3;omega
        have key:=vk (r:=true) (n:=l4.length) (fun i=>fe (l4.take i) ≤ 1000→Ev (fun k=>Wa.l1 k (fe (l4.take i):Int) (i:Int) l0 p v s l4) (!((l4.drop i).any fun x=>!Ep l0 s l4 x) && decide (fe l4 ≤ 1000))) ?_ ?_ 0 (by omega) (by simp [fe])
        ·rw [List.drop_zero] at key
         simpa [fe] using key
        ·intro h;rw [List.take_length] at h;refine Ev.step (fun k=>by rw [Wa.l1]) (Ev.neg (by omega) ?_);rw [List.drop_length,decide_eq_true h];exact Ev.now _
        ·intro i hi ih h;have h1:=xx l4 i hi;have h2:=GC l4 (i + 1);refine Ev.step (fun k=>by rw [Wa.l1]) (Ev.pos (by omega) (Ev.pos (by omega) ?_));rw [th hi,Yg (x:=(fe (l4.take i):Int) + (l4[i].f0.length:Int)) (by omega) (by omega),show (fe (l4.take i):Int) + (l4[i].f0.length:Int)=(fe (l4.take (i + 1)):Int) from by omega]
         have hd:((l4.drop i).any fun x=>!Ep l0 s l4 x)=(!Ep l0 s l4 l4[i] || (l4.drop (i + 1)).any fun x=>!Ep l0 s l4 x):=by
          rw [List.drop_eq_getElem_cons hi,List.any_cons]
         rw [hd]
         by_cases hgt:(fe (l4.take (i + 1)):Int) > 1000
         ·rw [decide_eq_false (show ¬ fe l4 ≤ 1000 from by omega),Bool.and_false];exact Ev.pos hgt (Ev.now _)
         ·refine Ev.neg hgt (Ev.bind (cL _ _ _ _ _ hs0.1 hs0.2 h0 G5 (by omega)) ?_);cases hq:Ep l0 s l4 l4[i] with
          | false =>
           have hq':¬ Pj l0.length s l4.length l4[i].f0 l4[i].f1 l4[i].f2 l4[i].f3 l4[i].f4=true:=by
            have e:Pj l0.length s l4.length l4[i].f0 l4[i].f1 l4[i].f2 l4[i].f3 l4[i].f4=false:=hq;rw [e];simp
           exact Ev.neg hq' (Ev.now _)
          | true =>
           have hq':Pj l0.length s l4.length l4[i].f0 l4[i].f1 l4[i].f2 l4[i].f3 l4[i].f4=true:=hq;refine Ev.pos hq' ?_;rw [De hi (by omega),Bool.not_true,Bool.false_or];exact ih (by omega)
 ·intro i hi hq r hr;refine Ev.step (fun k=>by rw [Wa.l0]) (Ev.pos (by omega) (Ev.pos (by omega) ?_));refine Ev.bind (bg _ _ _) (Ev.pos hq ?_);rw [De hi (by omega)];exact hr
 ·intro i hi hq;refine Ev.step (fun k=>by rw [Wa.l0]) (Ev.pos (by omega) (Ev.pos (by omega) ?_));exact Ev.bind (bg _ _ _) (Ev.neg hq (Ev.now _))
end
end Go.Proofs.Ytkigbdceceeenaa.P
end
section
namespace Go.Proofs.Ytkigbdceceeenaa.P
open Go.RowKit Go.Proofs.Pa.Ub Go.Proofs.Pa.Sd Go.Proofs.Pa.Xe
set_option linter.unusedVariables false
set_option linter.unusedSimpArgs false
theorem qp {l:List Int} {j:Nat} (hj:j < l.length):rd l (j:Int)=l[j]:=by simp [rd,List.getD_eq_getElem?_getD,hj]
def oJ (b:Re):List Int:=if b.f1=0 then [b.f3] else if b.f1=1 then [b.f3,b.f4] else []
theorem pQ (b:Re):jl.f b.f0 b.f1 b.f2 b.f3 b.f4=some (oJ b):=by
 unfold jl.f oJ
 by_cases h0:b.f1=0
 ·rw [if_pos h0,if_pos h0]
 ·rw [if_neg h0,if_neg h0]
  by_cases h1:b.f1=1
  ·rw [if_pos h1,if_pos h1]
  ·rw [if_neg h1,if_neg h1]
theorem oQ (b:Re):jk.f b.f0 b.f1 b.f2 b.f3 b.f4=some (oJ b):=by
 unfold jk.f oJ
 by_cases h0:b.f1=0
 ·rw [if_pos h0,if_pos h0]
 ·rw [if_neg h0,if_neg h0]
  by_cases h1:b.f1=1
  ·rw [if_pos h1,if_pos h1]
  ·rw [if_neg h1,if_neg h1]
theorem nJ (b:Re):(oJ b).length ≤ 2:=by
 unfold oJ
 by_cases h0:b.f1=0
 ·rw [if_pos h0];simp
 ·rw [if_neg h0]
  by_cases h1:b.f1=1
  ·rw [if_pos h1];simp
  ·rw [if_neg h1];simp
def Xq (bs:List Re) (i:Nat):List Int:=oJ (Ea bs (i:Int))
def Kz (bs:List Re):Prop:=0 < bs.length∧bs.length ≤ 1048576∧∀ i,i < bs.length→∀ j ∈ Xq bs i,0 ≤ j∧j < (bs.length:Int)
theorem pL {l0:List Int} {p v s:Int} {bs:List Re} (h:ym l0 p v s bs=true):Kz bs:=by
 unfold ym at h;simp only [Bool.and_eq_true] at h;obtain ⟨h1,h2,-⟩:=h;have hh:=iA h1;refine ⟨by omega,by omega,fun i hi j hj=>?_⟩
 have hb:Ep l0 s bs bs[i]=true:=by
  simp only [Bool.not_eq_true',List.any_eq_false] at h2;have:=h2 _ (List.getElem_mem hi)
  simpa using this
 unfold Ep Pj at hb;simp only [Bool.and_eq_true] at hb;obtain ⟨-,hb⟩:=hb;unfold Xq at hj;rw [th hi] at hj;unfold oJ at hj
 by_cases h0:bs[i].f1=0
 ·rw [if_pos h0] at hj hb;simp only [Bool.and_eq_true,Yk,decide_eq_true_eq] at hb;rw [List.mem_singleton] at hj;subst hj;omega
 ·rw [if_neg h0] at hj hb
  by_cases h1:bs[i].f1=1
  ·rw [if_pos h1] at hj hb;simp only [Bool.and_eq_true,Yk,decide_eq_true_eq] at hb;simp only [List.mem_cons,List.not_mem_nil,or_false] at hj
   rcases hj with hj|hj <;> subst hj <;> omega
  ·rw [if_neg h1] at hj;cases hj
def seen (s:List Bool) (j:Nat):Bool:=s.getD j false
theorem Ix (s:List Bool) (j:Nat):lg false s (j:Int)=seen s j:=rfl
theorem Sk {s:List Bool} {j:Nat} (h:seen s j=true):j < s.length:=by
 unfold seen at h
 rcases Nat.lt_or_ge j s.length with h'|h'
 ·exact h'
 ·rw [List.getD_eq_getElem?_getD,List.getElem?_eq_none h'] at h;simp at h
def news (s:List Bool):Nat:=s.count false
def Shut (nx:Nat→List Int) (s:List Bool) (q:List Int) (i:Nat):Prop:=∀ j,seen s j=true→(j:Int) ∉ q→j ≠ i→∀ m ∈ nx j,seen s m.toNat=true
theorem JC {s t:List Bool} (hl:s.length=t.length) (h:∀ j,seen s j=true ↔ seen t j=true):s=t:=by
 apply List.ext_getElem hl;intro i h1 h2;have:=h i;unfold seen at this;rw [List.getD_eq_getElem?_getD,List.getElem?_eq_getElem h1,List.getD_eq_getElem?_getD,List.getElem?_eq_getElem h2] at this;simp only [Option.getD_some] at this;exact Bool.eq_iff_iff.mpr this
theorem Sz (n j:Nat):seen (List.replicate n false) j=false:=by
 unfold seen;rw [List.getD_eq_getElem?_getD,List.getElem?_replicate]
 by_cases h:j < n
 ·rw [if_pos h];rfl
 ·rw [if_neg h];rfl
end Go.Proofs.Ytkigbdceceeenaa.P
end
