import Derived.Shelf.Abstract
import Derived.Test.YtkigbdceceeenaaQColors1
import Derived.Test.YtkigbdceceeenaaQColors6
import Derived.Outline
import Derived.Test.YtkigbdceceeenaaQColors5
import Derived.Test.YtkigbdceceeenaaQColors4
import Derived.RegionTactic
import Derived.Deep.QuietTactic
import Derived.BigQuiet
import Derived.Test.YtkigbdceceeenaaQColors2
import Derived.Test.YtkigbdceceeenaaQColors3
set_option maxHeartbeats 8000000
set_option maxRecDepth 100000
section
namespace Go.Proofs.Ytkigbdceceeenaa.P
open Go.RowKit Go.Proofs.Ma.Tb Go.Proofs.Ma.Gd Go.Proofs.Ma.De
set_option linter.unusedVariables false
set_option linter.unusedSimpArgs false
theorem xL (g:Nat) (lb:Array Value) (p:Int→Bool) (eg:∀ args w,(callFunc g args).run Try.prog w = .ok (.enter g args) w) (A0:Option Addr) (c0:Nat) (l0:List Int) (w:World) (Ul:Kd.C (Kd.int .i64) w A0 l0.length l0) (hc0:l0.length ≤ c0)
  (hp:∀ (W:World) (x:Int),Below w.heap.size w W→Calls Try.prog g (#[(.int .i64 x)] ++ lb) W fun e w'=>e = .returned (.bool (p x))∧Below W.heap.size W w') :
  Calls Try.prog 115 #[.slice A0 l0.length c0,.func (.func g) #[] lb] w fun e w'=>(∃ i:Int,e = .returned (.int .i64 i)∧decide (0 ≤ i)=l0.any p)∧Below w.heap.size w w':=by
 have hmx:=Ul.2.1;have ym:=ga.mk Ul;have eL:=ga.mk hc0;have HP:=ga.mk hp;clear Ul hc0 hp;go_enter Try.func115,Try.ntmps115;go_wp2
 go_loopg [5,8] l0.length (fun gg _ s8 wr=>∃ kk:Nat,kk ≤ l0.length∧l0.length - kk ≤ gg∧s8 = .int .i64 kk∧ga (Below w.heap.size w wr)∧ga ((l0.take kk).any p=false))
 case atStart=>exact ⟨0,Nat.zero_le _,by omega,rfl,⟨Below.refl _ w⟩,⟨by simp⟩⟩
 case round =>
  (try clear BW);(try clear HA);obtain ⟨kk,hkk,hg,rfl,BW,HA⟩:=hrel
  by_cases hlt:kk < l0.length
  ·have p1:0 ≤ (kk:Int):=by omega
   have q1:(kk:Int) < (l0.length:Int):=by omega
   obtain ⟨ad,e1,hx0⟩:=Kd.Bi ym.out (kk:Int) p1 q1;cases e1;simp only [Int.toNat_natCast] at hx0;replace hx0:=(BW.out.cell (World.block_lt_of_cell? w _ hx0)).trans hx0;have ct:=HP.out wr (rd l0 (kk:Int)) BW.out;cases hq:p (rd l0 (kk:Int)) with
   | true =>
    rw [hq] at ct;go_wp2_with (go_at_fn g;refine ct.mono ?_;rintro e w1 ⟨rfl,PC⟩);go_ret;exact ⟨⟨_,rfl,by rw [CT (d:=0) hlt hq];simp⟩,BW.out.trans (PC.mono BW.out.size)⟩
   | false =>
    rw [hq] at ct;go_wp2_with (go_at_fn g;refine ct.mono ?_;rintro e w1 ⟨rfl,PC⟩)
    go_roundg (l0.length - (kk + 1))
    case measure=>omega
    case rel=>exact ⟨kk + 1,by omega,by omega,by go_num,⟨BW.out.trans (PC.mono BW.out.size)⟩,⟨az (d:=0) hlt HA.out hq⟩⟩
  ·have mav:¬ (kk:Int) < (l0.length:Int):=by omega
   have he:kk=l0.length:=by omega
   subst he;go_wp2;go_ret;exact ⟨⟨_,rfl,by have h_:=HA.out;rw [List.take_length] at h_;rw [h_];simp⟩,BW.out⟩
theorem QC (g:Nat) (lb:Array Value) (p:Int→Bool) (eg:∀ args w,(callFunc g args).run Try.prog w = .ok (.enter g args) w) (A0:Option Addr) (c0:Nat) (l0:List Int) (w:World) (Ul:Kd.C (Kd.int .i64) w A0 l0.length l0) (hc0:l0.length ≤ c0)
  (hp:∀ (W:World) (x:Int),Below w.heap.size w W→Calls Try.prog g (#[(.int .i64 x)] ++ lb) W fun e w'=>e = .returned (.bool (p x))∧Below W.heap.size W w') :
  Calls Try.prog 99 #[.slice A0 l0.length c0,.func (.func g) #[] lb] w fun e w'=>e = .returned (.bool (l0.any p))∧Below w.heap.size w w':=by
 have HI:=ga.mk (xL g lb p eg A0 c0 l0 w Ul hc0 hp);clear Ul hc0 hp;go_enter Try.func99,Try.ntmps99;go_wp2_with (go_at_call 115;refine HI.out.mono ?_;rintro e w1 ⟨⟨i,rfl,hi⟩,PC⟩;have HD:=ga.mk hi;clear hi);go_ret;exact ⟨by rw [← HD.out];first|rfl|simp,PC⟩
def Tl (a b c:Int):Bool:=decide (b ≤ a) && decide (a ≤ c)
theorem dm (a b c:Int) (w:World):Calls Try.prog 55 #[.int .i64 a,.int .i64 b,.int .i64 c] w fun e w'=>e = .returned (.bool (Tl a b c))∧Wc w w' :=
 Tg.calls a b c (Tl a b c) w (by
  unfold Tg.f Tl
  by_cases h:a ≥ b
  ·rw [if_pos h];have h':b ≤ a:=h;simp [h']
  ·rw [if_neg h];have h':¬ b ≤ a:=h
   simp [h'])
def mz (l:List Int) (p v:Int):Bool:=Tl (l.length:Int) 1 4 && !(l.any fun n=>!Tl n 1 16) && Tl p 0 (if v < 6 then v else 6) && decide (v ≤ 20)
theorem uL (W:World) (x:Int):Calls Try.prog 100 #[.int .i64 x] W fun e w'=>e = .returned (.bool (!Tl x 1 16))∧Below W.heap.size W w':=by
 have HC:=ga.mk (dm x 1 16);generalize Tl x 1 16=b at HC ⊢;go_enter Try.func100,Try.ntmps100;go_wp2_with (go_at_call 55;refine (HC.out _).mono ?_;rintro e w1 ⟨rfl,PC⟩;have HD:=ga.mk PC.below;clear PC);go_ret;exact ⟨rfl,HD.out⟩
theorem zK (p0 p1 p2 p3:Value) (A:Option Addr) (c:Nat) (w:World) :
  Calls Try.prog 101 #[.agg #[p0,p1,p2,p3],.slice A 0 c,.int .i64 0] w fun e w'=>e = .returned (.bool true)∧Below w.heap.size w w':=by
 go_enter Try.func101,Try.ntmps101;go_wp2
 go_loop [25] (fun i=>i = .int .i64 0) (fun _=>0)
 case atStart=>exact rfl
 case round =>
  obtain rfl:=hrel;go_wp2;go_ret;exact ⟨rfl,qa (qa (Below.refl _ _) _) _⟩
theorem MG (A0 A3:Option Addr) (c0 c3:Nat) (l0:List Int) (a1 a2:Int) (w:World) (Ul:Kd.C (Kd.int .i64) w A0 l0.length l0) (hc0:l0.length ≤ c0) :
  Calls Try.prog 76 #[.agg #[.slice A0 l0.length c0,.int .i64 a1,.int .i64 a2,.slice A3 0 c3]] w fun e w'=>e = .returned (.bool (mz l0 a1 a2))∧Below w.heap.size w w':=by
 have eg:=enters_of Try.func100 (by kernel_rfl) rfl;have hmx:=Ul.2.1;have jU:=ga.mk (dm (l0.length:Int) 1 4);have uV:=ga.mk (dm a1 0 (if a2 < 6 then a2 else 6));have HF:=ga.mk (fun (W:World) (hb:Below w.heap.size w W)=>QC 100 #[] (fun n=>!Tl n 1 16) eg A0 c0 l0 W (Kd.Nb Ul hb) hc0 (fun W x _=>uL W x));clear Ul hc0;unfold mz
 by_cases h6:a2 < 6
 all_goals
  have hmin:min 6 a2=if a2 < 6 then a2 else 6:=by split <;> omega
  first|rw [if_pos h6] at uV hmin ⊢|rw [if_neg h6] at uV hmin ⊢
  cases PC:Tl (l0.length:Int) 1 4 with
  | false =>
   go_enter Try.func76,Try.ntmps76;go_wp2_with (first|(go_at_call 55;refine (dm _ _ _ _).mono ?_;rintro e w1 ⟨rfl,⟨n,rfl⟩⟩));go_ret;exact ⟨rfl,ja (qa (Below.refl _ _) _) _⟩
  | true =>
   cases Uj:(l0.any fun n=>!Tl n 1 16) with
   | true =>
    rw [Uj] at HF;go_enter Try.func76,Try.ntmps76;go_wp2_with (first|(go_at_call 55;refine (dm _ _ _ _).mono ?_;rintro e w1 ⟨rfl,⟨n,rfl⟩⟩)|(go_at_call 99;refine (HF.out _ (ja (qa (Below.refl _ _) _) _)).mono ?_;rintro e w1 ⟨rfl,hb⟩;have HB:=ga.mk (Ra (ja (qa (Below.refl _ _) _) _) hb);clear hb));go_ret;exact ⟨rfl,HB.out⟩
   | false =>
    rw [Uj] at HF;go_enter Try.func76,Try.ntmps76;go_wp2_with (first|(go_at_call 55;(with_reducible refine (dm _ _ _ _).mono ?_);rintro e w1 ⟨rfl,⟨n,rfl⟩⟩)|(go_at_call 99;(with_reducible refine (HF.out _ (ja (qa (Below.refl _ _) _) _)).mono ?_);rintro e w1 ⟨rfl,hb⟩;have HB:=ga.mk (Ra (ja (qa (Below.refl _ _) _) _) hb);obtain ⟨L5,N3⟩:=n9 hb;have KN:=hb.size;simp at KN;clear hb)|(go_at_call 101;(with_reducible refine (zK _ _ _ _ _ _ _).mono ?_);rintro e w2 ⟨rfl,hb⟩;have Ht:=ga.mk (Ra (ja HB.out _) hb);clear hb))
    all_goals
     go_ret
     first
      | exact ⟨by simp [*],Ht.out⟩
      | exact ⟨by simp [*],ja HB.out _⟩
def bh.f (Qa:List Int) (Ja:Int) (Ga:Int) (FN:List (XC)):Option Bool:=if FN.length=0 then some (mz Qa Ja Ga) else none
theorem bh.calls (Ya:Option Addr) (Za:Nat) (Qa:List Int) (Ja:Int) (Ga:Int) (Cad:Option Addr) (Yab:Nat) (FN:List (XC)) (r:Bool) (w:World) (Ud:Kd.C (Kd.int .i64) w Ya Qa.length Qa) (Rd:Qa.length ≤ Za) (zaz:Kd.C pau w Cad FN.length FN) (OaB:FN.length ≤ Yab) (h:bh.f Qa Ja Ga FN=some r) :
  Calls Try.prog 76 #[.agg #[.slice Ya Qa.length Za,.int .i64 Ja,.int .i64 Ga,.slice Cad FN.length Yab]] w fun e w'=>e = .returned (.bool r)∧Below w.heap.size w w':=by
 unfold bh.f at h
 split at h
 ·rename_i h0;injection h with h
  subst h;rw [h0];exact MG Ya Cad Za Yab Qa Ja Ga w Ud Rd
 ·cases h
theorem Ev.pos {α:Type} {c:Prop} [Decidable c] {f g:Nat→Option α} {r:α} (h:c) (k:Ev f r):Ev (fun n=>if c then f n else g n) r:=Ev.congr (fun n=>if_pos h) k
theorem Ev.neg {α:Type} {c:Prop} [Decidable c] {f g:Nat→Option α} {r:α} (h:¬ c) (k:Ev g r):Ev (fun n=>if c then f n else g n) r:=Ev.congr (fun n=>if_neg h) k
theorem Ev.val {α β:Type} {a:α} {f:Nat→α→Option β} {r:β} (k:Ev (fun n=>f n a) r):Ev (fun n=>(some a).bind (f n)) r:=Ev.congr (fun n=>rfl) k
theorem Ev.here {α:Type} {o:Option α} {r:α} (h:o=some r):Ev (fun _=>o) r:=Ev.congr (fun n=>h) (Ev.now r)
theorem Ev.eq {α:Type} {g:Nat→Option α} {r r':α} (h:Ev g r) (h':Ev g r'):r=r':=by
 obtain ⟨K,h⟩:=h;obtain ⟨K',h'⟩:=h';have h1:=h (max K K') (by omega);rw [h' (max K K') (by omega)] at h1;exact (Option.some.inj h1).symm
theorem Di {x:Int} (h:-9223372036854775808 ≤ x) (h':x ≤ 9223372036854775807):wrap64 x=x:=by
 unfold wrap64;omega
theorem Xd {i n:Nat} (h:i < n) (hn:n ≤ 9223372036854775807):wrap64 ((i:Int) + 1)=((i + 1:Nat):Int):=by
 rw [Di (by omega) (by omega)];omega
theorem cm {ρ:Type} {n:Nat} {r:ρ} (P:Nat→Prop) (hend:P n) (hstep:∀ i,i < n→P (i + 1)→P i):∀ i,i ≤ n→P i:=by
 have key:∀ d i,i + d=n→P i:=by
  intro d
  induction d with
  | zero =>
   intro i hi;have:i=n:=by omega
   exact this ▸ hend
  | succ d ih =>
   intro i hi;exact hstep i (by omega) (ih (i + 1) (by omega))
 intro i hi;exact key (n - i) i (by omega)
theorem RF {α:Type} {m:List α} {z:α} {i:Nat} (h:i < m.length):(m.take i ++ List.replicate (m.length - i) z).set i (m.getD i z)=m.take (i + 1) ++ List.replicate (m.length - (i + 1)) z:=by
 rw [List.set_append_right _ _ (by rw [List.length_take];omega),List.length_take,Nat.min_eq_left (by omega),Nat.sub_self];rw [show m.length - i=(m.length - (i + 1)) + 1 from by omega,List.replicate_succ,List.set_cons_zero,List.take_succ_eq_append_getElem h,List.append_assoc];simp [List.getD_eq_getElem?_getD,List.getElem?_eq_getElem h]
theorem sH {α:Type} {m:List α} {z:α}:m.take 0 ++ List.replicate (m.length - 0) z=List.replicate m.length z:=by simp
theorem SF {α:Type} {m:List α} {z:α}:m.take m.length ++ List.replicate (m.length - m.length) z=m:=by simp
theorem aW (l:List Int) (i:Nat):rd l (i:Int)=l.getD i 0:=rfl
def iota (m:Int) (n:Nat):List Int:=(List.range n).map fun (j:Nat)=>m + (j:Int)
theorem cl (m:Int) (n:Nat):(iota m n).length=n:=by simp [iota]
theorem pH {m:Int} {n i:Nat} (h:i < n):(iota m n).getD i 0=m + i:=by simp [iota,List.getD_eq_getElem?_getD,h]
theorem kL {α:Type} {m l:List α} {z:α} {i:Nat} (hl:l.length=m.length) (h:i < m.length):(m.take i ++ l.drop i).set i (m.getD i z)=m.take (i + 1) ++ l.drop (i + 1):=by
 rw [List.set_append_right _ _ (by rw [List.length_take];omega),List.length_take,Nat.min_eq_left (by omega),Nat.sub_self];rw [List.drop_eq_getElem_cons (by omega),List.set_cons_zero,List.take_succ_eq_append_getElem h,List.append_assoc];simp [List.getD_eq_getElem?_getD,List.getElem?_eq_getElem h]
theorem dA (a b c:Int):Tg.f a b c=some (Tl a b c):=by
 unfold Tg.f Tl
 by_cases h:a ≥ b
 ·rw [if_pos h];have h':b ≤ a:=h;simp [h']
 ·rw [if_neg h];have h':¬ b ≤ a:=h;simp [h']
theorem aV (l:List Int) (hl:l.length ≤ 35184372088832):Ev (fun k=>Te.f k l) l:=by
 refine Ev.congr (f:=fun k=>Te.l0 k l (List.replicate l.length 0) 0) (fun k=>?_) ?_
 ·unfold Te.f;rw [if_pos (by omega),if_pos (by omega)]
  rfl
 ·have key:=cm (r:=l) (n:=l.length) (fun i=>Ev (fun k=>Te.l0 k l (l.take i ++ List.replicate (l.length - i) 0) (i:Int)) l) ?_ ?_ 0 (by omega)
  ·simpa using key
  ·refine Ev.step (fun k=>by rw [Te.l0]) ?_;refine Ev.neg (by omega) ?_;rw [SF];exact Ev.now l
  ·intro i hi h;refine Ev.step (fun k=>by rw [Te.l0]) ?_;refine Ev.pos (by omega) (Ev.pos (by omega) (Ev.pos (by simp;omega) ?_));rw [Xd hi (by omega),aW,Int.toNat_natCast,RF hi];exact h
theorem vH (l:List Int) (hl:l.length ≤ 9223372036854775807):Ev (fun k=>Md.f k l l) true:=by
 refine Ev.congr (f:=fun k=>Md.l0 k l l 0) (fun k=>?_) ?_
 ·unfold Md.f;rw [if_pos rfl]
 ·refine cm (r:=true) (n:=l.length) (fun i=>Ev (fun k=>Md.l0 k l l (i:Int)) true) ?_ ?_ 0 (by omega)
  ·refine Ev.step (fun k=>by rw [Md.l0]) ?_;exact Ev.neg (by omega) (Ev.now _)
  ·intro i hi h;refine Ev.step (fun k=>by rw [Md.l0]) ?_;refine Ev.pos (by omega) (Ev.pos (by omega) (Ev.pos (by omega) (Ev.pos rfl ?_)));rw [Xd hi hl];exact h
theorem m0 (l:List Int) (a:Int) (ha:0 ≤ a) (ha':a ≤ 1048576) (hl:l.length ≤ 9223372036854775807):∃ t,Li.f l a=some t∧t ≤ a∧(0 ≤ t→t + l.length=a):=by
 unfold Li.f;rw [Di (by omega) (by omega)]
 split
 ·exact ⟨-1,rfl,by omega,by omega⟩
 ·exact ⟨_,rfl,by omega,by omega⟩
def Ao (x:vp):He:=⟨x.f0,x.f1,x.f2,x.f3,x.f4,x.f5,x.f6⟩
theorem XL (l:List vp) (hl:l.length ≤ 4398046511104):Ev (fun k=>Sd.f k l) (l.map Ao):=by
 refine Ev.congr (f:=fun k=>Sd.l0 k l (List.replicate l.length Fw) 0) (fun k=>?_) ?_
 ·unfold Sd.f;rw [if_pos (by omega),if_pos (by omega)]
  rfl
 ·have key:=cm (r:=l.map Ao) (n:=l.length) (fun i=>Ev (fun k=>Sd.l0 k l ((l.map Ao).take i ++ List.replicate ((l.map Ao).length - i) Fw) (i:Int)) (l.map Ao)) ?_ ?_ 0 (by omega)
  ·rw [sH,List.length_map] at key;exact key
  ·refine Ev.step (fun k=>by rw [Sd.l0]) ?_;refine Ev.neg (by omega) ?_;have e:=SF (m:=l.map Ao) (z:=Fw);rw [List.length_map] at e;rw [List.length_map,e];exact Ev.now _
  ·intro i hi h;refine Ev.step (fun k=>by rw [Sd.l0]) ?_;refine Ev.pos (by omega) (Ev.pos (by omega) ?_);unfold Im.f;refine Ev.val (Ev.pos (by simp;omega) ?_)
   have hc:Ao (Rc l (i:Int))=(l.map Ao).getD i Fw:=by
    simp [Rc,List.getD_eq_getElem?_getD,hi]
   have hf:=RF (m:=l.map Ao) (z:=Fw) (i:=i) (by rw [List.length_map];exact hi);rw [← hc] at hf;rw [Xd hi (by omega),Int.toNat_natCast];have e:=hf ▸ h;exact e
theorem kM (l:List He) (hl:l.length ≤ 9223372036854775807):Ev (fun k=>Cc.f k l l) true:=by
 refine Ev.congr (f:=fun k=>Cc.l0 k l l 0) (fun k=>?_) ?_
 ·unfold Cc.f;rw [if_pos rfl]
 ·refine cm (r:=true) (n:=l.length) (fun i=>Ev (fun k=>Cc.l0 k l l (i:Int)) true) ?_ ?_ 0 (by omega)
  ·refine Ev.step (fun k=>by rw [Cc.l0]) ?_;exact Ev.neg (by omega) (Ev.now _)
  ·intro i hi h;refine Ev.step (fun k=>by rw [Cc.l0]) ?_;refine Ev.pos (by omega) (Ev.pos (by omega) (Ev.pos (by omega) ?_));unfold Dl.f;simp only [if_true];refine Ev.val (Ev.pos rfl ?_);rw [Xd hi hl];exact h
def ZB (l:List vp):Nat:=(l.map fun x=>x.f6.size).sum
def vU (l:List vp):Nat:=l.length + ZB l
def T_ (l:List Ez):Nat:=l.length + (l.map fun x=>vU x.f0).sum
theorem Ry {l:List vp} {i:Nat} (h:i < l.length):Rc l (i:Int)=l[i]:=by simp [Rc,List.getD_eq_getElem?_getD,h]
theorem Ls {l:List Ez} {i:Nat} (h:i < l.length):Fe l (i:Int)=l[i]:=by simp [Fe,List.getD_eq_getElem?_getD,h]
theorem ZL (l:List vp) (a:Int) (ha:0 ≤ a) (ha':a ≤ 1048576) (hl:l.length ≤ 9223372036854775807) (ht:∀ x ∈ l,x.f6.size ≤ 9223372036854775807) :
  ∃ t,Ev (fun k=>Yd.f k l a) t∧t ≤ a∧(0 ≤ t→t + vU l=a):=by
 have key:=cm (ρ:=Unit) (r:=()) (n:=l.length) (fun i=>∀ a:Int,0 ≤ a→a ≤ 1048576→∃ t,Ev (fun k=>Yd.l0 k l a (i:Int)) t∧t ≤ a∧(0 ≤ t→t + ZB (l.drop i)=a)) ?_ ?_ 0 (by omega)
 ·unfold Yd.f;rw [Di (by omega) (by omega)]
  by_cases h:a - (l.length:Int) < 0
  ·exact ⟨-1,Ev.pos h (Ev.now _),by omega,by omega⟩
  ·obtain ⟨t,e1,e2,e3⟩:=key (a - l.length) (by omega) (by omega);refine ⟨t,Ev.neg h e1,by omega,fun h0=>?_⟩;have:=e3 h0;rw [List.drop_zero] at this;unfold vU;omega
 ·intro a h0 h1;refine ⟨a,?_,by omega,?_⟩
  ·refine Ev.step (fun k=>by rw [Yd.l0]) ?_;exact Ev.neg (by omega) (Ev.now _)
  ·intro _;rw [List.drop_length];simp [ZB]
 ·intro i hi ih a h0 h1;have hx:=ht l[i] (List.getElem_mem hi)
  have hd:ZB (l.drop i)=l[i].f6.size + ZB (l.drop (i + 1)):=by
   rw [List.drop_eq_getElem_cons hi];simp only [ZB,List.map_cons,List.sum_cons]
  by_cases h:a - (l[i].f6.size:Int) < 0
  ·refine ⟨-1,?_,by omega,by omega⟩;refine Ev.step (fun k=>by rw [Yd.l0]) ?_;refine Ev.pos (by omega) (Ev.pos (by omega) ?_);rw [Ry hi];unfold Oj.f;rw [Di (by omega) (by omega),if_pos h];exact Ev.val (Ev.pos (by decide) (Ev.now _))
  ·obtain ⟨t,e1,e2,e3⟩:=ih (a - l[i].f6.size) (by omega) (by omega);refine ⟨t,?_,by omega,fun hh=>by have:=e3 hh;omega⟩;refine Ev.step (fun k=>by rw [Yd.l0]) ?_;refine Ev.pos (by omega) (Ev.pos (by omega) ?_);rw [Ry hi];unfold Oj.f;rw [Di (by omega) (by omega),if_neg h];refine Ev.val (Ev.neg (by omega) ?_);rw [Xd hi hl];exact e1
theorem aM (l:List Ez) (a:Int) (ha:0 ≤ a) (ha':a ≤ 1048576) (hl:l.length ≤ 9223372036854775807) (ht:∀ x ∈ l,x.f0.length ≤ 9223372036854775807∧∀ y ∈ x.f0,y.f6.size ≤ 9223372036854775807) :
  ∃ t,Ev (fun k=>Td.f k l a) t∧t ≤ a∧(0 ≤ t→t + T_ l=a):=by
 have key:=cm (ρ:=Unit) (r:=()) (n:=l.length) (fun i=>∀ a:Int,0 ≤ a→a ≤ 1048576→∃ t,Ev (fun k=>Td.l0 k l a (i:Int)) t∧t ≤ a∧(0 ≤ t→t + ((l.drop i).map fun x=>vU x.f0).sum=a)) ?_ ?_ 0 (by omega)
 ·unfold Td.f;rw [Di (by omega) (by omega)]
  by_cases h:a - (l.length:Int) < 0
  ·exact ⟨-1,Ev.pos h (Ev.now _),by omega,by omega⟩
  ·obtain ⟨t,e1,e2,e3⟩:=key (a - l.length) (by omega) (by omega);refine ⟨t,Ev.neg h e1,by omega,fun h0=>?_⟩;have:=e3 h0;rw [List.drop_zero] at this;unfold T_;omega
 ·intro a h0 h1;refine ⟨a,?_,by omega,?_⟩
  ·refine Ev.step (fun k=>by rw [Td.l0]) ?_;exact Ev.neg (by omega) (Ev.now _)
  ·intro _;rw [List.drop_length];simp
 ·intro i hi ih a h0 h1;have hx:=ht l[i] (List.getElem_mem hi)
  have hd:((l.drop i).map fun x=>vU x.f0).sum=vU l[i].f0 + ((l.drop (i + 1)).map fun x=>vU x.f0).sum:=by
   rw [List.drop_eq_getElem_cons hi];simp only [List.map_cons,List.sum_cons]
  obtain ⟨u,f1,f2,f3⟩:=ZL l[i].f0 a h0 h1 hx.1 hx.2
  by_cases h:u < 0
  ·refine ⟨-1,?_,by omega,by omega⟩;refine Ev.step (fun k=>by rw [Td.l0]) ?_;refine Ev.pos (by omega) (Ev.pos (by omega) ?_);rw [Ls hi];unfold Pj.f;refine Ev.bind (Ev.bind f1 (Ev.pos h (Ev.now _))) ?_;exact Ev.pos (by decide) (Ev.now _)
  ·obtain ⟨t,e1,e2,e3⟩:=ih u (by omega) (by omega);have:=f3 (by omega);refine ⟨t,?_,by omega,fun hh=>by have:=e3 hh;omega⟩;refine Ev.step (fun k=>by rw [Td.l0]) ?_;refine Ev.pos (by omega) (Ev.pos (by omega) ?_);rw [Ls hi];unfold Pj.f;refine Ev.bind (Ev.bind f1 (Ev.neg h (Ev.now _))) ?_;refine Ev.neg (by omega) ?_;rw [Xd hi hl];exact e1
theorem xF {l:List Nat} {n:Nat} (h:n ∈ l):n ≤ l.sum:=by
 induction l with
 | nil=>cases h
 | cons a l ih =>
  rw [List.sum_cons];cases h with
  | head=>omega
  | tail _ h=>have:=ih h;omega
theorem jL {l:List Ez} {n:Nat} (h:T_ l ≤ n):l.length ≤ n∧∀ x ∈ l,x.f0.length ≤ n:=by
 unfold T_ at h;refine ⟨by omega,fun x hx=>?_⟩;have:vU x.f0 ≤ (l.map fun x=>vU x.f0).sum:=xF (List.mem_map.mpr ⟨x,hx,rfl⟩);unfold vU at this h;omega
theorem ZN (x0:List Int) (x1 x2 x3:Int) (x4:List Ez) (a:Int) (ha:0 ≤ a) (ha':a ≤ 1048576) (h0:x0.length ≤ 9223372036854775807) (hl:x4.length ≤ 9223372036854775807) (ht:∀ x ∈ x4,x.f0.length ≤ 9223372036854775807∧∀ y ∈ x.f0,y.f6.size ≤ 9223372036854775807) :
  ∃ t,Ev (fun k=>Mi.f k x0 x1 x2 x3 x4 a) t∧t ≤ a∧(0 ≤ t→t + x0.length + T_ x4=a):=by
 obtain ⟨t,e1,e2,e3⟩:=m0 x0 a ha ha' h0;unfold Mi.f;rw [e1];simp only [Option.bind_some]
 by_cases ht':t < 0
 ·exact ⟨-1,Ev.pos ht' (Ev.now _),by omega,by omega⟩
 ·obtain ⟨u,f1,f2,f3⟩:=aM x4 t (by omega) (by omega) hl ht
  by_cases hu:u < 0
  ·exact ⟨-1,Ev.neg ht' (Ev.bind f1 (Ev.pos hu (Ev.now _))),by omega,by omega⟩
  ·exact ⟨u,Ev.neg ht' (Ev.bind f1 (Ev.neg hu (Ev.now _))),by omega,fun _=>by have:=e3 (by omega);have:=f3 (by omega);omega⟩
def Jg (x:Ez):Je:=⟨x.f0.map Ao,x.f1,x.f2,x.f3,x.f4⟩
theorem YL (l:List Ez) (hl:l.length ≤ 1048576) (hb:∀ x ∈ l,x.f0.length ≤ 1048576):Ev (fun k=>Ld.f k l) (l.map Jg):=by
 refine Ev.congr (f:=fun k=>Ld.l0 k l (List.replicate l.length QK) 0) (fun k=>?_) ?_
 ·unfold Ld.f;rw [if_pos (by omega),if_pos (by omega)]
  rfl
 ·have key:=cm (r:=l.map Jg) (n:=l.length) (fun i=>Ev (fun k=>Ld.l0 k l ((l.map Jg).take i ++ List.replicate ((l.map Jg).length - i) QK) (i:Int)) (l.map Jg)) ?_ ?_ 0 (by omega)
  ·rw [sH,List.length_map] at key;exact key
  ·refine Ev.step (fun k=>by rw [Ld.l0]) ?_;refine Ev.neg (by omega) ?_;have e:=SF (m:=l.map Jg) (z:=QK);rw [List.length_map] at e;rw [List.length_map,e];exact Ev.now _
  ·intro i hi h;refine Ev.step (fun k=>by rw [Ld.l0]) ?_;refine Ev.pos (by omega) (Ev.pos (by omega) ?_);unfold Jm.f;have hx:=hb l[i] (List.getElem_mem hi);rw [Ls hi];refine Ev.bind (Ev.bind (XL l[i].f0 (by omega)) (Ev.now _)) ?_;refine Ev.pos (by simp;omega) ?_
   have hc:Jg l[i]=(l.map Jg).getD i QK:=by
    simp [List.getD_eq_getElem?_getD,hi]
   have hf:=RF (m:=l.map Jg) (z:=QK) (i:=i) (by rw [List.length_map];exact hi);rw [← hc] at hf;rw [Xd hi (by omega),Int.toNat_natCast];have e:=hf ▸ h;exact e
theorem Zg {l:List Je} {i:Nat} (h:i < l.length):za l (i:Int)=l[i]:=by simp [za,List.getD_eq_getElem?_getD,h]
theorem sk {l:List He} {i:Nat} (h:i < l.length):Ea l (i:Int)=l[i]:=by simp [Ea,List.getD_eq_getElem?_getD,h]
theorem lM (l:List Je) (hl:l.length ≤ 9223372036854775807) (hb:∀ x ∈ l,x.f0.length ≤ 9223372036854775807):Ev (fun k=>Mc.f k l l) true:=by
 refine Ev.congr (f:=fun k=>Mc.l0 k l l 0) (fun k=>?_) ?_
 ·unfold Mc.f;rw [if_pos rfl]
 ·refine cm (r:=true) (n:=l.length) (fun i=>Ev (fun k=>Mc.l0 k l l (i:Int)) true) ?_ ?_ 0 (by omega)
  ·refine Ev.step (fun k=>by rw [Mc.l0]) ?_;exact Ev.neg (by omega) (Ev.now _)
  ·intro i hi h;refine Ev.step (fun k=>by rw [Mc.l0]) ?_;refine Ev.pos (by omega) (Ev.pos (by omega) (Ev.pos (by omega) ?_));unfold El.f;rw [Zg hi];refine Ev.bind (Ev.bind (kM l[i].f0 (hb _ (List.getElem_mem hi))) (Ev.pos rfl (Ev.pos rfl (Ev.pos rfl (Ev.pos rfl (Ev.pos rfl (Ev.now _))))))) (Ev.pos rfl ?_);rw [Xd hi hl];exact h
theorem YN (x0:List Int) (x1 x2 x3:Int) (x4:List Ez) (h0:x0.length ≤ 1048576) (hl:x4.length ≤ 1048576) (hb:∀ x ∈ x4,x.f0.length ≤ 1048576):Ev (fun k=>yh.f k x0 x1 x2 x3 x4) (x0,x1,x2,x3,x4.map Jg):=by
 unfold yh.f;exact Ev.bind (aV x0 (by omega)) (Ev.bind (YL x4 hl hb) (Ev.now _))
theorem eO (x0:List Int) (x1 x2 x3:Int) (x4:List Je) (h0:x0.length ≤ 9223372036854775807) (hl:x4.length ≤ 9223372036854775807) (hb:∀ x ∈ x4,x.f0.length ≤ 9223372036854775807):Ev (fun k=>Qj.f k x0 x1 x2 x3 x4 x0 x1 x2 x3 x4) true:=by
 unfold Qj.f;refine Ev.bind (vH x0 h0) ?_;refine Ev.pos rfl (Ev.pos rfl (Ev.pos rfl (Ev.pos rfl ?_)));exact Ev.bind (lM x4 hl hb) (Ev.pos rfl (Ev.now _))
attribute [local go_sem] Rh si wj Nj qh oh zi ri
def om.f (Qa:List (He)) (Ja:Int) (Ga:Int) (Ia:Int) (Db:Int):Option (List Int):=if Ja=0 then (some (([Ia]:List Int))) else (if Ja=1 then (some (([Ia,Db]:List Int))) else (some ([]:List Int)))
theorem om.calls (Ya:Option Addr) (Za:Nat) (Qa:List (He)) (Ja:Int) (Ga:Int) (Ia:Int) (Db:Int) (r:List Int) (w:World) (Ud:Kd.C Bk w Ya Qa.length Qa) (Rd:Qa.length ≤ Za) (h:om.f Qa Ja Ga Ia Db=some r) :
  Calls Try.prog 78 #[.agg #[.slice Ya Qa.length Za,.int .i64 Ja,.int .i64 Ga,.int .i64 Ia,.int .i64 Db]] w fun e w'=>∃ Nl:Value,e = .returned (Nl)∧Kd.R (Kd.int .i64) 3 w' w.heap.size (fun _=>True) Nl r∧Below w.heap.size w w':=by
 have kC:=Try.underlying59;have Ze:=ga.mk Ud;have Af:=ga.mk Rd;clear Ud Rd;have HB:=ga.mk (Below.refl w.heap.size w);have H:(if Ja=0 then (some (([Ia]:List Int))) else (if Ja=1 then (some (([Ia,Db]:List Int))) else (some ([]:List Int))))=some r:=h;clear h
 by_cases c2:Ja=0
 ·rw [if_pos c2] at H;have vt:(Ja == 0)=true:=beq_iff_eq.mpr c2;have xw:(Ja != 0)=false:=bne_eq_false_iff_eq.mpr c2;clear c2;obtain ⟨ud,jf⟩:∃ y_:List Int,y_=(([Ia]:List Int)):=⟨_,rfl⟩;replace H:(some ud)=some r:=by first|(rw [jf];with_reducible exact H)|(have Ed:=(Option.bind_some _ _).symm.trans H;rw [jf];with_reducible exact Ed)|(have Ed:=(Option.bind_some _ _).symm.trans H;with_reducible exact Ed)|with_reducible exact H|(rw [jf];exact H)|exact H
  have ei:=ga.mk jf;clear jf;obtain rfl:=Option.some.inj H;go_enter Try.func78,Try.ntmps78;go_wp2_with (first|((with_reducible refine Ab (N:=1) rfl ?_);refine Lb ?hg (N:=1) ?hd (cs:=#[.slice Ya Qa.length Za,.int .i64 Ja,.int .i64 Ga,.int .i64 Ia,.int .i64 Db]) (t:=59) ?hr ?_;(case hd=>rfl);(case hg=>rfl);(case hr=>first|(go_simp;done)|(go_simp;rfl));intro ya hg w3 Sb hb;have Eb:=ga.mk (Ra uaH hb);have Fb:=ga.mk (Sb);have Ob:=ga.mk ((by rw [hg];exact (La uaH):w.heap.size ≤ ya));have Ec:=ga.mk ((by rw [hg];exact (La uaH):w.heap.size ≤ ya));clear HB;have HB:=Eb;have oa:=Fb;have Vd:=Ob;have Ta:=Ec;clear Eb Fb Ob Ec hb Sb hg;have MC:w3.cell? ⟨ya,0,none⟩=some (.slice Ya Qa.length Za):=(ia oa.out 0).trans rfl;have LC:w3.cell? ⟨ya,1,none⟩=some (.int .i64 Ja):=(ia oa.out 1).trans rfl;have KC:w3.cell? ⟨ya,2,none⟩=some (.int .i64 Ga):=(ia oa.out 2).trans rfl;have JC:w3.cell? ⟨ya,3,none⟩=some (.int .i64 Ia):=(ia oa.out 3).trans rfl;have IC:w3.cell? ⟨ya,4,none⟩=some (.int .i64 Db):=(ia oa.out 4).trans rfl;have yC:=aa oa.out 0;have xC:=aa oa.out 1;have wC:=aa oa.out 2;have vC:=aa oa.out 3;have uC:=aa oa.out 4)|((with_reducible refine Ab (N:=9) rfl ?_);refine Kd.Hj (Kd.int .i64) _ 3 ?hg (N:=9) ?hd (xs:=([Ia]:List Int)) (inner:=[.int .i64 Ia]) (ok:=fun _=>True) (Dh:=fun _=>True) ?hr ?hp (fun _ hk=>hk) trivial (Below.refl _ _) (Nat.le_refl _) (by simp) ?_;(case hd=>rfl);(case hg=>rfl);(case hr=>first|(go_simp;done)|(go_simp;rfl));(case hp=>exact (Pd.one (show Kd.M (Kd.int .i64) _ _ _ Ia [.int .i64 Ia] from rfl) (Pd.none _ _)));intro wm w5 NA hb gm Pe;clear gm Pe;(first|rw [← ei.out] at NA|(simp only [Int.reduceToNat] at NA;rw [← ei.out] at NA));have Eb:=ga.mk (Kd.Nd NA (La taH));have Fb:=ga.mk (Va (g:=ya) (o:=.cells #[.slice Ya Qa.length Za,.int .i64 Ja,.int .i64 Ga,.int .i64 Ia,.int .i64 Db] 59 (0,0)) vaH hb);have Ob:=ga.mk (Ra taH hb);clear oa HB;have Sg:=Eb;have oa:=Fb;have HB:=Ob;clear Eb Fb Ob hb NA));go_ret;exact ⟨_,by first|rfl|(simp [Pa,Oa] <;> rfl)|(simp [*,Pa,Oa] <;> rfl),SaH,xaH⟩
 ·rw [if_neg c2] at H;have vt:(Ja == 0)=false:=beq_eq_false_iff_ne.mpr c2;have xw:(Ja != 0)=true:=bne_iff_ne.mpr c2
  by_cases c7:Ja=1
  ·rw [if_pos c7] at H;have Xk:(Ja == 1)=true:=beq_iff_eq.mpr c7;have qt:(Ja != 1)=false:=bne_eq_false_iff_eq.mpr c7;clear c7;obtain ⟨Wd,Gf⟩:∃ y_:List Int,y_=(([Ia,Db]:List Int)):=⟨_,rfl⟩;replace H:(some Wd)=some r:=by first|(rw [Gf];with_reducible exact H)|(have Ed:=(Option.bind_some _ _).symm.trans H;rw [Gf];with_reducible exact Ed)|(have Ed:=(Option.bind_some _ _).symm.trans H;with_reducible exact Ed)|with_reducible exact H|(rw [Gf];exact H)|exact H
   have Jl:=ga.mk Gf;clear Gf;obtain rfl:=Option.some.inj H;go_enter Try.func78,Try.ntmps78;go_wp2_with (first|((with_reducible refine Ab (N:=1) rfl ?_);refine Lb ?hg (N:=1) ?hd (cs:=#[.slice Ya Qa.length Za,.int .i64 Ja,.int .i64 Ga,.int .i64 Ia,.int .i64 Db]) (t:=59) ?hr ?_;(case hd=>rfl);(case hg=>rfl);(case hr=>first|(go_simp;done)|(go_simp;rfl));intro ya hg w8 Sb hb;have Eb:=ga.mk (Ra uaH hb);have Fb:=ga.mk (Sb);have Ob:=ga.mk ((by rw [hg];exact (La uaH):w.heap.size ≤ ya));have Ec:=ga.mk ((by rw [hg];exact (La uaH):w.heap.size ≤ ya));clear HB;have HB:=Eb;have oa:=Fb;have Vd:=Ob;have Ta:=Ec;clear Eb Fb Ob Ec hb Sb hg;have Ln:w8.cell? ⟨ya,0,none⟩=some (.slice Ya Qa.length Za):=(ia oa.out 0).trans rfl;have Kn:w8.cell? ⟨ya,1,none⟩=some (.int .i64 Ja):=(ia oa.out 1).trans rfl;have Jn:w8.cell? ⟨ya,2,none⟩=some (.int .i64 Ga):=(ia oa.out 2).trans rfl;have Gn:w8.cell? ⟨ya,3,none⟩=some (.int .i64 Ia):=(ia oa.out 3).trans rfl;have En:w8.cell? ⟨ya,4,none⟩=some (.int .i64 Db):=(ia oa.out 4).trans rfl;have gn:=aa oa.out 0;have en:=aa oa.out 1;have dn:=aa oa.out 2;have bn:=aa oa.out 3;have Zm:=aa oa.out 4)|((with_reducible refine Ab (N:=16) rfl ?_);refine Kd.Hj (Kd.int .i64) _ 3 ?hg (N:=16) ?hd (xs:=([Ia,Db]:List Int)) (inner:=[.int .i64 Ia,.int .i64 Db]) (ok:=fun _=>True) (Dh:=fun _=>True) ?hr ?hp (fun _ hk=>hk) trivial (Below.refl _ _) (Nat.le_refl _) (by simp) ?_;(case hd=>rfl);(case hg=>rfl);(case hr=>first|(go_simp;done)|(go_simp;rfl));(case hp=>exact (Pd.one (show Kd.M (Kd.int .i64) _ _ _ Ia [.int .i64 Ia] from rfl) (Pd.one (show Kd.M (Kd.int .i64) _ _ _ Db [.int .i64 Db] from rfl) (Pd.none _ _))));intro XB Us fq hb gm Pe;clear gm Pe;(first|rw [← Jl.out] at fq|(simp only [Int.reduceToNat] at fq;rw [← Jl.out] at fq));have Eb:=ga.mk (Kd.Nd fq (La taH));have Fb:=ga.mk (Va (g:=ya) (o:=.cells #[.slice Ya Qa.length Za,.int .i64 Ja,.int .i64 Ga,.int .i64 Ia,.int .i64 Db] 59 (0,0)) vaH hb);have Ob:=ga.mk (Ra taH hb);clear oa HB;have nj:=Eb;have oa:=Fb;have HB:=Ob;clear Eb Fb Ob hb fq));go_ret;exact ⟨_,by first|rfl|(simp [Pa,Oa] <;> rfl)|(simp [*,Pa,Oa] <;> rfl),baI,xaH⟩
  ·rw [if_neg c7] at H;have Xk:(Ja == 1)=false:=beq_eq_false_iff_ne.mpr c7;have qt:(Ja != 1)=true:=bne_iff_ne.mpr c7;obtain rfl:=Option.some.inj H;go_enter Try.func78,Try.ntmps78;go_wp2_with (first|((with_reducible refine Ab (N:=1) rfl ?_);refine Lb ?hg (N:=1) ?hd (cs:=#[.slice Ya Qa.length Za,.int .i64 Ja,.int .i64 Ga,.int .i64 Ia,.int .i64 Db]) (t:=59) ?hr ?_;(case hd=>rfl);(case hg=>rfl);(case hr=>first|(go_simp;done)|(go_simp;rfl));intro ya hg Ks Sb hb;have Eb:=ga.mk (Ra uaH hb);have Fb:=ga.mk (Sb);have Ob:=ga.mk ((by rw [hg];exact (La uaH):w.heap.size ≤ ya));have Ec:=ga.mk ((by rw [hg];exact (La uaH):w.heap.size ≤ ya));clear HB;have HB:=Eb;have oa:=Fb;have Vd:=Ob;have Ta:=Ec;clear Eb Fb Ob Ec hb Sb hg;have Gs:Ks.cell? ⟨ya,0,none⟩=some (.slice Ya Qa.length Za):=(ia oa.out 0).trans rfl;have Fs:Ks.cell? ⟨ya,1,none⟩=some (.int .i64 Ja):=(ia oa.out 1).trans rfl;have Es:Ks.cell? ⟨ya,2,none⟩=some (.int .i64 Ga):=(ia oa.out 2).trans rfl;have Ds:Ks.cell? ⟨ya,3,none⟩=some (.int .i64 Ia):=(ia oa.out 3).trans rfl;have Cs:Ks.cell? ⟨ya,4,none⟩=some (.int .i64 Db):=(ia oa.out 4).trans rfl;have Wr:=aa oa.out 0;have Vr:=aa oa.out 1;have Ur:=aa oa.out 2;have Tr:=aa oa.out 3;have Sr:=aa oa.out 4));go_ret;exact ⟨_,by first|rfl|(simp [Pa,Oa] <;> rfl)|(simp [*,Pa,Oa] <;> rfl),by first|exact Kd.JH _ _ _ _ _|exact Kd.E9 _ _ _ _ _|exact Kd.r9 _ _ _ _ _|exact Kd.B9 _ _ _ _ _|exact Kd.BM _ _ _ _ _,xaH⟩
theorem NG (g:Nat) (lb:Array Value) (p:He→Bool) (eg:∀ args w,(callFunc g args).run Try.prog w = .ok (.enter g args) w) (A0:Option Addr) (c0:Nat) (l0:List He) (w:World) (Ul:Kd.C Bk w A0 l0.length l0) (hc0:l0.length ≤ c0)
  (hp:∀ (W:World) (x:He),Below w.heap.size w W→Calls Try.prog g (#[(.agg #[.int .i64 x.f0,.int .i64 x.f1,.int .i64 x.f2,.int .i64 x.f3,.int .i64 x.f4,.int .i64 x.f5,.string x.f6])] ++ lb) W fun e w'=>e = .returned (.bool (p x))∧Below W.heap.size W w') :
  Calls Try.prog 120 #[.slice A0 l0.length c0,.func (.func g) #[] lb] w fun e w'=>(∃ i:Int,e = .returned (.int .i64 i)∧decide (0 ≤ i)=l0.any p)∧Below w.heap.size w w':=by
 have hmx:=Ul.2.1;have ym:=ga.mk Ul;have eL:=ga.mk hc0;have HP:=ga.mk hp;clear Ul hc0 hp;go_enter Try.func120,Try.ntmps120;go_wp2
 go_loopg [5,8] l0.length (fun gg _ s8 wr=>∃ kk:Nat,kk ≤ l0.length∧l0.length - kk ≤ gg∧s8 = .int .i64 kk∧ga (Below w.heap.size w wr)∧ga ((l0.take kk).any p=false))
 case atStart=>exact ⟨0,Nat.zero_le _,by omega,rfl,⟨Below.refl _ w⟩,⟨by simp⟩⟩
 case round =>
  (try clear BW);(try clear HA);obtain ⟨kk,hkk,hg,rfl,BW,HA⟩:=hrel
  by_cases hlt:kk < l0.length
  ·have p1:0 ≤ (kk:Int):=by omega
   have q1:(kk:Int) < (l0.length:Int):=by omega
   obtain ⟨ad,e1,hx0,hx1,Ow,Hq,Gq,RP,UK⟩:=jm ym.out (kk:Int) p1 q1;cases e1;simp only [Int.toNat_natCast] at hx0 hx1 Ow Hq Gq RP UK;replace hx0:=(BW.out.cell (World.block_lt_of_cell? w _ hx0)).trans hx0;replace hx1:=(BW.out.cell (World.block_lt_of_cell? w _ hx1)).trans hx1;replace Ow:=(BW.out.cell (World.block_lt_of_cell? w _ Ow)).trans Ow;replace Hq:=(BW.out.cell (World.block_lt_of_cell? w _ Hq)).trans Hq;replace Gq:=(BW.out.cell (World.block_lt_of_cell? w _ Gq)).trans Gq;replace RP:=(BW.out.cell (World.block_lt_of_cell? w _ RP)).trans RP;replace UK:=(BW.out.cell (World.block_lt_of_cell? w _ UK)).trans UK;have ct:=HP.out wr (Ea l0 (kk:Int)) BW.out;cases hq:p (Ea l0 (kk:Int)) with
   | true =>
    rw [hq] at ct;go_wp2_with (go_at_fn g;refine ct.mono ?_;rintro e w1 ⟨rfl,PC⟩);go_ret;exact ⟨⟨_,rfl,by rw [CT (d:=Fw) hlt hq];simp⟩,BW.out.trans (PC.mono BW.out.size)⟩
   | false =>
    rw [hq] at ct;go_wp2_with (go_at_fn g;refine ct.mono ?_;rintro e w1 ⟨rfl,PC⟩)
    go_roundg (l0.length - (kk + 1))
    case measure=>omega
    case rel=>exact ⟨kk + 1,by omega,by omega,by go_num,⟨BW.out.trans (PC.mono BW.out.size)⟩,⟨az (d:=Fw) hlt HA.out hq⟩⟩
  ·have mav:¬ (kk:Int) < (l0.length:Int):=by omega
   have he:kk=l0.length:=by omega
   subst he;go_wp2;go_ret;exact ⟨⟨_,rfl,by have h_:=HA.out;rw [List.take_length] at h_;rw [h_];simp⟩,BW.out⟩
theorem Cz (g:Nat) (lb:Array Value) (p:He→Bool) (eg:∀ args w,(callFunc g args).run Try.prog w = .ok (.enter g args) w) (A0:Option Addr) (c0:Nat) (l0:List He) (w:World) (Ul:Kd.C Bk w A0 l0.length l0) (hc0:l0.length ≤ c0)
  (hp:∀ (W:World) (x:He),Below w.heap.size w W→Calls Try.prog g (#[(.agg #[.int .i64 x.f0,.int .i64 x.f1,.int .i64 x.f2,.int .i64 x.f3,.int .i64 x.f4,.int .i64 x.f5,.string x.f6])] ++ lb) W fun e w'=>e = .returned (.bool (p x))∧Below W.heap.size W w') :
  Calls Try.prog 102 #[.slice A0 l0.length c0,.func (.func g) #[] lb] w fun e w'=>e = .returned (.bool (l0.any p))∧Below w.heap.size w w':=by
 have HI:=ga.mk (NG g lb p eg A0 c0 l0 w Ul hc0 hp);clear Ul hc0 hp;go_enter Try.func102,Try.ntmps102;go_wp2_with (go_at_call 120;refine HI.out.mono ?_;rintro e w1 ⟨⟨i,rfl,hi⟩,PC⟩;have HD:=ga.mk hi;clear hi);go_ret;exact ⟨by rw [← HD.out];first|rfl|simp,PC⟩
def Gb.l0:Nat→List ByteArray→ByteArray→Int→Int→Option (Int)
 | 0,_,_,_,_=>none
 | k + 1,x0,x1,x7,x8=>if x8 < x7 then (if 0 ≤ x8 then (if x8 < (x0.length:Int) then (if x1.toList=(Vf ByteArray.empty x0 x8).toList then (some x8) else (Gb.l0 k x0 x1 x7 (wrap64 (x8 + 1)))) else (none)) else (none)) else (some (-1))
def Gb.f (k:Nat) (l0:List ByteArray) (a1:ByteArray):Option (Int):=Gb.l0 k l0 a1 (l0.length:Int) 0
theorem Gb.sF:∀ k,(∀ y0 y1 y2 y3,eo (Gb.l0 k y0 y1 y2 y3) (Gb.l0 (k + 1) y0 y1 y2 y3))
 | 0=>fun _ _ _ _ r h=>by simp [Gb.l0] at h
 | k + 1=>by
  have AW:=Gb.sF k
  ·intro y0 y1 y2 y3;unfold Gb.l0
   repeat' first
   | (with_reducible exact AW _ _ _ _)
   | (with_reducible exact eo.refl _)
   | (with_reducible exact eo.none _)
   | (with_reducible refine eo.ite ?_ ?_)
   | (with_reducible refine eo.bind ?_ (fun _=>?_))
   | exact AW _ _ _ _
   | exact eo.none _
   | refine eo.ite ?_ ?_
   | refine eo.bind ?_ (fun _=>?_)
theorem Gb.mono:∀ a0 a1 k,eo (Gb.f k a0 a1) (Gb.f (k + 1) a0 a1):=by
 intro a0 a1 k;have AW:=Gb.sF k;unfold Gb.f
 repeat' first
   | (with_reducible exact AW _ _ _ _)
   | (with_reducible exact eo.refl _)
   | (with_reducible exact eo.none _)
   | (with_reducible refine eo.ite ?_ ?_)
   | (with_reducible refine eo.bind ?_ (fun _=>?_))
   | exact AW _ _ _ _
   | exact eo.none _
   | refine eo.ite ?_ ?_
   | refine eo.bind ?_ (fun _=>?_)
theorem Gb.calls (k:Nat) (A0:Option Addr) (c0:Nat) (l0:List ByteArray) (a1:ByteArray) (r:Int) (w:World) (Ul:Kd.C Kd.string w A0 l0.length l0) (hc0:l0.length ≤ c0) (h:Gb.f k l0 a1=some r) :
  Calls Try.prog 109 #[.slice A0 l0.length c0,.string a1] w fun e w'=>e = .returned (.int .i64 r)∧Wc w w':=by
 have ym:=ga.mk Ul;have eL:=ga.mk hc0;clear Ul hc0;have H:(Gb.l0 k l0 a1 (l0.length:Int) 0)=some r:=h;clear h;have H':=ga.mk H;clear H;go_enter Try.func109,Try.ntmps109;go_wp2
 go_loopg [8] k (fun kq v8 w'=>∃ (Df:Int),v8 = .int .i64 Df∧ga (Gb.l0 kq l0 a1 (l0.length:Int) Df=some r)∧ga (kq ≤ k)∧Wc w w')
 case atStart=>exact ⟨(0),AaH,H',⟨Nat.le_refl _⟩,GaH⟩
 case round =>
  clear H'
  try clear c1
  try clear p2
  (try clear HA);(try clear wg);obtain ⟨Df,rfl,HA,wg,⟨m1,rfl⟩⟩:=hrel;cases gk with
  | zero=>exact absurd HA.out (by simp [Gb.l0])
  | succ k1 =>
   have H:=HA.out;clear HA;simp only [Gb.l0] at H
   by_cases c3:Df < (l0.length:Int)
   ·rw [if_pos c3] at H;have Xh:decide (Df < (l0.length:Int))=true:=decide_eq_true c3;clear c3
    by_cases c4:0 ≤ Df
    ·rw [if_pos c4] at H;have jk:decide (0 ≤ Df)=true:=decide_eq_true c4;clear c4
     by_cases c5:Df < (l0.length:Int)
     ·rw [if_pos c5] at H;have fk:decide (Df < (l0.length:Int))=true:=decide_eq_true c5;clear c5
      by_cases c6:a1.toList=(Vf ByteArray.empty l0 Df).toList
      ·rw [if_pos c6] at H;have gp:(a1.toList == (Vf ByteArray.empty l0 Df).toList)=true:=beq_iff_eq.mpr c6;have ID:(a1.toList != (Vf ByteArray.empty l0 Df).toList)=false:=bne_eq_false_iff_eq.mpr c6;clear c6;obtain rfl:=Option.some.inj H;have ng:0 ≤ (Df:Int):=Ua;have mg:Df < (l0.length:Int):=Ua;obtain ⟨We,ql,Ce⟩:=Kd.Dy ym.out Df ng mg;cases ql;replace ng:=eq_true ng;replace mg:=eq_true mg;go_wp2;go_ret;exact ⟨by first|rfl|(simp;done)|(simp [*];done),GaH⟩
      ·rw [if_neg c6] at H;have gp:(a1.toList == (Vf ByteArray.empty l0 Df).toList)=false:=beq_eq_false_iff_ne.mpr c6;have ID:(a1.toList != (Vf ByteArray.empty l0 Df).toList)=true:=bne_iff_ne.mpr c6;have H':=ga.mk H;clear H;have ng:0 ≤ (Df:Int):=Ua;have mg:Df < (l0.length:Int):=Ua;obtain ⟨We,ql,Ce⟩:=Kd.Dy ym.out Df ng mg;cases ql;replace ng:=eq_true ng;replace mg:=eq_true mg;go_wp2
       go_roundg k1
       case measure=>have:=wg.out;omega
       case rel=>exact ⟨(wrap64 (Df + 1)),AaH,H',⟨by have:=wg.out;omega⟩,GaH⟩
     ·rw [if_neg c5] at H;exact absurd H (by simp)
    ·rw [if_neg c4] at H;exact absurd H (by simp)
   ·rw [if_neg c3] at H;have Xh:decide (Df < (l0.length:Int))=false:=decide_eq_false c3;clear c3;obtain rfl:=Option.some.inj H;go_wp2;go_ret;exact ⟨by first|rfl|(simp;done)|(simp [*];done),GaH⟩
def Zc.f (k:Nat) (l0:List ByteArray) (a1:ByteArray):Option (Bool):=(Gb.f k l0 a1).bind fun t101=>(some (decide (t101 ≥ 0)))
theorem Zc.mono:∀ a0 a1 k,eo (Zc.f k a0 a1) (Zc.f (k + 1) a0 a1):=by
 intro a0 a1 k;unfold Zc.f
 repeat' first
   | (with_reducible exact Gb.mono _ _ _)
   | (with_reducible exact eo.refl _)
   | (with_reducible exact eo.none _)
   | (with_reducible refine eo.ite ?_ ?_)
   | (with_reducible refine eo.bind ?_ (fun _=>?_))
   | exact Gb.mono _ _ _
   | exact eo.none _
   | refine eo.ite ?_ ?_
   | refine eo.bind ?_ (fun _=>?_)
theorem Zc.calls (k:Nat) (A0:Option Addr) (c0:Nat) (l0:List ByteArray) (a1:ByteArray) (r:Bool) (w:World) (Ul:Kd.C Kd.string w A0 l0.length l0) (hc0:l0.length ≤ c0) (h:Zc.f k l0 a1=some r) :
  Calls Try.prog 126 #[.slice A0 l0.length c0,.string a1] w fun e w'=>e = .returned (.bool r)∧Wc w w':=by
 have ym:=ga.mk Ul;have eL:=ga.mk hc0;clear Ul hc0;have H:((Gb.f k l0 a1).bind fun t101=>(some (decide (t101 ≥ 0))))=some r:=h;clear h;replace H:=Option.bind_eq_some_iff.mp H;obtain ⟨t101,Kz,H⟩:=H;replace H:(some (decide (t101 ≥ 0)))=some r:=H;have A3:=ga.mk Kz;clear Kz;obtain rfl:=Option.some.inj H;go_enter Try.func126,Try.ntmps126;go_wp2_with (first|((with_reducible refine yb (f:=109) rfl ?_);refine Pc (some 7) rfl rfl Try.func109 (by kernel_rfl) rfl #[.slice A0 l0.length c0,.string a1] rfl waH ?_;(with_reducible refine (Gb.calls k _ _ l0 a1 t101 _ ?Uc ?Tc A3.out).mono ?_);(case Uc=>repeat (first|exact ym.out|(with_reducible refine Kd.dc ?_ _)|(with_reducible refine Kd.Zb ?_ _)|(with_reducible refine Kd.Fc ?_)));(case Tc=>exact eL.out);rintro e w' ⟨rfl,⟨nd,rfl⟩⟩;refine ⟨_,rfl,?_⟩));go_ret;exact ⟨by first|rfl|(simp;done)|(simp [*];done),GaH⟩
def Xo.f (k:Nat) (a0:ByteArray):Option (Bool):=(Zc.f k (([(⟨#[61,61]⟩:ByteArray),(⟨#[60]⟩:ByteArray),(⟨#[38]⟩:ByteArray),(⟨#[43]⟩:ByteArray),(⟨#[45]⟩:ByteArray),(⟨#[42]⟩:ByteArray)]:List ByteArray)) a0).bind fun t104=>(some t104)
theorem Xo.calls (k:Nat) (a0:ByteArray) (r:Bool) (w:World) (h:Xo.f k a0=some r) :
  Calls Try.prog 122 #[.string a0] w fun e w'=>e = .returned (.bool r)∧Below w.heap.size w w':=by
 have HB:=ga.mk (Below.refl w.heap.size w);have H:((Zc.f k (([(⟨#[61,61]⟩:ByteArray),(⟨#[60]⟩:ByteArray),(⟨#[38]⟩:ByteArray),(⟨#[43]⟩:ByteArray),(⟨#[45]⟩:ByteArray),(⟨#[42]⟩:ByteArray)]:List ByteArray)) a0).bind fun t104=>(some t104))=some r:=h;clear h;obtain ⟨Yf,Hf⟩:∃ y_:List ByteArray,y_=(([(⟨#[61,61]⟩:ByteArray),(⟨#[60]⟩:ByteArray),(⟨#[38]⟩:ByteArray),(⟨#[43]⟩:ByteArray),(⟨#[45]⟩:ByteArray),(⟨#[42]⟩:ByteArray)]:List ByteArray)):=⟨_,rfl⟩;replace H:((Zc.f k Yf a0).bind fun t104=>(some t104))=some r:=by first|(rw [Hf];with_reducible exact H)|(have Ed:=(Option.bind_some _ _).symm.trans H;rw [Hf];with_reducible exact Ed)|(have Ed:=(Option.bind_some _ _).symm.trans H;with_reducible exact Ed)|with_reducible exact H|(rw [Hf];exact H)|exact H
 have Tk:=ga.mk Hf;clear Hf;replace H:=Option.bind_eq_some_iff.mp H;obtain ⟨t104,IV,H⟩:=H;replace H:(some t104)=some r:=H;have A2:=ga.mk IV;clear IV;obtain rfl:=Option.some.inj H;go_enter Try.func122,Try.ntmps122;go_wp2_with (first|((with_reducible refine Ab (N:=3) rfl ?_);refine Kd.Hj Kd.string _ 9 ?hg (N:=3) ?hd (xs:=([(⟨#[61,61]⟩:ByteArray),(⟨#[60]⟩:ByteArray),(⟨#[38]⟩:ByteArray),(⟨#[43]⟩:ByteArray),(⟨#[45]⟩:ByteArray),(⟨#[42]⟩:ByteArray)]:List ByteArray)) (inner:=[.string (⟨#[61,61]⟩:ByteArray),.string (⟨#[60]⟩:ByteArray),.string (⟨#[38]⟩:ByteArray),.string (⟨#[43]⟩:ByteArray),.string (⟨#[45]⟩:ByteArray),.string (⟨#[42]⟩:ByteArray)]) (ok:=fun _=>True) (Dh:=fun _=>True) ?hr ?hp (fun _ hk=>hk) trivial (Below.refl _ _) (Nat.le_refl _) (by simp) ?_;(case hd=>rfl);(case hg=>rfl);(case hr=>first|(go_simp;done)|(go_simp;rfl));(case hp=>exact (Pd.one (show Kd.M Kd.string _ _ _ (⟨#[61,61]⟩:ByteArray) [.string (⟨#[61,61]⟩:ByteArray)] from rfl) (Pd.one (show Kd.M Kd.string _ _ _ (⟨#[60]⟩:ByteArray) [.string (⟨#[60]⟩:ByteArray)] from rfl) (Pd.one (show Kd.M Kd.string _ _ _ (⟨#[38]⟩:ByteArray) [.string (⟨#[38]⟩:ByteArray)] from rfl) (Pd.one (show Kd.M Kd.string _ _ _ (⟨#[43]⟩:ByteArray) [.string (⟨#[43]⟩:ByteArray)] from rfl) (Pd.one (show Kd.M Kd.string _ _ _ (⟨#[45]⟩:ByteArray) [.string (⟨#[45]⟩:ByteArray)] from rfl) (Pd.one (show Kd.M Kd.string _ _ _ (⟨#[42]⟩:ByteArray) [.string (⟨#[42]⟩:ByteArray)] from rfl) (Pd.none _ _))))))));intro fF w3 nC hb gm Pe;clear gm Pe;(first|rw [← Tk.out] at nC|(simp only [Int.reduceToNat] at nC;rw [← Tk.out] at nC));have Eb:=ga.mk (Kd.Nd nC (La uaH));have Fb:=ga.mk (Ra uaH hb);clear HB;have nr:=Eb;have HB:=Fb;clear Eb Fb hb nC;obtain ⟨Ao5,co5,eo5⟩:=Kd.od nr.out;subst eo5)|((with_reducible refine yb (f:=126) rfl ?_);refine Pc (some 5) rfl rfl Try.func126 (by kernel_rfl) rfl #[.slice Ao5 Yf.length co5,.string a0] rfl waH ?_;(with_reducible refine (Zc.calls k _ _ Yf a0 t104 _ ?Uc ?Tc A2.out).mono ?_);(case Uc=>repeat (first|exact (Kd.Rb nr.out).2.2|(with_reducible refine Kd.dc ?_ _)|(with_reducible refine Kd.Zb ?_ _)|(with_reducible refine Kd.Fc ?_)));(case Tc=>exact (Kd.Rb nr.out).2.1);rintro e w' ⟨rfl,⟨nd,rfl⟩⟩;refine ⟨_,rfl,?_⟩));go_ret;exact ⟨by first|rfl|(simp [Pa,Oa] <;> rfl)|(simp [*,Pa,Oa] <;> rfl),BaH⟩
theorem Qai (d:Nat) (w:World) (x0 y0:Int) (x1 y1:Int) (x2 y2:Int) (x3 y3:Int) (x4 y4:Int) (x5 y5:Int) (x6 y6:ByteArray) :
  (Op.equalIn (d + 2) 65 (.agg #[.int .i64 x0,.int .i64 x1,.int .i64 x2,.int .i64 x3,.int .i64 x4,.int .i64 x5,.string x6]) (.agg #[.int .i64 y0,.int .i64 y1,.int .i64 y2,.int .i64 y3,.int .i64 y4,.int .i64 y5,.string y6])).run Try.prog w = .ok (x0 == y0 && (x1 == y1 && (x2 == y2 && (x3 == y3 && (x4 == y4 && (x5 == y5 && (x6.toList == y6.toList))))))) w:=by
 refine oab Try.underlying65 (by kernel_rfl) ?_;refine jt (by rfl) (by go_simp;rfl) (by go_simp;rfl) (by go_simp) ?_;refine jt (by rfl) (by go_simp;rfl) (by go_simp;rfl) (by go_simp) ?_;refine jt (by rfl) (by go_simp;rfl) (by go_simp;rfl) (by go_simp) ?_;refine jt (by rfl) (by go_simp;rfl) (by go_simp;rfl) (by go_simp) ?_;refine jt (by rfl) (by go_simp;rfl) (by go_simp;rfl) (by go_simp) ?_;refine jt (by rfl) (by go_simp;rfl) (by go_simp;rfl) (by go_simp) ?_;exact WX (by rfl) (by go_simp;rfl) (by go_simp;rfl) (by go_simp)
attribute [local go_sem high] Qai
def rN:List ByteArray:=[⟨#[61,61]⟩,⟨#[60]⟩,⟨#[38]⟩,⟨#[43]⟩,⟨#[45]⟩,⟨#[42]⟩]
def Tz (s:ByteArray):Bool:=rN.any fun y=>decide (s.toList=y.toList)
theorem LU (s:ByteArray):Xo.f 8 s=some (Tz s):=by
 unfold Xo.f Zc.f Gb.f Tz rN;simp only [Gb.l0,List.any_cons,List.any_nil]
 by_cases h0:s.toList=[61,61]
 ·simp [Vf,h0]
 by_cases h1:s.toList=[60]
 ·simp [Vf,h1,wrap64]
 by_cases h2:s.toList=[38]
 ·simp [Vf,h2,wrap64]
 by_cases h3:s.toList=[43]
 ·simp [Vf,h3,wrap64]
 by_cases h4:s.toList=[45]
 ·simp [Vf,h4,wrap64]
 by_cases h5:s.toList=[42]
 ·simp [Vf,h5,wrap64]
 simp [Vf,h0,h1,h2,h3,h4,h5,wrap64]
theorem GN (s:ByteArray) (w:World):Calls Try.prog 122 #[.string s] w fun e w'=>e = .returned (.bool (Tz s))∧Below w.heap.size w w':=Xo.calls 8 s (Tz s) w (LU s)
def Fl (slots s:Int):Bool:=decide (0 ≤ s) && decide (s < slots)
theorem Zk (B:Nat) (slots s:Int) (W:World) (hb3:W.cell? ⟨B,3,none⟩=some (.int .i64 slots)):Calls Try.prog 121 #[.int .i64 s,.pointer (some ⟨B,0,none⟩)] W fun e w'=>e = .returned (.bool (Fl slots s))∧W=w':=by
 unfold Fl
 by_cases h:0 ≤ s
 all_goals
  go_enter Try.func121,Try.ntmps121;go_wp2;go_ret;exact ⟨by simp [*];try omega,rfl⟩
theorem SU (A0 A4:Option Addr) (c0 c4 n0 n4:Nat) (p1 p2 slots d a b c n:Int) (t:ByteArray) (w:World) (hn0:n0 ≤ 9223372036854775807) (qH:n4 ≤ 9223372036854775807) :
  Calls Try.prog 104 #[.agg #[.slice A0 n0 c0,.int .i64 p1,.int .i64 p2,.int .i64 slots,.slice A4 n4 c4],.agg #[.int .i64 0,.int .i64 d,.int .i64 a,.int .i64 b,.int .i64 c,.int .i64 n,.string t]] w fun e w'=>e = .returned (.bool (Fl slots d && (a == 0 && (b == 0 && (c == 0 && t.toList.isEmpty)))))∧Below w.heap.size w w':=by
 obtain ⟨W1,qg⟩:∃ W1,W1=(w.alloc (.cells #[.slice A0 n0 c0,.int .i64 p1,.int .i64 p2,.int .i64 slots,.slice A4 n4 c4] 30 (0,0))).alloc (.cells #[.int .i64 0,.int .i64 d,.int .i64 a,.int .i64 b,.int .i64 c,.int .i64 n,.string t] 65 (0,0)):=⟨_,rfl⟩;have HW:=ga.mk qg;have HB:=ga.mk (show Below w.heap.size w W1 from by rw [qg];exact qa (qa (Below.refl _ _) _) _);have hz:W1.heap.size=w.heap.size + 2:=by rw [qg];simp
 have OC:W1.cell? ⟨w.heap.size,3,none⟩=some (.int .i64 slots):=by rw [qg];simp
 have hx0:W1.cell? ⟨w.heap.size + 1,0,none⟩=some (.int .i64 0):=by rw [qg];simp
 have hx1:W1.cell? ⟨w.heap.size + 1,1,none⟩=some (.int .i64 d):=by rw [qg];simp
 have Ow:W1.cell? ⟨w.heap.size + 1,2,none⟩=some (.int .i64 a):=by rw [qg];simp
 have Hq:W1.cell? ⟨w.heap.size + 1,3,none⟩=some (.int .i64 b):=by rw [qg];simp
 have Gq:W1.cell? ⟨w.heap.size + 1,4,none⟩=some (.int .i64 c):=by rw [qg];simp
 have RP:W1.cell? ⟨w.heap.size + 1,5,none⟩=some (.int .i64 n):=by rw [qg];simp
 have UK:W1.cell? ⟨w.heap.size + 1,6,none⟩=some (.string t):=by rw [qg];simp
 clear qg;go_enter Try.func104,Try.ntmps104;go_wp2_with (first|(go_at_call 55;(with_reducible refine (dm _ _ _ _).mono ?_);rintro e w1 ⟨rfl,⟨k1,rfl⟩⟩));rw [← HW.out];clear HW
 go_region
 all_goals go_wp2_with (first|(go_at_call 121;(refine (Zk _ slots _ _ ?hc).mono ?_);(case hc=>first|(go_simp;done)|(go_simp;rfl));rintro e w1 ⟨rfl,rfl⟩))
 all_goals go_ret
 all_goals exact ⟨by (try clear L5 N3 KN Ht);simp [*],PaH⟩
theorem RU (A0 A4:Option Addr) (c0 c4 n0 n4:Nat) (p1 p2 slots d a b c n:Int) (t:ByteArray) (w:World) (hn0:n0 ≤ 9223372036854775807) (qH:n4 ≤ 9223372036854775807) :
  Calls Try.prog 104 #[.agg #[.slice A0 n0 c0,.int .i64 p1,.int .i64 p2,.int .i64 slots,.slice A4 n4 c4],.agg #[.int .i64 1,.int .i64 d,.int .i64 a,.int .i64 b,.int .i64 c,.int .i64 n,.string t]] w fun e w'=>e = .returned (.bool (Fl slots d && Fl slots a && (b == 0 && (c == 0 && (n == 0 && t.toList.isEmpty)))))∧Below w.heap.size w w':=by
 obtain ⟨W1,qg⟩:∃ W1,W1=(w.alloc (.cells #[.slice A0 n0 c0,.int .i64 p1,.int .i64 p2,.int .i64 slots,.slice A4 n4 c4] 30 (0,0))).alloc (.cells #[.int .i64 1,.int .i64 d,.int .i64 a,.int .i64 b,.int .i64 c,.int .i64 n,.string t] 65 (0,0)):=⟨_,rfl⟩;have HW:=ga.mk qg;have HB:=ga.mk (show Below w.heap.size w W1 from by rw [qg];exact qa (qa (Below.refl _ _) _) _);have hz:W1.heap.size=w.heap.size + 2:=by rw [qg];simp
 have OC:W1.cell? ⟨w.heap.size,3,none⟩=some (.int .i64 slots):=by rw [qg];simp
 have hx0:W1.cell? ⟨w.heap.size + 1,0,none⟩=some (.int .i64 1):=by rw [qg];simp
 have hx1:W1.cell? ⟨w.heap.size + 1,1,none⟩=some (.int .i64 d):=by rw [qg];simp
 have Ow:W1.cell? ⟨w.heap.size + 1,2,none⟩=some (.int .i64 a):=by rw [qg];simp
 have Hq:W1.cell? ⟨w.heap.size + 1,3,none⟩=some (.int .i64 b):=by rw [qg];simp
 have Gq:W1.cell? ⟨w.heap.size + 1,4,none⟩=some (.int .i64 c):=by rw [qg];simp
 have RP:W1.cell? ⟨w.heap.size + 1,5,none⟩=some (.int .i64 n):=by rw [qg];simp
 have UK:W1.cell? ⟨w.heap.size + 1,6,none⟩=some (.string t):=by rw [qg];simp
 clear qg;go_enter Try.func104,Try.ntmps104;go_wp2_with (first|(go_at_call 55;(with_reducible refine (dm _ _ _ _).mono ?_);rintro e w1 ⟨rfl,⟨k1,rfl⟩⟩));rw [← HW.out];clear HW
 go_region
 all_goals go_wp2_with (first|(go_at_call 121;(refine (Zk _ slots _ _ ?hc).mono ?_);(case hc=>first|(go_simp;done)|(go_simp;rfl));rintro e w1 ⟨rfl,rfl⟩))
 all_goals go_ret
 all_goals exact ⟨by (try clear L5 N3 KN Ht);simp [*],PaH⟩
theorem QU (A0 A4:Option Addr) (c0 c4 n0 n4:Nat) (p1 p2 slots d a b c n:Int) (t:ByteArray) (w:World) (hn0:n0 ≤ 9223372036854775807) (qH:n4 ≤ 9223372036854775807) :
  Calls Try.prog 104 #[.agg #[.slice A0 n0 c0,.int .i64 p1,.int .i64 p2,.int .i64 slots,.slice A4 n4 c4],.agg #[.int .i64 2,.int .i64 d,.int .i64 a,.int .i64 b,.int .i64 c,.int .i64 n,.string t]] w fun e w'=>e = .returned (.bool (Fl slots d && Fl slots a && Fl slots b && Tz t && (c == 0 && n == 0)))∧Below w.heap.size w w':=by
 obtain ⟨W1,qg⟩:∃ W1,W1=(w.alloc (.cells #[.slice A0 n0 c0,.int .i64 p1,.int .i64 p2,.int .i64 slots,.slice A4 n4 c4] 30 (0,0))).alloc (.cells #[.int .i64 2,.int .i64 d,.int .i64 a,.int .i64 b,.int .i64 c,.int .i64 n,.string t] 65 (0,0)):=⟨_,rfl⟩;have HW:=ga.mk qg;have HB:=ga.mk (show Below w.heap.size w W1 from by rw [qg];exact qa (qa (Below.refl _ _) _) _);have hz:W1.heap.size=w.heap.size + 2:=by rw [qg];simp
 have OC:W1.cell? ⟨w.heap.size,3,none⟩=some (.int .i64 slots):=by rw [qg];simp
 have hx0:W1.cell? ⟨w.heap.size + 1,0,none⟩=some (.int .i64 2):=by rw [qg];simp
 have hx1:W1.cell? ⟨w.heap.size + 1,1,none⟩=some (.int .i64 d):=by rw [qg];simp
 have Ow:W1.cell? ⟨w.heap.size + 1,2,none⟩=some (.int .i64 a):=by rw [qg];simp
 have Hq:W1.cell? ⟨w.heap.size + 1,3,none⟩=some (.int .i64 b):=by rw [qg];simp
 have Gq:W1.cell? ⟨w.heap.size + 1,4,none⟩=some (.int .i64 c):=by rw [qg];simp
 have RP:W1.cell? ⟨w.heap.size + 1,5,none⟩=some (.int .i64 n):=by rw [qg];simp
 have UK:W1.cell? ⟨w.heap.size + 1,6,none⟩=some (.string t):=by rw [qg];simp
 clear qg;go_enter Try.func104,Try.ntmps104;go_wp2_with (first|(go_at_call 55;(with_reducible refine (dm _ _ _ _).mono ?_);rintro e w1 ⟨rfl,⟨k1,rfl⟩⟩));rw [← HW.out];clear HW
 go_region
 all_goals go_wp2_with (first|(go_at_call 121;(refine (Zk _ slots _ _ ?hc).mono ?_);(case hc=>first|(go_simp;done)|(go_simp;rfl));rintro e w1 ⟨rfl,rfl⟩)|(go_at_call 122;(with_reducible refine (GN _ _).mono ?_);rintro e w2 ⟨rfl,Uj⟩;have Ht:=ga.mk Uj;obtain ⟨L5,N3⟩:=n9 Uj;have KN:=Uj.size;simp at KN;clear Uj))
 all_goals go_ret
 all_goals exact ⟨by (try clear L5 N3 KN Ht);simp [*],PaH⟩
theorem PU (A0 A4:Option Addr) (c0 c4 n0 n4:Nat) (p1 p2 slots d a b c n:Int) (t:ByteArray) (w:World) (hn0:n0 ≤ 9223372036854775807) (qH:n4 ≤ 9223372036854775807) :
  Calls Try.prog 104 #[.agg #[.slice A0 n0 c0,.int .i64 p1,.int .i64 p2,.int .i64 slots,.slice A4 n4 c4],.agg #[.int .i64 3,.int .i64 d,.int .i64 a,.int .i64 b,.int .i64 c,.int .i64 n,.string t]] w fun e w'=>e = .returned (.bool (Fl slots d && Fl slots b && Tl n 0 ((n0:Int) - 1) && (Fl slots a || a == -1) && (c == 0 && t.toList.isEmpty)))∧Below w.heap.size w w':=by
 obtain ⟨W1,qg⟩:∃ W1,W1=(w.alloc (.cells #[.slice A0 n0 c0,.int .i64 p1,.int .i64 p2,.int .i64 slots,.slice A4 n4 c4] 30 (0,0))).alloc (.cells #[.int .i64 3,.int .i64 d,.int .i64 a,.int .i64 b,.int .i64 c,.int .i64 n,.string t] 65 (0,0)):=⟨_,rfl⟩;have HW:=ga.mk qg;have HB:=ga.mk (show Below w.heap.size w W1 from by rw [qg];exact qa (qa (Below.refl _ _) _) _);have hz:W1.heap.size=w.heap.size + 2:=by rw [qg];simp
 have OC:W1.cell? ⟨w.heap.size,3,none⟩=some (.int .i64 slots):=by rw [qg];simp
 have hx0:W1.cell? ⟨w.heap.size + 1,0,none⟩=some (.int .i64 3):=by rw [qg];simp
 have hx1:W1.cell? ⟨w.heap.size + 1,1,none⟩=some (.int .i64 d):=by rw [qg];simp
 have Ow:W1.cell? ⟨w.heap.size + 1,2,none⟩=some (.int .i64 a):=by rw [qg];simp
 have Hq:W1.cell? ⟨w.heap.size + 1,3,none⟩=some (.int .i64 b):=by rw [qg];simp
 have Gq:W1.cell? ⟨w.heap.size + 1,4,none⟩=some (.int .i64 c):=by rw [qg];simp
 have RP:W1.cell? ⟨w.heap.size + 1,5,none⟩=some (.int .i64 n):=by rw [qg];simp
 have UK:W1.cell? ⟨w.heap.size + 1,6,none⟩=some (.string t):=by rw [qg];simp
 clear qg;go_enter Try.func104,Try.ntmps104;go_wp2_with (first|(go_at_call 55;(with_reducible refine (dm _ _ _ _).mono ?_);rintro e w1 ⟨rfl,⟨k1,rfl⟩⟩));rw [← HW.out];clear HW
 go_region
 all_goals go_wp2_with (first|(go_at_call 121;(refine (Zk _ slots _ _ ?hc).mono ?_);(case hc=>first|(go_simp;done)|(go_simp;rfl));rintro e w1 ⟨rfl,rfl⟩))
 all_goals go_ret
 all_goals exact ⟨by (try clear L5 N3 KN Ht);simp [*],PaH⟩
theorem OU (A0 A4:Option Addr) (c0 c4 n0 n4:Nat) (p1 p2 slots d a b c n:Int) (t:ByteArray) (w:World) (hn0:n0 ≤ 9223372036854775807) (qH:n4 ≤ 9223372036854775807) :
  Calls Try.prog 104 #[.agg #[.slice A0 n0 c0,.int .i64 p1,.int .i64 p2,.int .i64 slots,.slice A4 n4 c4],.agg #[.int .i64 4,.int .i64 d,.int .i64 a,.int .i64 b,.int .i64 c,.int .i64 n,.string t]] w fun e w'=>e = .returned (.bool (Fl slots c && Fl slots b && Tl n 0 ((n0:Int) - 1) && (Fl slots a || a == -1) && (d == 0 && t.toList.isEmpty)))∧Below w.heap.size w w':=by
 obtain ⟨W1,qg⟩:∃ W1,W1=(w.alloc (.cells #[.slice A0 n0 c0,.int .i64 p1,.int .i64 p2,.int .i64 slots,.slice A4 n4 c4] 30 (0,0))).alloc (.cells #[.int .i64 4,.int .i64 d,.int .i64 a,.int .i64 b,.int .i64 c,.int .i64 n,.string t] 65 (0,0)):=⟨_,rfl⟩;have HW:=ga.mk qg;have HB:=ga.mk (show Below w.heap.size w W1 from by rw [qg];exact qa (qa (Below.refl _ _) _) _);have hz:W1.heap.size=w.heap.size + 2:=by rw [qg];simp
 have OC:W1.cell? ⟨w.heap.size,3,none⟩=some (.int .i64 slots):=by rw [qg];simp
 have hx0:W1.cell? ⟨w.heap.size + 1,0,none⟩=some (.int .i64 4):=by rw [qg];simp
 have hx1:W1.cell? ⟨w.heap.size + 1,1,none⟩=some (.int .i64 d):=by rw [qg];simp
 have Ow:W1.cell? ⟨w.heap.size + 1,2,none⟩=some (.int .i64 a):=by rw [qg];simp
 have Hq:W1.cell? ⟨w.heap.size + 1,3,none⟩=some (.int .i64 b):=by rw [qg];simp
 have Gq:W1.cell? ⟨w.heap.size + 1,4,none⟩=some (.int .i64 c):=by rw [qg];simp
 have RP:W1.cell? ⟨w.heap.size + 1,5,none⟩=some (.int .i64 n):=by rw [qg];simp
 have UK:W1.cell? ⟨w.heap.size + 1,6,none⟩=some (.string t):=by rw [qg];simp
 clear qg;go_enter Try.func104,Try.ntmps104;go_wp2_with (first|(go_at_call 55;(with_reducible refine (dm _ _ _ _).mono ?_);rintro e w1 ⟨rfl,⟨k1,rfl⟩⟩));rw [← HW.out];clear HW
 go_region
 all_goals go_wp2_with (first|(go_at_call 121;(refine (Zk _ slots _ _ ?hc).mono ?_);(case hc=>first|(go_simp;done)|(go_simp;rfl));rintro e w1 ⟨rfl,rfl⟩))
 all_goals go_ret
 all_goals exact ⟨by (try clear L5 N3 KN Ht);simp [*],PaH⟩
theorem NU (A0 A4:Option Addr) (c0 c4 n0 n4:Nat) (p1 p2 slots d a b c n:Int) (t:ByteArray) (w:World) (hn0:n0 ≤ 9223372036854775807) (qH:n4 ≤ 9223372036854775807) :
  Calls Try.prog 104 #[.agg #[.slice A0 n0 c0,.int .i64 p1,.int .i64 p2,.int .i64 slots,.slice A4 n4 c4],.agg #[.int .i64 5,.int .i64 d,.int .i64 a,.int .i64 b,.int .i64 c,.int .i64 n,.string t]] w fun e w'=>e = .returned (.bool (Fl slots d && (a == 0 && (b == 0 && (c == 0 && (n == 0 && t.toList.isEmpty))))))∧Below w.heap.size w w':=by
 obtain ⟨W1,qg⟩:∃ W1,W1=(w.alloc (.cells #[.slice A0 n0 c0,.int .i64 p1,.int .i64 p2,.int .i64 slots,.slice A4 n4 c4] 30 (0,0))).alloc (.cells #[.int .i64 5,.int .i64 d,.int .i64 a,.int .i64 b,.int .i64 c,.int .i64 n,.string t] 65 (0,0)):=⟨_,rfl⟩;have HW:=ga.mk qg;have HB:=ga.mk (show Below w.heap.size w W1 from by rw [qg];exact qa (qa (Below.refl _ _) _) _);have hz:W1.heap.size=w.heap.size + 2:=by rw [qg];simp
 have OC:W1.cell? ⟨w.heap.size,3,none⟩=some (.int .i64 slots):=by rw [qg];simp
 have hx0:W1.cell? ⟨w.heap.size + 1,0,none⟩=some (.int .i64 5):=by rw [qg];simp
 have hx1:W1.cell? ⟨w.heap.size + 1,1,none⟩=some (.int .i64 d):=by rw [qg];simp
 have Ow:W1.cell? ⟨w.heap.size + 1,2,none⟩=some (.int .i64 a):=by rw [qg];simp
 have Hq:W1.cell? ⟨w.heap.size + 1,3,none⟩=some (.int .i64 b):=by rw [qg];simp
 have Gq:W1.cell? ⟨w.heap.size + 1,4,none⟩=some (.int .i64 c):=by rw [qg];simp
 have RP:W1.cell? ⟨w.heap.size + 1,5,none⟩=some (.int .i64 n):=by rw [qg];simp
 have UK:W1.cell? ⟨w.heap.size + 1,6,none⟩=some (.string t):=by rw [qg];simp
 clear qg;go_enter Try.func104,Try.ntmps104;go_wp2_with (first|(go_at_call 55;(with_reducible refine (dm _ _ _ _).mono ?_);rintro e w1 ⟨rfl,⟨k1,rfl⟩⟩));rw [← HW.out];clear HW
 go_region
 all_goals go_wp2_with (first|(go_at_call 121;(refine (Zk _ slots _ _ ?hc).mono ?_);(case hc=>first|(go_simp;done)|(go_simp;rfl));rintro e w1 ⟨rfl,rfl⟩))
 all_goals go_ret
 all_goals exact ⟨by (try clear L5 N3 KN Ht);simp [*],PaH⟩
theorem MU (A0 A4:Option Addr) (c0 c4 n0 n4:Nat) (p1 p2 slots d a b c n:Int) (t:ByteArray) (w:World) (hn0:n0 ≤ 9223372036854775807) (qH:n4 ≤ 9223372036854775807) :
  Calls Try.prog 104 #[.agg #[.slice A0 n0 c0,.int .i64 p1,.int .i64 p2,.int .i64 slots,.slice A4 n4 c4],.agg #[.int .i64 6,.int .i64 d,.int .i64 a,.int .i64 b,.int .i64 c,.int .i64 n,.string t]] w fun e w'=>e = .returned (.bool (Fl slots a && (d == 0 && (b == 0 && (c == 0 && (n == 0 && t.toList.isEmpty))))))∧Below w.heap.size w w':=by
 obtain ⟨W1,qg⟩:∃ W1,W1=(w.alloc (.cells #[.slice A0 n0 c0,.int .i64 p1,.int .i64 p2,.int .i64 slots,.slice A4 n4 c4] 30 (0,0))).alloc (.cells #[.int .i64 6,.int .i64 d,.int .i64 a,.int .i64 b,.int .i64 c,.int .i64 n,.string t] 65 (0,0)):=⟨_,rfl⟩;have HW:=ga.mk qg;have HB:=ga.mk (show Below w.heap.size w W1 from by rw [qg];exact qa (qa (Below.refl _ _) _) _);have hz:W1.heap.size=w.heap.size + 2:=by rw [qg];simp
 have OC:W1.cell? ⟨w.heap.size,3,none⟩=some (.int .i64 slots):=by rw [qg];simp
 have hx0:W1.cell? ⟨w.heap.size + 1,0,none⟩=some (.int .i64 6):=by rw [qg];simp
 have hx1:W1.cell? ⟨w.heap.size + 1,1,none⟩=some (.int .i64 d):=by rw [qg];simp
 have Ow:W1.cell? ⟨w.heap.size + 1,2,none⟩=some (.int .i64 a):=by rw [qg];simp
 have Hq:W1.cell? ⟨w.heap.size + 1,3,none⟩=some (.int .i64 b):=by rw [qg];simp
 have Gq:W1.cell? ⟨w.heap.size + 1,4,none⟩=some (.int .i64 c):=by rw [qg];simp
 have RP:W1.cell? ⟨w.heap.size + 1,5,none⟩=some (.int .i64 n):=by rw [qg];simp
 have UK:W1.cell? ⟨w.heap.size + 1,6,none⟩=some (.string t):=by rw [qg];simp
 clear qg;go_enter Try.func104,Try.ntmps104;go_wp2_with (first|(go_at_call 55;(with_reducible refine (dm _ _ _ _).mono ?_);rintro e w1 ⟨rfl,⟨k1,rfl⟩⟩));rw [← HW.out];clear HW
 go_region
 all_goals go_wp2_with (first|(go_at_call 121;(refine (Zk _ slots _ _ ?hc).mono ?_);(case hc=>first|(go_simp;done)|(go_simp;rfl));rintro e w1 ⟨rfl,rfl⟩))
 all_goals go_ret
 all_goals exact ⟨by (try clear L5 N3 KN Ht);simp [*],PaH⟩
theorem HN (A0 A4:Option Addr) (c0 c4 n0 n4:Nat) (p1 p2 slots d a b c n:Int) (t:ByteArray) (w:World) (hn0:n0 ≤ 9223372036854775807) (qH:n4 ≤ 9223372036854775807) (o:Int) (h0:(o == 0)=false) (h1:(o == 1)=false) (h2:(o == 2)=false) (h3:(o == 3)=false) (h4:(o == 4)=false) (h5:(o == 5)=false) (h6:(o == 6)=false) :
  Calls Try.prog 104 #[.agg #[.slice A0 n0 c0,.int .i64 p1,.int .i64 p2,.int .i64 slots,.slice A4 n4 c4],.agg #[.int .i64 o,.int .i64 d,.int .i64 a,.int .i64 b,.int .i64 c,.int .i64 n,.string t]] w fun e w'=>e = .returned (.bool (false))∧Below w.heap.size w w':=by
 obtain ⟨W1,qg⟩:∃ W1,W1=(w.alloc (.cells #[.slice A0 n0 c0,.int .i64 p1,.int .i64 p2,.int .i64 slots,.slice A4 n4 c4] 30 (0,0))).alloc (.cells #[.int .i64 o,.int .i64 d,.int .i64 a,.int .i64 b,.int .i64 c,.int .i64 n,.string t] 65 (0,0)):=⟨_,rfl⟩;have HW:=ga.mk qg;have HB:=ga.mk (show Below w.heap.size w W1 from by rw [qg];exact qa (qa (Below.refl _ _) _) _);have hz:W1.heap.size=w.heap.size + 2:=by rw [qg];simp
 have OC:W1.cell? ⟨w.heap.size,3,none⟩=some (.int .i64 slots):=by rw [qg];simp
 have hx0:W1.cell? ⟨w.heap.size + 1,0,none⟩=some (.int .i64 o):=by rw [qg];simp
 have hx1:W1.cell? ⟨w.heap.size + 1,1,none⟩=some (.int .i64 d):=by rw [qg];simp
 have Ow:W1.cell? ⟨w.heap.size + 1,2,none⟩=some (.int .i64 a):=by rw [qg];simp
 have Hq:W1.cell? ⟨w.heap.size + 1,3,none⟩=some (.int .i64 b):=by rw [qg];simp
 have Gq:W1.cell? ⟨w.heap.size + 1,4,none⟩=some (.int .i64 c):=by rw [qg];simp
 have RP:W1.cell? ⟨w.heap.size + 1,5,none⟩=some (.int .i64 n):=by rw [qg];simp
 have UK:W1.cell? ⟨w.heap.size + 1,6,none⟩=some (.string t):=by rw [qg];simp
 clear qg;go_enter Try.func104,Try.ntmps104;go_wp2_with (first|(go_at_call 55;(with_reducible refine (dm _ _ _ _).mono ?_);rintro e w1 ⟨rfl,⟨k1,rfl⟩⟩));rw [← HW.out];clear HW
 go_region
 all_goals go_wp2_with (first|(go_at_call 121;(refine (Zk _ slots _ _ ?hc).mono ?_);(case hc=>first|(go_simp;done)|(go_simp;rfl));rintro e w1 ⟨rfl,rfl⟩))
 all_goals go_ret
 all_goals exact ⟨by (try clear L5 N3 KN Ht);simp [*],PaH⟩
def Km (n0:Nat) (slots:Int) (o d a b c n:Int) (t:ByteArray):Bool :=
 if o=0 then Fl slots d && (a == 0 && (b == 0 && (c == 0 && t.toList.isEmpty)))
 else if o=1 then Fl slots d && Fl slots a && (b == 0 && (c == 0 && (n == 0 && t.toList.isEmpty)))
 else if o=2 then Fl slots d && Fl slots a && Fl slots b && Tz t && (c == 0 && n == 0)
 else if o=3 then Fl slots d && Fl slots b && Tl n 0 ((n0:Int) - 1) && (Fl slots a || a == -1) && (c == 0 && t.toList.isEmpty)
 else if o=4 then Fl slots c && Fl slots b && Tl n 0 ((n0:Int) - 1) && (Fl slots a || a == -1) && (d == 0 && t.toList.isEmpty)
 else if o=5 then Fl slots d && (a == 0 && (b == 0 && (c == 0 && (n == 0 && t.toList.isEmpty))))
 else if o=6 then Fl slots a && (d == 0 && (b == 0 && (c == 0 && (n == 0 && t.toList.isEmpty))))
 else false
theorem vL (A0 A4:Option Addr) (c0 c4 n0 n4:Nat) (p1 p2 slots:Int) (w:World) (hn0:n0 ≤ 9223372036854775807) (qH:n4 ≤ 9223372036854775807) (o d a b c n:Int) (t:ByteArray) :
  Calls Try.prog 104 #[.agg #[.slice A0 n0 c0,.int .i64 p1,.int .i64 p2,.int .i64 slots,.slice A4 n4 c4],.agg #[.int .i64 o,.int .i64 d,.int .i64 a,.int .i64 b,.int .i64 c,.int .i64 n,.string t]] w fun e w'=>e = .returned (.bool (Km n0 slots o d a b c n t))∧Below w.heap.size w w':=by
 unfold Km
 by_cases h0:o=0
 ·rw [if_pos h0,h0];exact SU A0 A4 c0 c4 n0 n4 p1 p2 slots d a b c n t w hn0 qH
 rw [if_neg h0]
 by_cases h1:o=1
 ·rw [if_pos h1,h1];exact RU A0 A4 c0 c4 n0 n4 p1 p2 slots d a b c n t w hn0 qH
 rw [if_neg h1]
 by_cases h2:o=2
 ·rw [if_pos h2,h2];exact QU A0 A4 c0 c4 n0 n4 p1 p2 slots d a b c n t w hn0 qH
 rw [if_neg h2]
 by_cases h3:o=3
 ·rw [if_pos h3,h3];exact PU A0 A4 c0 c4 n0 n4 p1 p2 slots d a b c n t w hn0 qH
 rw [if_neg h3]
 by_cases h4:o=4
 ·rw [if_pos h4,h4];exact OU A0 A4 c0 c4 n0 n4 p1 p2 slots d a b c n t w hn0 qH
 rw [if_neg h4]
 by_cases h5:o=5
 ·rw [if_pos h5,h5];exact NU A0 A4 c0 c4 n0 n4 p1 p2 slots d a b c n t w hn0 qH
 rw [if_neg h5]
 by_cases h6:o=6
 ·rw [if_pos h6,h6];exact MU A0 A4 c0 c4 n0 n4 p1 p2 slots d a b c n t w hn0 qH
 rw [if_neg h6];exact HN A0 A4 c0 c4 n0 n4 p1 p2 slots d a b c n t w hn0 qH o (beq_eq_false_iff_ne.mpr h0) (beq_eq_false_iff_ne.mpr h1) (beq_eq_false_iff_ne.mpr h2) (beq_eq_false_iff_ne.mpr h3) (beq_eq_false_iff_ne.mpr h4) (beq_eq_false_iff_ne.mpr h5) (beq_eq_false_iff_ne.mpr h6)
def Co (n0:Nat) (slots:Int) (x:He):Bool:=Km n0 slots x.f0 x.f1 x.f2 x.f3 x.f4 x.f5 x.f6
def Sk (n0:Nat) (slots:Int) (n4:Nat) (code:List He) (j a tg els:Int):Bool :=
 !(code.any fun x=>!Co n0 slots x) && decide (0 ≤ slots) &&
  (if j=0 then Tl tg 0 ((n4:Int) - 1) && a == 0 && els == 0
   else if j=1 then Tl tg 0 ((n4:Int) - 1) && Tl els 0 ((n4:Int) - 1) && Fl slots a
   else if j=2 then Fl slots a && tg == 0 && els == 0
   else false)
theorem TU (B:Nat) (A0 A4:Option Addr) (c0 c4 n0 n4:Nat) (p1 p2 slots:Int) (hn0:n0 ≤ 9223372036854775807) (qH:n4 ≤ 9223372036854775807) (W:World) (x:He)
  (hb0:W.cell? ⟨B,0,none⟩=some (.slice A0 n0 c0)) (PC:W.cell? ⟨B,1,none⟩=some (.int .i64 p1)) (Uj:W.cell? ⟨B,2,none⟩=some (.int .i64 p2)) (hb3:W.cell? ⟨B,3,none⟩=some (.int .i64 slots)) (hb4:W.cell? ⟨B,4,none⟩=some (.slice A4 n4 c4)) (hB:B < W.heap.size) :
  Calls Try.prog 103 #[.agg #[.int .i64 x.f0,.int .i64 x.f1,.int .i64 x.f2,.int .i64 x.f3,.int .i64 x.f4,.int .i64 x.f5,.string x.f6],.pointer (some ⟨B,0,none⟩)] W
   fun e w'=>e = .returned (.bool (!Co n0 slots x))∧Below W.heap.size W w':=by
 have hne:B ≠ W.heap.size:=by omega
 unfold Co;have HC:=ga.mk (fun W'=>vL A0 A4 c0 c4 n0 n4 p1 p2 slots W' hn0 qH x.f0 x.f1 x.f2 x.f3 x.f4 x.f5 x.f6);generalize Km n0 slots x.f0 x.f1 x.f2 x.f3 x.f4 x.f5 x.f6=b at HC ⊢;go_enter Try.func103,Try.ntmps103;go_wp2_with (go_at_call 104;(with_reducible refine (HC.out _).mono ?_);rintro e w1 ⟨rfl,hb⟩;have HD:=ga.mk (Ra (qa (Below.refl _ _) _) hb);clear hb);go_ret;exact ⟨rfl,HD.out⟩
theorem wL (A0 A4 A5:Option Addr) (c0 c4 c5 n0 n4:Nat) (p1 p2 slots:Int) (l5:List He) (j a tg els:Int) (w:World) (hn0:n0 ≤ 9223372036854775807) (qH:n4 ≤ 9223372036854775807) (EZ:Kd.C Bk w A5 l5.length l5) (hc5:l5.length ≤ c5) :
  Calls Try.prog 77 #[.agg #[.slice A0 n0 c0,.int .i64 p1,.int .i64 p2,.int .i64 slots,.slice A4 n4 c4],.agg #[.slice A5 l5.length c5,.int .i64 j,.int .i64 a,.int .i64 tg,.int .i64 els]] w fun e w'=>e = .returned (.bool (Sk n0 slots n4 l5 j a tg els))∧Below w.heap.size w w':=by
 have eg:=enters_of Try.func103 (by kernel_rfl) rfl;have hm5:=EZ.2.1;obtain ⟨W1,qg⟩:∃ W1,W1=(w.alloc (.cells #[.slice A0 n0 c0,.int .i64 p1,.int .i64 p2,.int .i64 slots,.slice A4 n4 c4] 30 (0,0))).alloc (.cells #[.slice A5 l5.length c5,.int .i64 j,.int .i64 a,.int .i64 tg,.int .i64 els] 59 (0,0)):=⟨_,rfl⟩;have HW:=ga.mk qg;have hB1:Below w.heap.size w W1:=by rw [qg];exact qa (qa (Below.refl _ _) _) _
 have hz:W1.heap.size=w.heap.size + 2:=by rw [qg];simp
 have iX:W1.cell? ⟨w.heap.size,0,none⟩=some (.slice A0 n0 c0):=by rw [qg];simp
 have OG:W1.cell? ⟨w.heap.size,1,none⟩=some (.int .i64 p1):=by rw [qg];simp
 have fX:W1.cell? ⟨w.heap.size,2,none⟩=some (.int .i64 p2):=by rw [qg];simp
 have aN:W1.cell? ⟨w.heap.size,3,none⟩=some (.int .i64 slots):=by rw [qg];simp
 have WK:W1.cell? ⟨w.heap.size,4,none⟩=some (.slice A4 n4 c4):=by rw [qg];simp
 have hx0:W1.cell? ⟨w.heap.size + 1,0,none⟩=some (.slice A5 l5.length c5):=by rw [qg];simp
 have hx1:W1.cell? ⟨w.heap.size + 1,1,none⟩=some (.int .i64 j):=by rw [qg];simp
 have Ow:W1.cell? ⟨w.heap.size + 1,2,none⟩=some (.int .i64 a):=by rw [qg];simp
 have Hq:W1.cell? ⟨w.heap.size + 1,3,none⟩=some (.int .i64 tg):=by rw [qg];simp
 have Gq:W1.cell? ⟨w.heap.size + 1,4,none⟩=some (.int .i64 els):=by rw [qg];simp
 have Zs:=Kd.Nb EZ hB1;clear qg EZ
 have HF:=ga.mk (Cz 103 #[.pointer (some ⟨w.heap.size,0,none⟩)] (fun x=>!Co n0 slots x) eg A5 c5 l5 W1 Zs hc5
  (fun W2 x hb'=>TU w.heap.size A0 A4 c0 c4 n0 n4 p1 p2 slots hn0 qH W2 x ((hb'.cell (p:=⟨w.heap.size,0,none⟩) (by simp;omega)).trans iX) ((hb'.cell (p:=⟨w.heap.size,1,none⟩) (by simp;omega)).trans OG) ((hb'.cell (p:=⟨w.heap.size,2,none⟩) (by simp;omega)).trans fX) ((hb'.cell (p:=⟨w.heap.size,3,none⟩) (by simp;omega)).trans aN) ((hb'.cell (p:=⟨w.heap.size,4,none⟩) (by simp;omega)).trans WK) (Nat.lt_of_lt_of_le (by omega) hb'.size)))
 have HB:=ga.mk hB1;clear Zs hB1 eg;unfold Sk;cases hq:l5.any (fun x=>!Co n0 slots x) with
 | true =>
  rw [hq] at HF;go_enter Try.func77,Try.ntmps77
  go_upto_region 1 with (fail)
  rw [← HW.out];clear HW;go_wp2_with (first|(go_at_call 102;(with_reducible refine HF.out.mono ?_);rintro e w2 ⟨rfl,Uj⟩;have Ht:=ga.mk Uj;clear Uj))
  all_goals
   go_ret;exact ⟨by simp,Ra HB.out Ht.out⟩
 | false =>
  rw [hq] at HF;cases ha0:decide (0 ≤ a)
  all_goals
   go_enter Try.func77,Try.ntmps77
   go_upto_region 1 with (fail)
   rw [← HW.out];clear HW
   go_upto_region 3 with (first|(go_at_call 102;(with_reducible refine HF.out.mono ?_);rintro e w2 ⟨rfl,Uj⟩;replace aN:=(Uj.cell (World.block_lt_of_cell? W1 _ aN)).trans aN;replace WK:=(Uj.cell (World.block_lt_of_cell? W1 _ WK)).trans WK;replace hx1:=(Uj.cell (World.block_lt_of_cell? W1 _ hx1)).trans hx1;replace Ow:=(Uj.cell (World.block_lt_of_cell? W1 _ Ow)).trans Ow;replace Hq:=(Uj.cell (World.block_lt_of_cell? W1 _ Hq)).trans Hq;replace Gq:=(Uj.cell (World.block_lt_of_cell? W1 _ Gq)).trans Gq;have Ht:=ga.mk (Ra HB.out Uj);clear Uj HB iX OG fX hx0))
   go_quiet ((go_at_call 55;exact Calls.quiet_of ((dm _ _ _ _).mono fun _ _ ⟨he,hm⟩=>⟨he,hm.out⟩)))
   go_wp2
   all_goals go_ret
   all_goals exact ⟨by first|(simp [Fl, *];done)|(simp [Fl, *];intros;omega)|(clear HF aN WK hx1 Ow Hq Gq;simp_all [Fl];done)|(clear HF aN WK hx1 Ow Hq Gq;simp_all [Fl];omega),by repeat (first|exact Ht.out|apply ja)⟩
def Rj.f (Qa:List Int) (Ja:Int) (Ga:Int) (Ia:Int) (Aa:List (Je)) (Xc:List (He)) (Vb:Int) (Pb:Int) (Qb:Int) (jc:Int):Option Bool:=some (Sk Qa.length Ia Aa.length Xc Vb Pb Qb jc)
theorem Rj.calls (Ya:Option Addr) (Za:Nat) (Qa:List Int) (Ja:Int) (Ga:Int) (Ia:Int) (Mb:Option Addr) (Cb:Nat) (Aa:List (Je)) (dg:Option Addr) (Tf:Nat) (Xc:List (He)) (Vb:Int) (Pb:Int) (Qb:Int) (jc:Int) (r:Bool) (w:World) (Ud:Kd.C (Kd.int .i64) w Ya Qa.length Qa) (Rd:Qa.length ≤ Za) (yf:Kd.C Fq w Mb Aa.length Aa) (kf:Aa.length ≤ Cb) (Uy:Kd.C Bk w dg Xc.length Xc) (Wy:Xc.length ≤ Tf) (h:Rj.f Qa Ja Ga Ia Aa Xc Vb Pb Qb jc=some r) :
  Calls Try.prog 77 #[.agg #[.slice Ya Qa.length Za,.int .i64 Ja,.int .i64 Ga,.int .i64 Ia,.slice Mb Aa.length Cb],.agg #[.slice dg Xc.length Tf,.int .i64 Vb,.int .i64 Pb,.int .i64 Qb,.int .i64 jc]] w fun e w'=>e = .returned (.bool r)∧Below w.heap.size w w':=by
 injection h with h
 subst h;exact wL Ya Mb dg Za Cb Tf Qa.length Aa.length Ja Ga Ia Xc Vb Pb Qb jc w Ud.2.1 yf.2.1 Uy Wy
mutual
def fc.j0:Nat→Bool→List Int→Int→Int→Int→List (Je)→Option (Bool)
 | 0,_,_,_,_,_,_=>none
 | k + 1,D_,yc,Qc,Gc,Dc,Yb=>if D_=true then (some false) else (fc.l0 k 0 Yb (Yb.length:Int) 0 yc Qc Gc Dc Yb)
def fc.l0:Nat→Int→List (Je)→Int→Int→List Int→Int→Int→Int→List (Je)→Option (Bool)
 | 0,_,_,_,_,_,_,_,_,_=>none
 | k + 1,x3,VM,x32,xZ,yc,Qc,Gc,Dc,Yb=>if xZ < x32 then (if 0 ≤ xZ then (if xZ < (VM.length:Int) then ((Rj.f yc Qc Gc Dc Yb ((za VM xZ).f0) ((za VM xZ).f1) ((za VM xZ).f2) ((za VM xZ).f3) ((za VM xZ).f4)).bind fun t107=>(if t107=true then (fc.l0 k (wrap64 (x3 + (((za VM xZ).f0).length:Int))) VM x32 (wrap64 (xZ + 1)) yc Qc Gc Dc Yb) else (some false))) else (none)) else (none)) else (some (decide (x3 ≤ 1000)))
end
def fc.f (k:Nat) (Qa:List Int) (Ja:Int) (Ga:Int) (Ia:Int) (Aa:List (Je)):Option (Bool):=(bh.f Qa Ja Ga ([]:List (XC))).bind fun t102=>(if t102=true then ((Tg.f Ia Ga 1000).bind fun t103=>(if t103=true then ((Tg.f (Aa.length:Int) 1 300).bind fun t104=>(fc.j0 k (!t104) Qa Ja Ga Ia Aa)) else (fc.j0 k true Qa Ja Ga Ia Aa))) else (fc.j0 k true Qa Ja Ga Ia Aa))
theorem fc.calls (k:Nat) (Ya:Option Addr) (Za:Nat) (Qa:List Int) (Ja:Int) (Ga:Int) (Ia:Int) (Mb:Option Addr) (Cb:Nat) (Aa:List (Je)) (r:Bool) (w:World) (Ud:Kd.C (Kd.int .i64) w Ya Qa.length Qa) (Rd:Qa.length ≤ Za) (yf:Kd.C Fq w Mb Aa.length Aa) (kf:Aa.length ≤ Cb) (h:fc.f k Qa Ja Ga Ia Aa=some r) :
  Calls Try.prog 46 #[.agg #[.slice Ya Qa.length Za,.int .i64 Ja,.int .i64 Ga,.int .i64 Ia,.slice Mb Aa.length Cb]] w fun e w'=>e = .returned (.bool r)∧Below w.heap.size w w':=by
 have GF:=Try.underlying30;have DaD:=Try.underlying95;have kC:=Try.underlying59;have Ze:=ga.mk Ud;have Af:=ga.mk Rd;clear Ud Rd;have xg:=ga.mk yf;have ki:=ga.mk kf;clear yf kf;have HB:=ga.mk (Below.refl w.heap.size w);have H:((bh.f Qa Ja Ga ([]:List (XC))).bind fun t102=>(if t102=true then ((Tg.f Ia Ga 1000).bind fun t103=>(if t103=true then ((Tg.f (Aa.length:Int) 1 300).bind fun t104=>(fc.j0 k (!t104) Qa Ja Ga Ia Aa)) else (fc.j0 k true Qa Ja Ga Ia Aa))) else (fc.j0 k true Qa Ja Ga Ia Aa)))=some r:=h;clear h;have iU:=ga.mk H;clear H;go_enter Try.func46,Try.ntmps46
 go_upto_region 1 with (first|((with_reducible refine Ab (N:=1) rfl ?_);(try (refine Vj (by rfl) ?_;dsimp only));refine Lb ?hg (N:=1) ?hd (cs:=#[.slice Ya Qa.length Za,.int .i64 Ja,.int .i64 Ga,.int .i64 Ia,.slice Mb Aa.length Cb]) (t:=30) ?hr ?_;(case hd=>rfl);(case hg=>rfl);(case hr=>first|(go_simp;done)|(go_simp;rfl));intro ya hg w3 Sb hb;have Eb:=ga.mk (Ra uaH hb);have Fb:=ga.mk (Sb);have Ob:=ga.mk ((by rw [hg];exact (La uaH):w.heap.size ≤ ya));have Ec:=ga.mk ((by rw [hg];exact (La uaH):w.heap.size ≤ ya));clear HB;have HB:=Eb;have oa:=Fb;have Vd:=Ob;have Ta:=Ec;clear Eb Fb Ob Ec hb Sb hg))
 (try simp only [Act.put,List.setIfInBounds_toArray,List.set_cons_zero,List.set_cons_succ])
 go_cut [29] (fun v29 wc=>∃ (kq:Nat) (qP:Bool),v29 = .bool qP∧ga (fc.j0 kq qP Qa Ja Ga Ia Aa=some r)∧ga (kq ≤ k)∧ga (wc.heap[ya]? = some (.cells #[(.slice Ya Qa.length Za),.int .i64 Ja,.int .i64 Ga,.int .i64 Ia,(.slice Mb Aa.length Cb)] 30 (0,0)))∧ga (Below w.heap.size w wc))
 case first =>
  have H:=iU.out;clear iU;replace H:=Option.bind_eq_some_iff.mp H;obtain ⟨t102,x_,H⟩:=H;replace H:(if t102=true then ((Tg.f Ia Ga 1000).bind fun t103=>(if t103=true then ((Tg.f (Aa.length:Int) 1 300).bind fun t104=>(fc.j0 k (!t104) Qa Ja Ga Ia Aa)) else (fc.j0 k true Qa Ja Ga Ia Aa))) else (fc.j0 k true Qa Ja Ga Ia Aa))=some r:=H;have A4:=ga.mk x_;clear x_
  by_cases c5:t102=true
  ·subst c5;have H1:((Tg.f Ia Ga 1000).bind fun t103=>(if t103=true then ((Tg.f (Aa.length:Int) 1 300).bind fun t104=>(fc.j0 k (!t104) Qa Ja Ga Ia Aa)) else (fc.j0 k true Qa Ja Ga Ia Aa)))=some r:=by rw [if_pos rfl] at H;exact H
   clear H;have H:=H1;clear H1;replace H:=Option.bind_eq_some_iff.mp H;obtain ⟨t103,v_,H⟩:=H;replace H:(if t103=true then ((Tg.f (Aa.length:Int) 1 300).bind fun t104=>(fc.j0 k (!t104) Qa Ja Ga Ia Aa)) else (fc.j0 k true Qa Ja Ga Ia Aa))=some r:=H;have A6:=ga.mk v_;clear v_
   by_cases c7:t103=true
   ·subst c7;have H1:((Tg.f (Aa.length:Int) 1 300).bind fun t104=>(fc.j0 k (!t104) Qa Ja Ga Ia Aa))=some r:=by rw [if_pos rfl] at H;exact H
    clear H;have H:=H1;clear H1;replace H:=Option.bind_eq_some_iff.mp H;obtain ⟨t104,qZ,H⟩:=H;replace H:(fc.j0 k (!t104) Qa Ja Ga Ia Aa)=some r:=H;have A8:=ga.mk qZ;clear qZ;have H':=ga.mk H;clear H;have Ln:w3.cell? ⟨ya,0,none⟩=some (.slice Ya Qa.length Za):=(ia oa.out 0).trans rfl;have Kn:w3.cell? ⟨ya,1,none⟩=some (.int .i64 Ja):=(ia oa.out 1).trans rfl;have Jn:w3.cell? ⟨ya,2,none⟩=some (.int .i64 Ga):=(ia oa.out 2).trans rfl;have Gn:w3.cell? ⟨ya,3,none⟩=some (.int .i64 Ia):=(ia oa.out 3).trans rfl;have En:w3.cell? ⟨ya,4,none⟩=some (.slice Mb Aa.length Cb):=(ia oa.out 4).trans rfl;have gn:=aa oa.out 0;have en:=aa oa.out 1;have dn:=aa oa.out 2;have bn:=aa oa.out 3;have Zm:=aa oa.out 4;go_wp2_with (first|((with_reducible refine yb (f:=76) rfl ?_);refine Pc (some 13) rfl rfl Try.func76 (by kernel_rfl) rfl #[.agg #[.slice Ya Qa.length Za,.int .i64 Ja,.int .i64 Ga,.slice none 0 0]] rfl waH ?_;(refine (bh.calls _ _ Qa Ja Ga _ _ ([]:List (XC)) true _ ?Uc ?Tc ?we ?ue A4.out).mono ?_);(case Uc=>repeat (first|exact (Kd.Nb Ze.out HB.out)|(with_reducible refine Kd.dc ?_ _)|(with_reducible refine Kd.Zb ?_ _)|(with_reducible refine Kd.Fc ?_)));(case Tc=>exact Af.out);(case we=>exact Kd.nU _ _);(case ue=>exact Nat.le_refl _);rintro e Us ⟨rfl,hb⟩;refine ⟨_,rfl,?_⟩;have Eb:=ga.mk (Va (g:=ya) (o:=.cells #[.slice Ya Qa.length Za,.int .i64 Ja,.int .i64 Ga,.int .i64 Ia,.slice Mb Aa.length Cb] 30 (0,0)) vaH hb);have Fb:=ga.mk (Ra taH hb);clear oa HB;have oa:=Eb;have HB:=Fb;clear Eb Fb;(try clear hb);(try clear Uj);(try clear hk);(try clear hi);have jv:Us.cell? ⟨ya,0,none⟩=some (.slice Ya Qa.length Za):=(ia oa.out 0).trans rfl;have gv:Us.cell? ⟨ya,1,none⟩=some (.int .i64 Ja):=(ia oa.out 1).trans rfl;have cv:Us.cell? ⟨ya,2,none⟩=some (.int .i64 Ga):=(ia oa.out 2).trans rfl;have av:Us.cell? ⟨ya,3,none⟩=some (.int .i64 Ia):=(ia oa.out 3).trans rfl;have Zu:Us.cell? ⟨ya,4,none⟩=some (.slice Mb Aa.length Cb):=(ia oa.out 4).trans rfl;have Cu:=aa oa.out 0;have Bu:=aa oa.out 1;have zu:=aa oa.out 2;have yu:=aa oa.out 3;have xu:=aa oa.out 4)|(go_at_call 55;(with_reducible refine (Tg.calls Ia Ga 1000 true _ A6.out).mono ?_);rintro e w' ⟨rfl,⟨nd,rfl⟩⟩)|(go_at_call 55;(with_reducible refine (Tg.calls (Aa.length:Int) 1 300 t104 _ A8.out).mono ?_);rintro e w' ⟨rfl,⟨nd,rfl⟩⟩))
    go_meet
    case rel=>exact ⟨_,(!t104),AaH,H',⟨by first|omega|exact Nat.le_refl _⟩,⟨zaH⟩,⟨xaH⟩⟩
   ·replace c7:=Bool.eq_false_iff.mpr c7;subst c7;have H1:(fc.j0 k true Qa Ja Ga Ia Aa)=some r:=by rw [if_neg (show ¬ (false=true) by decide)] at H;exact H
    clear H;have H:=H1;clear H1;have H':=ga.mk H;clear H;have Wn:w3.cell? ⟨ya,0,none⟩=some (.slice Ya Qa.length Za):=(ia oa.out 0).trans rfl;have Vn:w3.cell? ⟨ya,1,none⟩=some (.int .i64 Ja):=(ia oa.out 1).trans rfl;have Un:w3.cell? ⟨ya,2,none⟩=some (.int .i64 Ga):=(ia oa.out 2).trans rfl;have Tn:w3.cell? ⟨ya,3,none⟩=some (.int .i64 Ia):=(ia oa.out 3).trans rfl;have Sn:w3.cell? ⟨ya,4,none⟩=some (.slice Mb Aa.length Cb):=(ia oa.out 4).trans rfl;have Dn:=aa oa.out 0;have Cn:=aa oa.out 1;have Bn:=aa oa.out 2;have zn:=aa oa.out 3;have vn:=aa oa.out 4;go_wp2_with (first|((with_reducible refine yb (f:=76) rfl ?_);refine Pc (some 13) rfl rfl Try.func76 (by kernel_rfl) rfl #[.agg #[.slice Ya Qa.length Za,.int .i64 Ja,.int .i64 Ga,.slice none 0 0]] rfl waH ?_;(refine (bh.calls _ _ Qa Ja Ga _ _ ([]:List (XC)) true _ ?Uc ?Tc ?we ?ue A4.out).mono ?_);(case Uc=>repeat (first|exact (Kd.Nb Ze.out HB.out)|(with_reducible refine Kd.dc ?_ _)|(with_reducible refine Kd.Zb ?_ _)|(with_reducible refine Kd.Fc ?_)));(case Tc=>exact Af.out);(case we=>exact Kd.nU _ _);(case ue=>exact Nat.le_refl _);rintro e sr ⟨rfl,hb⟩;refine ⟨_,rfl,?_⟩;have Eb:=ga.mk (Va (g:=ya) (o:=.cells #[.slice Ya Qa.length Za,.int .i64 Ja,.int .i64 Ga,.int .i64 Ia,.slice Mb Aa.length Cb] 30 (0,0)) vaH hb);have Fb:=ga.mk (Ra taH hb);clear oa HB;have oa:=Eb;have HB:=Fb;clear Eb Fb;(try clear hb);(try clear Uj);(try clear hk);(try clear hi);have ij:sr.cell? ⟨ya,0,none⟩=some (.slice Ya Qa.length Za):=(ia oa.out 0).trans rfl;have fj:sr.cell? ⟨ya,1,none⟩=some (.int .i64 Ja):=(ia oa.out 1).trans rfl;have ej:sr.cell? ⟨ya,2,none⟩=some (.int .i64 Ga):=(ia oa.out 2).trans rfl;have cj:sr.cell? ⟨ya,3,none⟩=some (.int .i64 Ia):=(ia oa.out 3).trans rfl;have aj:sr.cell? ⟨ya,4,none⟩=some (.slice Mb Aa.length Cb):=(ia oa.out 4).trans rfl;have Zi:=aa oa.out 0;have Yi:=aa oa.out 1;have Xi:=aa oa.out 2;have Wi:=aa oa.out 3;have Vi:=aa oa.out 4)|(go_at_call 55;(with_reducible refine (Tg.calls Ia Ga 1000 false _ A6.out).mono ?_);rintro e w' ⟨rfl,⟨nd,rfl⟩⟩))
    go_meet
    case rel=>exact ⟨_,(true),AaH,H',⟨by first|omega|exact Nat.le_refl _⟩,⟨zaH⟩,⟨xaH⟩⟩
  ·replace c5:=Bool.eq_false_iff.mpr c5;subst c5;have H1:(fc.j0 k true Qa Ja Ga Ia Aa)=some r:=by rw [if_neg (show ¬ (false=true) by decide)] at H;exact H
   clear H;have H:=H1;clear H1;have H':=ga.mk H;clear H;have vq:w3.cell? ⟨ya,0,none⟩=some (.slice Ya Qa.length Za):=(ia oa.out 0).trans rfl;have uq:w3.cell? ⟨ya,1,none⟩=some (.int .i64 Ja):=(ia oa.out 1).trans rfl;have rq:w3.cell? ⟨ya,2,none⟩=some (.int .i64 Ga):=(ia oa.out 2).trans rfl;have qq:w3.cell? ⟨ya,3,none⟩=some (.int .i64 Ia):=(ia oa.out 3).trans rfl;have oq:w3.cell? ⟨ya,4,none⟩=some (.slice Mb Aa.length Cb):=(ia oa.out 4).trans rfl;have mq:=aa oa.out 0;have lq:=aa oa.out 1;have jq:=aa oa.out 2;have iq:=aa oa.out 3;have gq:=aa oa.out 4;go_wp2_with (first|((with_reducible refine yb (f:=76) rfl ?_);refine Pc (some 13) rfl rfl Try.func76 (by kernel_rfl) rfl #[.agg #[.slice Ya Qa.length Za,.int .i64 Ja,.int .i64 Ga,.slice none 0 0]] rfl waH ?_;(refine (bh.calls _ _ Qa Ja Ga _ _ ([]:List (XC)) false _ ?Uc ?Tc ?we ?ue A4.out).mono ?_);(case Uc=>repeat (first|exact (Kd.Nb Ze.out HB.out)|(with_reducible refine Kd.dc ?_ _)|(with_reducible refine Kd.Zb ?_ _)|(with_reducible refine Kd.Fc ?_)));(case Tc=>exact Af.out);(case we=>exact Kd.nU _ _);(case ue=>exact Nat.le_refl _);rintro e Hz ⟨rfl,hb⟩;refine ⟨_,rfl,?_⟩;have Eb:=ga.mk (Va (g:=ya) (o:=.cells #[.slice Ya Qa.length Za,.int .i64 Ja,.int .i64 Ga,.int .i64 Ia,.slice Mb Aa.length Cb] 30 (0,0)) vaH hb);have Fb:=ga.mk (Ra taH hb);clear oa HB;have oa:=Eb;have HB:=Fb;clear Eb Fb;(try clear hb);(try clear Uj);(try clear hk);(try clear hi)))
   go_meet
   case rel=>exact ⟨_,(true),AaH,H',⟨by first|omega|exact Nat.le_refl _⟩,⟨zaH⟩,⟨xaH⟩⟩
 case rest =>
  clear iU
  try clear p2
  try clear c4
  try clear c5
  try clear c7
  try clear jv
  try clear gv
  try clear cv
  try clear av
  try clear Zu
  try clear Wn
  try clear Vn
  try clear Un
  try clear Tn
  try clear Sn
  try clear ij
  try clear fj
  try clear ej
  try clear cj
  try clear aj
  try clear vq
  try clear uq
  try clear rq
  try clear qq
  try clear oq
  try clear Ln
  try clear Kn
  try clear Jn
  try clear Gn
  try clear En
  try clear Cu
  try clear Bu
  try clear zu
  try clear yu
  try clear xu
  try clear Dn
  try clear Cn
  try clear Bn
  try clear zn
  try clear vn
  try clear Zi
  try clear Yi
  try clear Xi
  try clear Wi
  try clear Vi
  try clear mq
  try clear lq
  try clear jq
  try clear iq
  try clear gq
  try clear gn
  try clear en
  try clear dn
  try clear bn
  try clear Zm
  obtain ⟨kq,qP,rfl,HA,g_,oa,HB⟩:=hcut;cases kq with
  | zero=>exact absurd HA.out (by simp [fc.j0])
  | succ rW =>
   have H:=HA.out;clear HA;simp only [fc.j0] at H
   by_cases yt:qP=true
   ·subst yt;have H1:(some false)=some r:=by rw [if_pos rfl] at H;exact H
    clear H;have H:=H1;clear H1;obtain rfl:=Option.some.inj H;go_wp2;go_ret;exact ⟨by first|rfl|(simp [Pa,Oa] <;> rfl)|(simp [*,Pa,Oa] <;> rfl),xaH⟩
   ·replace yt:=Bool.eq_false_iff.mpr yt;subst yt;have H1:(fc.l0 rW 0 Aa (Aa.length:Int) 0 Qa Ja Ga Ia Aa)=some r:=by rw [if_neg (show ¬ (false=true) by decide)] at H;exact H
    clear H;have H:=H1;clear H1;have H':=ga.mk H;clear H;have qy:wc.cell? ⟨ya,0,none⟩=some (.slice Ya Qa.length Za):=(ia oa.out 0).trans rfl;have oy:wc.cell? ⟨ya,1,none⟩=some (.int .i64 Ja):=(ia oa.out 1).trans rfl;have ny:wc.cell? ⟨ya,2,none⟩=some (.int .i64 Ga):=(ia oa.out 2).trans rfl;have jy:wc.cell? ⟨ya,3,none⟩=some (.int .i64 Ia):=(ia oa.out 3).trans rfl;have iy:wc.cell? ⟨ya,4,none⟩=some (.slice Mb Aa.length Cb):=(ia oa.out 4).trans rfl;have Ex:=aa oa.out 0;have Dx:=aa oa.out 1;have Cx:=aa oa.out 2;have Bx:=aa oa.out 3;have zx:=aa oa.out 4;go_wp2
    go_loopg [3,33] rW (fun kq v3 v33 w'=>∃ (Bp:Int) (Ae:Int),v3 = .int .i64 Bp∧v33 = .int .i64 Ae∧ga (fc.l0 kq Bp Aa (Aa.length:Int) Ae Qa Ja Ga Ia Aa=some r)∧ga (kq ≤ rW)∧ga (w'.heap[ya]? = some (.cells #[(.slice Ya Qa.length Za),.int .i64 Ja,.int .i64 Ga,.int .i64 Ia,(.slice Mb Aa.length Cb)] 30 (0,0)))∧ga (Below w.heap.size w w'))
    case atStart=>exact ⟨(0),(0),AaH,AaH,H',⟨Nat.le_refl _⟩,⟨zaH⟩,⟨xaH⟩⟩
    case round =>
     clear H'
     try clear c1
     try clear p2
     try clear c4
     try clear c5
     try clear c7
     try clear yt
     try clear jv
     try clear gv
     try clear cv
     try clear av
     try clear Zu
     try clear Wn
     try clear Vn
     try clear Un
     try clear Tn
     try clear Sn
     try clear ij
     try clear fj
     try clear ej
     try clear cj
     try clear aj
     try clear vq
     try clear uq
     try clear rq
     try clear qq
     try clear oq
     try clear qy
     try clear oy
     try clear ny
     try clear jy
     try clear iy
     try clear Ln
     try clear Kn
     try clear Jn
     try clear Gn
     try clear En
     try clear Cu
     try clear Bu
     try clear zu
     try clear yu
     try clear xu
     try clear Dn
     try clear Cn
     try clear Bn
     try clear zn
     try clear vn
     try clear Zi
     try clear Yi
     try clear Xi
     try clear Wi
     try clear Vi
     try clear mq
     try clear lq
     try clear jq
     try clear iq
     try clear gq
     try clear Ex
     try clear Dx
     try clear Cx
     try clear Bx
     try clear zx
     try clear gn
     try clear en
     try clear dn
     try clear bn
     try clear Zm
     try clear p2
     (try clear HA);(try clear zl);(try clear oa);(try clear HB);obtain ⟨Bp,Ae,rfl,rfl,HA,zl,oa,HB⟩:=hrel;cases gk with
     | zero=>exact absurd HA.out (by simp [fc.l0])
     | succ k2 =>
      have H:=HA.out;clear HA;simp only [fc.l0] at H
      by_cases lp:Ae < (Aa.length:Int)
      ·rw [if_pos lp] at H;have yw:decide (Ae < (Aa.length:Int))=true:=decide_eq_true lp;clear lp
       by_cases tr:0 ≤ Ae
       ·rw [if_pos tr] at H;have Zy:decide (0 ≤ Ae)=true:=decide_eq_true tr;clear tr
        by_cases Hs:Ae < (Aa.length:Int)
        ·rw [if_pos Hs] at H;have DH:decide (Ae < (Aa.length:Int))=true:=decide_eq_true Hs;clear Hs;replace H:=Option.bind_eq_some_iff.mp H;obtain ⟨t107,Qal,H⟩:=H;replace H:(if t107=true then (fc.l0 k2 (wrap64 (Bp + (((za Aa Ae).f0).length:Int))) Aa (Aa.length:Int) (wrap64 (Ae + 1)) Qa Ja Ga Ia Aa) else (some false))=some r:=H;have A22:=ga.mk Qal;clear Qal
         by_cases Yy:t107=true
         ·subst Yy;have H1:(fc.l0 k2 (wrap64 (Bp + (((za Aa Ae).f0).length:Int))) Aa (Aa.length:Int) (wrap64 (Ae + 1)) Qa Ja Ga Ia Aa)=some r:=by rw [if_pos rfl] at H;exact H
          clear H;have H:=H1;clear H1;have H':=ga.mk H;clear H;have Mj:0 ≤ (Ae:Int):=Ua;have Lj:Ae < (Aa.length:Int):=Ua;obtain ⟨wh,Bh,pg,uw,Xf,Si,Ri,Qi,Oi,Ti,Ui⟩:=sj xg.out Ae Mj Lj;cases uw;replace Xf:=Sa HB.out Xf;replace Si:=Sa HB.out Si;replace Ri:=Sa HB.out Ri;replace Qi:=Sa HB.out Qi;replace Oi:=Sa HB.out Oi;have fo:=ga.mk Ui;have Cv:=ga.mk Ti;clear Ui Ti;replace Mj:=eq_true Mj;replace Lj:=eq_true Lj;go_wp2_with (first|((with_reducible refine Ab (N:=5) rfl ?_);(try (refine Vj (by rfl) ?_;dsimp only));refine Lb ?hg (N:=5) ?hd (cs:=#[.slice none 0 0,.int .i64 0,.int .i64 0,.int .i64 0,.int .i64 0]) (t:=59) ?hr ?_;(case hd=>rfl);(case hg=>rfl);(case hr=>first|(go_simp;done)|(go_simp;rfl));intro lf hg OV Sb hb;have Eb:=ga.mk (Va (g:=ya) (o:=.cells #[.slice Ya Qa.length Za,.int .i64 Ja,.int .i64 Ga,.int .i64 Ia,.slice (some wh) Aa.length Cb] 30 (0,0)) vaH hb);have Fb:=ga.mk (Ra taH hb);have Ob:=ga.mk (Sb);have Ec:=ga.mk ((by rw [hg];exact (La taH):w.heap.size ≤ lf));have gf:=ga.mk ((by rw [hg];exact (La taH):w.heap.size ≤ lf));have Zf:=ga.mk ((by rw [hg];exact Nat.ne_of_lt (Nc (g:=ya) (o:=.cells #[.slice Ya Qa.length Za,.int .i64 Ja,.int .i64 Ga,.int .i64 Ia,.slice (some wh) Aa.length Cb] 30 (0,0)) vaH):ya ≠ lf));have gh:=ga.mk ((by rw [hg];exact Nat.ne_of_gt (Nc (g:=ya) (o:=.cells #[.slice Ya Qa.length Za,.int .i64 Ja,.int .i64 Ga,.int .i64 Ia,.slice (some wh) Aa.length Cb] 30 (0,0)) vaH):lf ≠ ya));clear oa HB;have oa:=Eb;have HB:=Fb;have Ad:=Ob;have t_:=Ec;have Ij:=gf;have Lf:=Zf;have xo:=gh;clear Eb Fb Ob Ec gf Zf gh hb Sb hg;have faf:=xo.out;have Qae:=Lf.out;have Yx:OV.cell? ⟨lf,0,none⟩=some (.slice none 0 0):=(ia Ad.out 0).trans rfl;have Xx:OV.cell? ⟨lf,1,none⟩=some (.int .i64 0):=(ia Ad.out 1).trans rfl;have Wx:OV.cell? ⟨lf,2,none⟩=some (.int .i64 0):=(ia Ad.out 2).trans rfl;have Vx:OV.cell? ⟨lf,3,none⟩=some (.int .i64 0):=(ia Ad.out 3).trans rfl;have Ux:OV.cell? ⟨lf,4,none⟩=some (.int .i64 0):=(ia Ad.out 4).trans rfl;have ox:=aa Ad.out 0;have jx:=aa Ad.out 1;have gx:=aa Ad.out 2;have dx:=aa Ad.out 3;have bx:=aa Ad.out 4;have Tx:OV.cell? ⟨ya,0,none⟩=some (.slice Ya Qa.length Za):=(ia oa.out 0).trans rfl;have Sx:OV.cell? ⟨ya,1,none⟩=some (.int .i64 Ja):=(ia oa.out 1).trans rfl;have Rx:OV.cell? ⟨ya,2,none⟩=some (.int .i64 Ga):=(ia oa.out 2).trans rfl;have Qx:OV.cell? ⟨ya,3,none⟩=some (.int .i64 Ia):=(ia oa.out 3).trans rfl;have Px:OV.cell? ⟨ya,4,none⟩=some (.slice (some wh) Aa.length Cb):=(ia oa.out 4).trans rfl;have ax:=aa oa.out 0;have Zw:=aa oa.out 1;have Yw:=aa oa.out 2;have Xw:=aa oa.out 3;have Ww:=aa oa.out 4)|((with_reducible refine yb (f:=77) rfl ?_);refine Pc (some 44) rfl rfl Try.func77 (by kernel_rfl) rfl #[.agg #[.slice Ya Qa.length Za,.int .i64 Ja,.int .i64 Ga,.int .i64 Ia,.slice (some wh) Aa.length Cb],.agg #[.slice Bh ((za Aa Ae).f0).length pg,.int .i64 ((za Aa Ae).f1),.int .i64 ((za Aa Ae).f2),.int .i64 ((za Aa Ae).f3),.int .i64 ((za Aa Ae).f4)]] rfl waH ?_;(with_reducible refine (Rj.calls _ _ Qa Ja Ga Ia _ _ Aa _ _ ((za Aa Ae).f0) ((za Aa Ae).f1) ((za Aa Ae).f2) ((za Aa Ae).f3) ((za Aa Ae).f4) true _ ?Uc ?Tc ?we ?ue ?Vz ?Uz A22.out).mono ?_);(case Uc=>exact Kd.Nb Ze.out FaH);(case Tc=>exact Af.out);(case we=>exact Kd.Nb xg.out FaH);(case ue=>exact ki.out);(case Vz=>exact Kd.Nb fo.out FaH);(case Uz=>exact Cv.out);rintro e Tv ⟨rfl,hb⟩;refine ⟨_,rfl,?_⟩;have Eb:=ga.mk (Va (g:=ya) (o:=.cells #[.slice Ya Qa.length Za,.int .i64 Ja,.int .i64 Ga,.int .i64 Ia,.slice (some wh) Aa.length Cb] 30 (0,0)) WaH hb);have Fb:=ga.mk (Va (g:=lf) (o:=.cells #[.slice Bh ((za Aa Ae).f0).length pg,.int .i64 ((za Aa Ae).f1),.int .i64 ((za Aa Ae).f2),.int .i64 ((za Aa Ae).f3),.int .i64 ((za Aa Ae).f4)] 59 (0,0)) KaH hb);have Ob:=ga.mk (Ra FaH hb);clear oa Ad HB;have oa:=Eb;have Ad:=Fb;have HB:=Ob;clear Eb Fb Ob;(try clear hb);(try clear Uj);(try clear hk);(try clear hi)))
          go_roundg k2
          case measure=>have:=g_.out;have:=zl.out;omega
          case rel=>exact ⟨(wrap64 (Bp + (((za Aa Ae).f0).length:Int))),(wrap64 (Ae + 1)),AaH,AaH,H',⟨by have:=g_.out;have:=zl.out;omega⟩,⟨zaH⟩,⟨aaI⟩⟩
         ·replace Yy:=Bool.eq_false_iff.mpr Yy;subst Yy;have H1:(some false)=some r:=by rw [if_neg (show ¬ (false=true) by decide)] at H;exact H
          clear H;have H:=H1;clear H1;obtain rfl:=Option.some.inj H;have Mj:0 ≤ (Ae:Int):=Ua;have Lj:Ae < (Aa.length:Int):=Ua;obtain ⟨wh,Bh,pg,uw,Xf,Si,Ri,Qi,Oi,Ti,Ui⟩:=sj xg.out Ae Mj Lj;cases uw;replace Xf:=Sa HB.out Xf;replace Si:=Sa HB.out Si;replace Ri:=Sa HB.out Ri;replace Qi:=Sa HB.out Qi;replace Oi:=Sa HB.out Oi;have fo:=ga.mk Ui;have Cv:=ga.mk Ti;clear Ui Ti;replace Mj:=eq_true Mj;replace Lj:=eq_true Lj;go_wp2_with (first|((with_reducible refine Ab (N:=5) rfl ?_);(try (refine Vj (by rfl) ?_;dsimp only));refine Lb ?hg (N:=5) ?hd (cs:=#[.slice none 0 0,.int .i64 0,.int .i64 0,.int .i64 0,.int .i64 0]) (t:=59) ?hr ?_;(case hd=>rfl);(case hg=>rfl);(case hr=>first|(go_simp;done)|(go_simp;rfl));intro lf hg SK Sb hb;have Eb:=ga.mk (Va (g:=ya) (o:=.cells #[.slice Ya Qa.length Za,.int .i64 Ja,.int .i64 Ga,.int .i64 Ia,.slice (some wh) Aa.length Cb] 30 (0,0)) vaH hb);have Fb:=ga.mk (Ra taH hb);have Ob:=ga.mk (Sb);have Ec:=ga.mk ((by rw [hg];exact (La taH):w.heap.size ≤ lf));have gf:=ga.mk ((by rw [hg];exact (La taH):w.heap.size ≤ lf));have Zf:=ga.mk ((by rw [hg];exact Nat.ne_of_lt (Nc (g:=ya) (o:=.cells #[.slice Ya Qa.length Za,.int .i64 Ja,.int .i64 Ga,.int .i64 Ia,.slice (some wh) Aa.length Cb] 30 (0,0)) vaH):ya ≠ lf));have gh:=ga.mk ((by rw [hg];exact Nat.ne_of_gt (Nc (g:=ya) (o:=.cells #[.slice Ya Qa.length Za,.int .i64 Ja,.int .i64 Ga,.int .i64 Ia,.slice (some wh) Aa.length Cb] 30 (0,0)) vaH):lf ≠ ya));clear oa HB;have oa:=Eb;have HB:=Fb;have Ad:=Ob;have t_:=Ec;have Ij:=gf;have Lf:=Zf;have xo:=gh;clear Eb Fb Ob Ec gf Zf gh hb Sb hg;have NaA:=xo.out;have gaA:=Lf.out;have nB:SK.cell? ⟨lf,0,none⟩=some (.slice none 0 0):=(ia Ad.out 0).trans rfl;have mB:SK.cell? ⟨lf,1,none⟩=some (.int .i64 0):=(ia Ad.out 1).trans rfl;have lB:SK.cell? ⟨lf,2,none⟩=some (.int .i64 0):=(ia Ad.out 2).trans rfl;have kB:SK.cell? ⟨lf,3,none⟩=some (.int .i64 0):=(ia Ad.out 3).trans rfl;have jB:SK.cell? ⟨lf,4,none⟩=some (.int .i64 0):=(ia Ad.out 4).trans rfl;have YA:=aa Ad.out 0;have XA:=aa Ad.out 1;have WA:=aa Ad.out 2;have VA:=aa Ad.out 3;have UA:=aa Ad.out 4;have cK:SK.cell? ⟨ya,0,none⟩=some (.slice Ya Qa.length Za):=(ia oa.out 0).trans rfl;have bK:SK.cell? ⟨ya,1,none⟩=some (.int .i64 Ja):=(ia oa.out 1).trans rfl;have aK:SK.cell? ⟨ya,2,none⟩=some (.int .i64 Ga):=(ia oa.out 2).trans rfl;have ZJ:SK.cell? ⟨ya,3,none⟩=some (.int .i64 Ia):=(ia oa.out 3).trans rfl;have YJ:SK.cell? ⟨ya,4,none⟩=some (.slice (some wh) Aa.length Cb):=(ia oa.out 4).trans rfl;have mJ:=aa oa.out 0;have lJ:=aa oa.out 1;have kJ:=aa oa.out 2;have jJ:=aa oa.out 3;have iJ:=aa oa.out 4)|((with_reducible refine yb (f:=77) rfl ?_);refine Pc (some 44) rfl rfl Try.func77 (by kernel_rfl) rfl #[.agg #[.slice Ya Qa.length Za,.int .i64 Ja,.int .i64 Ga,.int .i64 Ia,.slice (some wh) Aa.length Cb],.agg #[.slice Bh ((za Aa Ae).f0).length pg,.int .i64 ((za Aa Ae).f1),.int .i64 ((za Aa Ae).f2),.int .i64 ((za Aa Ae).f3),.int .i64 ((za Aa Ae).f4)]] rfl waH ?_;(with_reducible refine (Rj.calls _ _ Qa Ja Ga Ia _ _ Aa _ _ ((za Aa Ae).f0) ((za Aa Ae).f1) ((za Aa Ae).f2) ((za Aa Ae).f3) ((za Aa Ae).f4) false _ ?Uc ?Tc ?we ?ue ?Vz ?Uz A22.out).mono ?_);(case Uc=>exact Kd.Nb Ze.out FaH);(case Tc=>exact Af.out);(case we=>exact Kd.Nb xg.out FaH);(case ue=>exact ki.out);(case Vz=>exact Kd.Nb fo.out FaH);(case Uz=>exact Cv.out);rintro e AP ⟨rfl,hb⟩;refine ⟨_,rfl,?_⟩;have Eb:=ga.mk (Va (g:=ya) (o:=.cells #[.slice Ya Qa.length Za,.int .i64 Ja,.int .i64 Ga,.int .i64 Ia,.slice (some wh) Aa.length Cb] 30 (0,0)) WaH hb);have Fb:=ga.mk (Va (g:=lf) (o:=.cells #[.slice Bh ((za Aa Ae).f0).length pg,.int .i64 ((za Aa Ae).f1),.int .i64 ((za Aa Ae).f2),.int .i64 ((za Aa Ae).f3),.int .i64 ((za Aa Ae).f4)] 59 (0,0)) KaH hb);have Ob:=ga.mk (Ra FaH hb);clear oa Ad HB;have oa:=Eb;have Ad:=Fb;have HB:=Ob;clear Eb Fb Ob;(try clear hb);(try clear Uj);(try clear hk);(try clear hi)));go_ret;exact ⟨by first|rfl|(simp [Pa,Oa] <;> rfl)|(simp [*,Pa,Oa] <;> rfl),aaI⟩
        ·rw [if_neg Hs] at H;exact absurd H (by simp)
       ·rw [if_neg tr] at H;exact absurd H (by simp)
      ·rw [if_neg lp] at H;have yw:decide (Ae < (Aa.length:Int))=false:=decide_eq_false lp;clear lp;obtain rfl:=Option.some.inj H;go_wp2;go_ret;exact ⟨by first|rfl|(simp [Pa,Oa] <;> rfl)|(simp [*,Pa,Oa] <;> rfl),xaH⟩
end Go.Proofs.Ytkigbdceceeenaa.P
end
section
namespace Go.Proofs.Ytkigbdceceeenaa.P
open Go.RowKit Go.Proofs.Ma.Tb Go.Proofs.Ma.Gd Go.Proofs.Ma.De
set_option linter.unusedVariables false
set_option linter.unusedSimpArgs false
open Classical in
noncomputable def LD (n:Nat) (p:Nat→Prop):Bool:=decide (∀ j,j < n→p j)
open Classical in
theorem oV {n:Nat} {p:Nat→Prop} (h:∀ j,j < n→p j):LD n p=true:=by
 unfold LD;exact decide_eq_true h
open Classical in
theorem xM {n:Nat} {p:Nat→Prop}:LD n p=true ↔ ∀ j,j < n→p j:=by
 unfold LD;exact decide_eq_true_iff
theorem RO {n i:Nat} {p:Nat→Prop} (hi:i < n) (h:¬ p i):LD n p=false:=by
 cases e:LD n p with
 | false=>rfl
 | true=>exact absurd (xM.mp e i hi) h
theorem iO {ρ:Type} {n:Nat} {R e:ρ} (p:Nat→Prop) (f:Nat→Nat→Option ρ) (hend:Ev (f n) R) (hyes:∀ i,i < n→p i→∀ r,Ev (f (i + 1)) r→Ev (f i) r) (hno:∀ i,i < n→¬ p i→Ev (f i) e):Ev (f 0) (bif LD n p then R else e):=by
 have key:∀ d i,i + d=n→(∀ j,j < i→p j)→Ev (f i) (bif LD n p then R else e):=by
  intro d
  induction d with
  | zero =>
   intro i hi h;have:i=n:=by omega
   subst this;rw [oV h];exact hend
  | succ d ih =>
   intro i hi h
   by_cases hp:p i
   ·refine hyes i (by omega) hp _ (ih (i + 1) (by omega) ?_);intro j hj
    by_cases hji:j=i
    ·rw [hji];exact hp
    ·exact h j (by omega)
   ·rw [RO (by omega) hp];exact hno i (by omega) hp
 exact key n 0 (by omega) (fun j hj=>absurd hj (by omega))
theorem TC {α:Type} (l:List α) (z:α) (q:α→Bool):LD l.length (fun j=>q (l.getD j z)=true) = !(l.any fun x=>!q x):=by
 rw [Bool.eq_iff_iff,xM];simp only [Bool.not_eq_true',List.any_eq_false,Bool.not_eq_true',Bool.not_eq_false]
 constructor
 ·intro h x hx;obtain ⟨j,hj,rfl⟩:=List.mem_iff_getElem.mp hx;have:=h j hj;rw [List.getD_eq_getElem?_getD,List.getElem?_eq_getElem hj] at this
  simpa using this
 ·intro h j hj;have:=h l[j] (List.getElem_mem hj);rw [List.getD_eq_getElem?_getD,List.getElem?_eq_getElem hj]
  simpa using this
end Go.Proofs.Ytkigbdceceeenaa.P
end
section
namespace Go.Proofs.Ytkigbdceceeenaa.P
open Go.RowKit Go.Proofs.Ma.Tb Go.Proofs.Ma.Gd Go.Proofs.Ma.De
set_option linter.unusedVariables false
set_option linter.unusedSimpArgs false
theorem CF (a b c:Int):qb.f a b c=some (Tl a b c):=by
 unfold qb.f Tl
 by_cases h:a ≥ b
 ·rw [if_pos h];have h':b ≤ a:=h;simp [h']
 ·rw [if_neg h];have h':¬ b ≤ a:=h;simp [h']
theorem Cg (a b c:Int):Ev (fun _=>qb.f a b c) (Tl a b c):=Ev.here (CF a b c)
theorem lab (t:ByteArray):Ev (fun k=>ef.f k ([(⟨#[61,61]⟩:ByteArray),(⟨#[60]⟩:ByteArray),(⟨#[38]⟩:ByteArray),(⟨#[43]⟩:ByteArray),(⟨#[45]⟩:ByteArray),(⟨#[42]⟩:ByteArray)]:List ByteArray) t) (Tz t):=by
 refine ⟨8,fun k hk=>?_⟩;obtain ⟨m,rfl⟩:∃ m,k=m + 8:=⟨k - 8,by omega⟩;unfold ef.f Tz rN;simp only [ef.l0,List.any_cons,List.any_nil]
 by_cases h0:t.toList=[61,61]
 ·simp [Vf,h0]
 by_cases h1:t.toList=[60]
 ·simp [Vf,h1,wrap64]
 by_cases h2:t.toList=[38]
 ·simp [Vf,h2,wrap64]
 by_cases h3:t.toList=[43]
 ·simp [Vf,h3,wrap64]
 by_cases h4:t.toList=[45]
 ·simp [Vf,h4,wrap64]
 by_cases h5:t.toList=[42]
 ·simp [Vf,h5,wrap64]
 simp [Vf,Ne.symm h0,Ne.symm h1,Ne.symm h2,Ne.symm h3,Ne.symm h4,Ne.symm h5,h0,h1,h2,h3,h4,h5,wrap64]
theorem JN (s d:Int):Tl d 0 (s - 1)=Fl s d:=by
 unfold Tl Fl;rw [Bool.eq_iff_iff];simp;omega
def nI (D A B C M:Bool) (o d a b n:Int) (t:ByteArray):Bool :=
 if o=0 then D && (a == 0 && b == 0)
 else if o=1 then D && (A && (b == 0 && n == 0))
 else if o=2 then D && (A && (B && (n == 0 && Tz t)))
 else if o=3 then D && M
 else if o=4 then d == 0 && (M && C)
 else if o=5 then D && (a == 0 && (b == 0 && n == 0))
 else if o=6 then d == 0 && (A && (b == 0 && n == 0))
 else false
theorem Ev.AB {b:Bool} {f:Nat→Option Bool} {r:Bool} (hf:b=true→Ev f r):Ev (fun n=>if b=true then f n else some false) (b && r):=by
 cases b with
 | true=>exact Ev.pos rfl (hf rfl)
 | false=>exact Ev.neg (by simp) (Ev.now _)
theorem Ev.WG {c:Prop} [Decidable c] {f:Nat→Option Bool} {r:Bool} (hf:c→Ev f r):Ev (fun n=>if c then f n else some false) (decide c && r):=by
 by_cases h:c
 ·rw [decide_eq_true h];exact Ev.pos h (hf h)
 ·rw [decide_eq_false h];exact Ev.neg h (Ev.now _)
section
variable {l0:List Int} {p v s:Int} {l4:List Je} {o d a b c n:Int} {t:ByteArray}
theorem iM (D A B M:Bool) (x:Bool) (hs:0 ≤ s) (hs':s ≤ 1000):Ev (fun k=>zb.j1 k D A B M x l0 p v s l4 o d a b c n t) (!x && nI D A B (Fl s c) M o d a b n t):=by
 refine Ev.step (fun k=>by rw [zb.j1]) ?_;cases x with
 | true=>exact Ev.pos rfl (Ev.now _)
 | false =>
  refine Ev.neg (by simp) ?_;rw [Bool.not_false,Bool.true_and];unfold nI
  by_cases h0:o=0
  ·rw [if_pos h0];exact Ev.pos h0 (Ev.AB fun _=>Ev.WG fun _=>Ev.now _)
  rw [if_neg h0];refine Ev.neg h0 ?_
  by_cases h1:o=1
  ·rw [if_pos h1];exact Ev.pos h1 (Ev.AB fun _=>Ev.AB fun _=>Ev.WG fun _=>Ev.now _)
  rw [if_neg h1];refine Ev.neg h1 ?_
  by_cases h2:o=2
  ·rw [if_pos h2];exact Ev.pos h2 (Ev.AB fun _=>Ev.AB fun _=>Ev.AB fun _=>Ev.WG fun _=>Ev.bind (lab t) (Ev.now _))
  rw [if_neg h2];refine Ev.neg h2 ?_
  by_cases h3:o=3
  ·rw [if_pos h3,if_pos h3];exact (Ev.AB fun _=>Ev.now _)
  rw [if_neg h3,if_neg h3]
  by_cases h4:o=4
  ·rw [if_pos h4,if_pos h4];refine (Ev.WG fun _=>Ev.AB fun _=>?_);rw [Di (x:=s - 1) (by omega) (by omega),← JN];exact Ev.bind (Cg _ _ _) (Ev.now _)
  rw [if_neg h4,if_neg h4]
  by_cases h5:o=5
  ·rw [if_pos h5,if_pos h5];exact (Ev.AB fun _=>Ev.WG fun _=>Ev.WG fun _=>Ev.now _)
  rw [if_neg h5,if_neg h5]
  by_cases h6:o=6
  ·rw [if_pos h6,if_pos h6];exact (Ev.WG fun _=>Ev.AB fun _=>Ev.WG fun _=>Ev.now _)
  rw [if_neg h6,if_neg h6];exact Ev.now _
theorem ep (M:Bool) (hM:M=((Fl s a || a == -1) && (Fl s b && Tl n 0 ((l0.length:Int) - 1)))) (hs:0 ≤ s) (hs':s ≤ 1000):Ev (fun k=>zb.j0 k (Fl s d) (Fl s a) (Fl s b) M l0 p v s l4 o d a b c n t) (Km l0.length s o d a b c n t):=by
 refine Ev.step (fun k=>by rw [zb.j0]) ?_
 have key:∀ x:Bool,(x=if o=2 then (c != 0) else if t.toList=[] then (if o=4 then false else (c != 0)) else true)→Ev (fun k=>zb.j1 k (Fl s d) (Fl s a) (Fl s b) M x l0 p v s l4 o d a b c n t) (Km l0.length s o d a b c n t):=by
  intro x hx
  have e:Km l0.length s o d a b c n t=(!x && nI (Fl s d) (Fl s a) (Fl s b) (Fl s c) M o d a b n t):=by
   subst hM;subst hx;unfold Km nI
   by_cases h0:o=0
   ·subst h0;rw [Bool.eq_iff_iff]
    by_cases ht:t.toList=[] <;> simp [ht]
    all_goals (constructor <;> intro h <;> simp_all)
   by_cases h1:o=1
   ·subst h1;rw [Bool.eq_iff_iff]
    by_cases ht:t.toList=[] <;> simp [ht]
    all_goals (constructor <;> intro h <;> simp_all)
   by_cases h2:o=2
   ·subst h2;rw [Bool.eq_iff_iff];simp
    constructor <;> intro h <;> simp_all
   by_cases h3:o=3
   ·subst h3;rw [Bool.eq_iff_iff]
    by_cases ht:t.toList=[] <;> simp [ht]
    all_goals (constructor <;> intro h <;> simp_all)
   by_cases h4:o=4
   ·subst h4;rw [Bool.eq_iff_iff]
    by_cases ht:t.toList=[] <;> simp [ht]
    all_goals (constructor <;> intro h <;> simp_all)
   by_cases h5:o=5
   ·subst h5;rw [Bool.eq_iff_iff]
    by_cases ht:t.toList=[] <;> simp [ht]
    all_goals (constructor <;> intro h <;> simp_all)
   by_cases h6:o=6
   ·subst h6;rw [Bool.eq_iff_iff]
    by_cases ht:t.toList=[] <;> simp [ht]
    all_goals (constructor <;> intro h <;> simp_all)
   simp [h0,h1,h2,h3,h4,h5,h6]
  rw [e];exact iM _ _ _ _ _ hs hs'
 by_cases h2:o=2
 ·exact Ev.pos h2 (Ev.neg (by omega) (key _ (by rw [if_pos h2])))
 ·refine Ev.neg h2 ?_
  by_cases ht:t.toList=([]:List UInt8)
  ·refine Ev.pos ht ?_
   by_cases h4:o=4
   ·exact Ev.pos h4 (key _ (by rw [if_neg h2,if_pos ht,if_pos h4]))
   ·exact Ev.neg h4 (key _ (by rw [if_neg h2,if_pos ht,if_neg h4]))
  ·exact Ev.neg ht (key _ (by rw [if_neg h2,if_neg ht]))
theorem VF (hs:0 ≤ s) (hs':s ≤ 1000) (hl:l0.length ≤ 1048576):Ev (fun k=>zb.f k l0 p v s l4 o d a b c n t) (Km l0.length s o d a b c n t):=by
 unfold zb.f;rw [Di (x:=s - 1) (by omega) (by omega),Di (x:=(l0.length:Int) - 1) (by omega) (by omega)];refine Ev.bind (Cg _ _ _) (Ev.bind (Cg _ _ _) (Ev.bind (Cg _ _ _) ?_));simp only [JN];cases ha:Fl s a with
 | true =>
  refine Ev.pos rfl ?_;cases hb:Fl s b with
  | true=>exact Ev.pos rfl (Ev.bind (Cg _ _ _) (by have:=ep (l0:=l0) (p:=p) (v:=v) (s:=s) (l4:=l4) (o:=o) (d:=d) (a:=a) (b:=b) (c:=c) (n:=n) (t:=t) (Tl n 0 ((l0.length:Int) - 1)) (by simp [ha,hb]) hs hs';rw [ha,hb] at this;exact this))
  | false=>exact Ev.neg (by simp) (by have:=ep (l0:=l0) (p:=p) (v:=v) (s:=s) (l4:=l4) (o:=o) (d:=d) (a:=a) (b:=b) (c:=c) (n:=n) (t:=t) false (by simp [hb]) hs hs';rw [ha,hb] at this;exact this)
 | false =>
  refine Ev.neg (by simp) ?_
  by_cases h1:a = -1
  ·refine Ev.pos h1 ?_;cases hb:Fl s b with
   | true=>exact Ev.pos rfl (Ev.bind (Cg _ _ _) (by have:=ep (l0:=l0) (p:=p) (v:=v) (s:=s) (l4:=l4) (o:=o) (d:=d) (a:=a) (b:=b) (c:=c) (n:=n) (t:=t) (Tl n 0 ((l0.length:Int) - 1)) (by simp [h1,hb]) hs hs';rw [ha,hb] at this;exact this))
   | false=>exact Ev.neg (by simp) (by have:=ep (l0:=l0) (p:=p) (v:=v) (s:=s) (l4:=l4) (o:=o) (d:=d) (a:=a) (b:=b) (c:=c) (n:=n) (t:=t) false (by simp [hb]) hs hs';rw [ha,hb] at this;exact this)
  ·exact Ev.neg h1 (by have:=ep (l0:=l0) (p:=p) (v:=v) (s:=s) (l4:=l4) (o:=o) (d:=d) (a:=a) (b:=b) (c:=c) (n:=n) (t:=t) false (by simp [ha,h1]) hs hs';rw [ha] at this;exact this)
theorem fO (code:List He) (j ba tg els:Int) (hs:0 ≤ s) (hs':s ≤ 1000) (hl:l0.length ≤ 1048576) (hl4:l4.length ≤ 1048576) (hc:code.length ≤ 1048576):Ev (fun k=>uc.f k l0 p v s l4 code j ba tg els) (Sk l0.length s l4.length code j ba tg els):=by
 unfold uc.f;have key:=iO (n:=code.length) (R:=(if j=0 then Tl tg 0 ((l4.length:Int) - 1) && ba == 0 && els == 0 else if j=1 then Tl tg 0 ((l4.length:Int) - 1) && Tl els 0 ((l4.length:Int) - 1) && Fl s ba else if j=2 then Fl s ba && tg == 0 && els == 0 else false)) (e:=false) (fun i=>Co l0.length s (code.getD i Fw)=true) (fun i k=>uc.l0 k (i:Int) l0 p v s l4 code j ba tg els) ?_ ?_ ?_
 ·have e:(bif LD code.length (fun i=>Co l0.length s (code.getD i Fw)=true) then (if j=0 then Tl tg 0 ((l4.length:Int) - 1) && ba == 0 && els == 0 else if j=1 then Tl tg 0 ((l4.length:Int) - 1) && Tl els 0 ((l4.length:Int) - 1) && Fl s ba else if j=2 then Fl s ba && tg == 0 && els == 0 else false) else false)=Sk l0.length s l4.length code j ba tg els:=by
   rw [TC];unfold Sk;rw [decide_eq_true hs,Bool.and_true];cases (!(code.any fun x=>!Co l0.length s x)) <;> rfl
  rw [e] at key;exact key
 ·refine Ev.step (fun k=>by rw [uc.l0]) (Ev.neg (by omega) ?_);rw [Di (x:=s - 1) (by omega) (by omega),Di (x:=(l4.length:Int) - 1) (by omega) (by omega)];refine Ev.bind (Cg _ _ _) (Ev.bind (Cg _ _ _) ?_);rw [JN s ba]
  by_cases h0:j=0
  ·rw [if_pos h0,if_pos h0,Bool.and_assoc];exact Ev.AB fun _=>Ev.WG fun _=>Ev.now _
  rw [if_neg h0,if_neg h0]
  by_cases h1:j=1
  ·rw [if_pos h1,if_pos h1,Bool.and_assoc,Bool.and_comm (Tl els 0 ((l4.length:Int) - 1))];exact Ev.AB fun _=>Ev.AB fun _=>Ev.bind (Cg _ _ _) (Ev.now _)
  rw [if_neg h1,if_neg h1]
  by_cases h2:j=2
  ·rw [if_pos h2,if_pos h2,Bool.and_assoc];exact Ev.AB fun _=>Ev.WG fun _=>Ev.now _
  rw [if_neg h2,if_neg h2];exact Ev.now _
 ·intro i hi hp r hr;refine Ev.step (fun k=>by rw [uc.l0]) (Ev.pos (by omega) (Ev.pos (by omega) ?_));refine Ev.bind (VF hs hs' hl) ?_;have hq:Km l0.length s (Ea code (i:Int)).f0 (Ea code (i:Int)).f1 (Ea code (i:Int)).f2 (Ea code (i:Int)).f3 (Ea code (i:Int)).f4 (Ea code (i:Int)).f5 (Ea code (i:Int)).f6=true:=hp;refine Ev.pos hq ?_;rw [Xd hi (by omega)];exact hr
 ·intro i hi hp;refine Ev.step (fun k=>by rw [uc.l0]) (Ev.pos (by omega) (Ev.pos (by omega) ?_));refine Ev.bind (VF hs hs' hl) ?_;exact Ev.neg hp (Ev.now _)
end
def xe (l:List Je):Nat:=(l.map fun x=>x.f0.length).sum
def BC (l0:List Int) (p v s:Int) (n4:Nat):Bool:=mz l0 p v && Tl s v 1000 && Tl (n4:Int) 1 300
def er (l0:List Int) (s:Int) (l4:List Je) (x:Je):Bool:=Sk l0.length s l4.length x.f0 x.f1 x.f2 x.f3 x.f4
def Xn (l0:List Int) (p v s:Int) (l4:List Je):Bool:=BC l0 p v s l4.length && (!(l4.any fun x=>!er l0 s l4 x) && decide (xe l4 ≤ 1000))
theorem Rz (l:List Je) (i:Nat) (h:i < l.length):xe (l.take (i + 1))=xe (l.take i) + l[i].f0.length:=by
 unfold xe;rw [List.take_succ_eq_append_getElem h,List.map_append,List.sum_append];simp
theorem lF (l:List Nat) (i:Nat):(l.take i).sum ≤ l.sum:=by
 conv=>rhs;rw [← List.take_append_drop i l]
 rw [List.sum_append];omega
theorem mF (l:List Je) (i:Nat):xe (l.take i) ≤ xe l:=by
 unfold xe;rw [List.map_take];exact lF _ _
theorem zC {l0:List Int} {p v s:Int} {n4:Nat} (h:BC l0 p v s n4=true):1 ≤ l0.length∧l0.length ≤ 4∧0 ≤ p∧p ≤ v∧p ≤ 6∧v ≤ 20∧v ≤ s∧s ≤ 1000∧1 ≤ n4∧n4 ≤ 300:=by
 unfold BC mz Tl at h;simp only [Bool.and_eq_true,decide_eq_true_eq] at h;obtain ⟨⟨⟨⟨⟨⟨h1,h2⟩,_⟩,h3,h4⟩,h5⟩,h6,h7⟩,h8,h9⟩:=h
 split at h4 <;> omega
section
variable {l0:List Int} {p v s:Int} {l4:List Je}
theorem xz (h0:l0.length ≤ 1048576) (hl4:l4.length ≤ 1048576) (ht:xe l4 ≤ 1048576):Ev (fun k=>fc.f k l0 p v s l4) (Xn l0 p v s l4):=by
 unfold fc.f bh.f;simp only [List.length_nil,if_true];refine Ev.val ?_
 have no:∀ {r:Bool},r=false→Ev (fun k=>fc.j0 k true l0 p v s l4) r:=by
  intro r hr;subst hr;exact Ev.step (fun k=>by rw [fc.j0]) (Ev.pos rfl (Ev.now _))
 unfold Xn BC;cases hp:mz l0 p v with
 | false=>exact Ev.neg (by simp) (no (by simp))
 | true =>
  refine Ev.pos rfl (Ev.bind (Ev.here (dA _ _ _)) ?_);cases hv:Tl s v 1000 with
  | false=>exact Ev.neg (by simp) (no (by simp))
  | true =>
   refine Ev.pos rfl (Ev.bind (Ev.here (dA _ _ _)) ?_);cases hn:Tl (l4.length:Int) 1 300 with
   | false=>exact no (by simp)
   | true =>
    refine Ev.step (fun k=>by rw [fc.j0]) (Ev.neg (by simp) ?_);simp only [Bool.true_and];have key:=iO (n:=l4.length) (R:=decide (xe l4 ≤ 1000)) (e:=false) (fun i=>er l0 s l4 (l4.getD i QK)=true) (fun i k=>fc.l0 k (xe (l4.take i):Int) l4 (l4.length:Int) (i:Int) l0 p v s l4) ?_ ?_ ?_
    ·have e:(bif LD l4.length (fun i=>er l0 s l4 (l4.getD i QK)=true) then decide (xe l4 ≤ 1000) else false)=(!(l4.any fun x=>!er l0 s l4 x) && decide (xe l4 ≤ 1000)):=by
      rw [TC];cases (!(l4.any fun x=>!er l0 s l4 x)) <;> rfl
     rw [e] at key
     simpa [xe] using key
    ·refine Ev.step (fun k=>by rw [fc.l0]) (Ev.neg (by omega) ?_);rw [List.take_length]
     have e:decide ((xe l4:Int) ≤ 1000)=decide (xe l4 ≤ 1000):=by
      rw [Bool.eq_iff_iff,decide_eq_true_iff,decide_eq_true_iff];omega
     rw [e];exact Ev.now _
    ·intro i hi hq r hr;refine Ev.step (fun k=>by rw [fc.l0]) (Ev.pos (by omega) (Ev.pos (by omega) (Ev.pos (by omega) ?_)));unfold Rj.f;have hq':Sk l0.length s l4.length (za l4 (i:Int)).f0 (za l4 (i:Int)).f1 (za l4 (i:Int)).f2 (za l4 (i:Int)).f3 (za l4 (i:Int)).f4=true:=hq;refine Ev.val (Ev.pos hq' ?_);have h1:=Rz l4 i hi;have h2:=mF l4 (i + 1);rw [Zg hi,Xd hi (by omega),Di (x:=(xe (l4.take i):Int) + (l4[i].f0.length:Int)) (by omega) (by omega),show (xe (l4.take i):Int) + (l4[i].f0.length:Int)=(xe (l4.take (i + 1)):Int) from by omega];exact hr
    ·intro i hi hq;refine Ev.step (fun k=>by rw [fc.l0]) (Ev.pos (by omega) (Ev.pos (by omega) (Ev.pos (by omega) ?_)));unfold Rj.f;exact Ev.val (Ev.neg hq (Ev.now _))
theorem yz (h0:l0.length ≤ 1048576) (hl4:l4.length ≤ 1048576) (ht:xe l4 ≤ 1048576):Ev (fun k=>mb.f k l0 p v s l4) (Xn l0 p v s l4):=by
 unfold mb.f
 have no:∀ {r:Bool},r=false→Ev (fun k=>mb.j1 k true l0 p v s l4) r:=by
  intro r hr;subst hr;exact Ev.step (fun k=>by rw [mb.j1]) (Ev.pos rfl (Ev.now _))
 have key:=iO (n:=l0.length) (R:=Tl (l0.length:Int) 1 4 && (Tl v 0 20 && (Tl p 0 6 && (decide (p ≤ v) && (Tl s v 1000 && (Tl (l4.length:Int) 1 300 && (!(l4.any fun x=>!er l0 s l4 x) && decide (xe l4 ≤ 1000)))))))) (e:=false) (fun i=>Tl (l0.getD i 0) 1 16=true) (fun i k=>mb.l0 k (i:Int) l0 p v s l4) ?_ ?_ ?_
 ·have e:(bif LD l0.length (fun i=>Tl (l0.getD i 0) 1 16=true) then (Tl (l0.length:Int) 1 4 && (Tl v 0 20 && (Tl p 0 6 && (decide (p ≤ v) && (Tl s v 1000 && (Tl (l4.length:Int) 1 300 && (!(l4.any fun x=>!er l0 s l4 x) && decide (xe l4 ≤ 1000)))))))) else false)=Xn l0 p v s l4:=by
   rw [TC l0 0 (fun x=>Tl x 1 16)];unfold Xn BC mz;rw [Bool.eq_iff_iff];cases (!(l0.any fun x=>!Tl x 1 16))
   ·simp
   ·simp only [cond_true,Bool.and_eq_true,Tl,decide_eq_true_eq,and_assoc,true_and]
    constructor
    ·rintro ⟨h1,h2,h3,h4,h5,h6,h7,h8⟩;refine ⟨h1,h2,h5,?_,h4,h8⟩
     split <;> omega
    ·rintro ⟨h1,h2,h5,h6,h4,h7,h8,h9⟩;refine ⟨h1,h2,?_⟩
     split at h6 <;> exact ⟨by omega,by omega,by omega,by omega,by omega,h7,h8,h9⟩
  rw [e] at key;exact key
 ·refine Ev.step (fun k=>by rw [mb.l0]) (Ev.neg (by omega) ?_);refine Ev.bind (Cg _ _ _) ?_;cases hb0:Tl (l0.length:Int) 1 4 with
  | false=>exact Ev.neg (by simp) (no (by simp))
  | true =>
   refine Ev.pos rfl (Ev.bind (Cg _ _ _) ?_);cases PC:Tl v 0 20 with
   | false=>exact Ev.neg (by simp) (no (by simp))
   | true =>
    refine Ev.pos rfl (Ev.bind (Cg _ _ _) ?_);cases Uj:Tl p 0 6 with
    | false=>exact Ev.neg (by simp) (no (by simp))
    | true =>
     refine Ev.pos rfl ?_
     by_cases hpv:p > v
     ·refine Ev.pos hpv (no ?_);rw [decide_eq_false (show ¬ p ≤ v from by omega)];simp
     ·refine Ev.neg hpv (Ev.bind (Cg _ _ _) ?_);rw [decide_eq_true (show p ≤ v from by omega)];cases hb3:Tl s v 1000 with
      | false=>exact Ev.neg (by simp) (no (by simp))
      | true =>
       refine Ev.pos rfl (Ev.bind (Cg _ _ _) ?_);cases hb4:Tl (l4.length:Int) 1 300 with
       | false=>exact no (by simp)
       | true =>
        refine Ev.step (fun k=>by rw [mb.j1]) (Ev.neg (by simp) ?_);simp only [Bool.true_and];have hs0:0 ≤ s∧s ≤ 1000:=by simp [Tl] at PC hb3;omega
        have key:=cm (r:=true) (n:=l4.length) (fun i=>xe (l4.take i) ≤ 1000→Ev (fun k=>mb.l1 k (xe (l4.take i):Int) (i:Int) l0 p v s l4) (!((l4.drop i).any fun x=>!er l0 s l4 x) && decide (xe l4 ≤ 1000))) ?_ ?_ 0 (by omega) (by simp [xe])
        ·rw [List.drop_zero] at key
         simpa [xe] using key
        ·intro h;rw [List.take_length] at h;refine Ev.step (fun k=>by rw [mb.l1]) (Ev.neg (by omega) ?_);rw [List.drop_length,decide_eq_true h];exact Ev.now _
        ·intro i hi ih h;have h1:=Rz l4 i hi;have h2:=mF l4 (i + 1);refine Ev.step (fun k=>by rw [mb.l1]) (Ev.pos (by omega) (Ev.pos (by omega) ?_));rw [Zg hi,Di (x:=(xe (l4.take i):Int) + (l4[i].f0.length:Int)) (by omega) (by omega),show (xe (l4.take i):Int) + (l4[i].f0.length:Int)=(xe (l4.take (i + 1)):Int) from by omega]
         have hd:((l4.drop i).any fun x=>!er l0 s l4 x)=(!er l0 s l4 l4[i] || (l4.drop (i + 1)).any fun x=>!er l0 s l4 x):=by
          rw [List.drop_eq_getElem_cons hi,List.any_cons]
         rw [hd]
         by_cases hgt:(xe (l4.take (i + 1)):Int) > 1000
         ·rw [decide_eq_false (show ¬ xe l4 ≤ 1000 from by omega),Bool.and_false];exact Ev.pos hgt (Ev.now _)
         ·refine Ev.neg hgt (Ev.bind (fO _ _ _ _ _ hs0.1 hs0.2 h0 hl4 (by omega)) ?_);cases hq:er l0 s l4 l4[i] with
          | false =>
           have hq':¬ Sk l0.length s l4.length l4[i].f0 l4[i].f1 l4[i].f2 l4[i].f3 l4[i].f4=true:=by
            have e:Sk l0.length s l4.length l4[i].f0 l4[i].f1 l4[i].f2 l4[i].f3 l4[i].f4=false:=hq;rw [e];simp
           exact Ev.neg hq' (Ev.now _)
          | true =>
           have hq':Sk l0.length s l4.length l4[i].f0 l4[i].f1 l4[i].f2 l4[i].f3 l4[i].f4=true:=hq;refine Ev.pos hq' ?_;rw [Xd hi (by omega),Bool.not_true,Bool.false_or];exact ih (by omega)
 ·intro i hi hq r hr;refine Ev.step (fun k=>by rw [mb.l0]) (Ev.pos (by omega) (Ev.pos (by omega) ?_));refine Ev.bind (Cg _ _ _) (Ev.pos hq ?_);rw [Xd hi (by omega)];exact hr
 ·intro i hi hq;refine Ev.step (fun k=>by rw [mb.l0]) (Ev.pos (by omega) (Ev.pos (by omega) ?_));exact Ev.bind (Cg _ _ _) (Ev.neg hq (Ev.now _))
end
end Go.Proofs.Ytkigbdceceeenaa.P
end
section
namespace Go.Proofs.Ytkigbdceceeenaa.P
open Go.RowKit Go.Proofs.Ma.Tb Go.Proofs.Ma.Gd Go.Proofs.Ma.De
set_option linter.unusedVariables false
set_option linter.unusedSimpArgs false
theorem Kj {l:List Int} {j:Nat} (hj:j < l.length):rd l (j:Int)=l[j]:=by simp [rd,List.getD_eq_getElem?_getD,hj]
def VL (b:Je):List Int:=if b.f1=0 then [b.f3] else if b.f1=1 then [b.f3,b.f4] else []
theorem BU (b:Je):om.f b.f0 b.f1 b.f2 b.f3 b.f4=some (VL b):=by
 unfold om.f VL
 by_cases h0:b.f1=0
 ·rw [if_pos h0,if_pos h0]
 ·rw [if_neg h0,if_neg h0]
  by_cases h1:b.f1=1
  ·rw [if_pos h1,if_pos h1]
  ·rw [if_neg h1,if_neg h1]
theorem AU (b:Je):Cl.f b.f0 b.f1 b.f2 b.f3 b.f4=some (VL b):=by
 unfold Cl.f VL
 by_cases h0:b.f1=0
 ·rw [if_pos h0,if_pos h0]
 ·rw [if_neg h0,if_neg h0]
  by_cases h1:b.f1=1
  ·rw [if_pos h1,if_pos h1]
  ·rw [if_neg h1,if_neg h1]
theorem UL (b:Je):(VL b).length ≤ 2:=by
 unfold VL
 by_cases h0:b.f1=0
 ·rw [if_pos h0];simp
 ·rw [if_neg h0]
  by_cases h1:b.f1=1
  ·rw [if_pos h1];simp
  ·rw [if_neg h1];simp
def Vs (bs:List Je) (i:Nat):List Int:=VL (za bs (i:Int))
def SB (bs:List Je):Prop:=0 < bs.length∧bs.length ≤ 1048576∧∀ i,i < bs.length→∀ j ∈ Vs bs i,0 ≤ j∧j < (bs.length:Int)
theorem qO {l0:List Int} {p v s:Int} {bs:List Je} (h:Xn l0 p v s bs=true):SB bs:=by
 unfold Xn at h;simp only [Bool.and_eq_true] at h;obtain ⟨h1,h2,-⟩:=h;have hh:=zC h1;refine ⟨by omega,by omega,fun i hi j hj=>?_⟩
 have hb:er l0 s bs bs[i]=true:=by
  simp only [Bool.not_eq_true',List.any_eq_false] at h2;have:=h2 _ (List.getElem_mem hi)
  simpa using this
 unfold er Sk at hb;simp only [Bool.and_eq_true] at hb;obtain ⟨-,hb⟩:=hb;unfold Vs at hj;rw [Zg hi] at hj;unfold VL at hj
 by_cases h0:bs[i].f1=0
 ·rw [if_pos h0] at hj hb;simp only [Bool.and_eq_true,Tl,decide_eq_true_eq] at hb;rw [List.mem_singleton] at hj;subst hj;omega
 ·rw [if_neg h0] at hj hb
  by_cases h1:bs[i].f1=1
  ·rw [if_pos h1] at hj hb;simp only [Bool.and_eq_true,Tl,decide_eq_true_eq] at hb;simp only [List.mem_cons,List.not_mem_nil,or_false] at hj
   rcases hj with hj|hj <;> subst hj <;> omega
  ·rw [if_neg h1] at hj;cases hj
def seen (s:List Bool) (j:Nat):Bool:=s.getD j false
theorem Ol (s:List Bool) (j:Nat):Vf false s (j:Int)=seen s j:=rfl
theorem Yl {s:List Bool} {j:Nat} (h:seen s j=true):j < s.length:=by
 unfold seen at h
 rcases Nat.lt_or_ge j s.length with h'|h'
 ·exact h'
 ·rw [List.getD_eq_getElem?_getD,List.getElem?_eq_none h'] at h;simp at h
def news (s:List Bool):Nat:=s.count false
def Shut (nx:Nat→List Int) (s:List Bool) (q:List Int) (i:Nat):Prop:=∀ j,seen s j=true→(j:Int) ∉ q→j ≠ i→∀ m ∈ nx j,seen s m.toNat=true
theorem Zz {s t:List Bool} (hl:s.length=t.length) (h:∀ j,seen s j=true ↔ seen t j=true):s=t:=by
 apply List.ext_getElem hl;intro i h1 h2;have:=h i;unfold seen at this;rw [List.getD_eq_getElem?_getD,List.getElem?_eq_getElem h1,List.getD_eq_getElem?_getD,List.getElem?_eq_getElem h2] at this;simp only [Option.getD_some] at this;exact Bool.eq_iff_iff.mpr this
theorem Iw (n j:Nat):seen (List.replicate n false) j=false:=by
 unfold seen;rw [List.getD_eq_getElem?_getD,List.getElem?_replicate]
 by_cases h:j < n
 ·rw [if_pos h];rfl
 ·rw [if_neg h];rfl
end Go.Proofs.Ytkigbdceceeenaa.P
end
