import Derived.Shelf.Abstract
import Derived.Test.YtkigbdceceeenaaQSpilled1
import Derived.Test.YtkigbdceceeenaaQSpilled6
import Derived.Outline
import Derived.Test.YtkigbdceceeenaaQSpilled5
import Derived.Test.YtkigbdceceeenaaQSpilled4
import Derived.RegionTactic
import Derived.Deep.QuietTactic
import Derived.BigQuiet
import Derived.Test.YtkigbdceceeenaaQSpilled2
import Derived.Test.YtkigbdceceeenaaQSpilled3
set_option maxHeartbeats 8000000
set_option maxRecDepth 100000
section
namespace Go.Proofs.Ytkigbdceceeenaa.P
open Go.RowKit Go.Proofs.Ma.Wb Go.Proofs.Ma.Jd Go.Proofs.Ma.Fe
set_option linter.unusedVariables false
set_option linter.unusedSimpArgs false
theorem HL (g:Nat) (lb:Array Value) (p:Int→Bool) (eg:∀ args w,(callFunc g args).run Try.prog w = .ok (.enter g args) w) (A0:Option Addr) (c0:Nat) (l0:List Int) (w:World) (Om:Kd.C (Kd.int .i64) w A0 l0.length l0) (hc0:l0.length ≤ c0)
  (hp:∀ (W:World) (x:Int),Below w.heap.size w W→Calls Try.prog g (#[(.int .i64 x)] ++ lb) W fun e w'=>e = .returned (.bool (p x))∧Below W.heap.size W w') :
  Calls Try.prog 115 #[.slice A0 l0.length c0,.func (.func g) #[] lb] w fun e w'=>(∃ i:Int,e = .returned (.int .i64 i)∧decide (0 ≤ i)=l0.any p)∧Below w.heap.size w w':=by
 have hmx:=Om.2.1;have Io:=ga.mk Om;have dN:=ga.mk hc0;have HP:=ga.mk hp;clear Om hc0 hp;go_enter Try.func115,Try.ntmps115;go_wp2
 go_loopg [5,8] l0.length (fun gg _ s8 wr=>∃ kk:Nat,kk ≤ l0.length∧l0.length - kk ≤ gg∧s8 = .int .i64 kk∧ga (Below w.heap.size w wr)∧ga ((l0.take kk).any p=false))
 case atStart=>exact ⟨0,Nat.zero_le _,by omega,rfl,⟨Below.refl _ w⟩,⟨by simp⟩⟩
 case round =>
  (try clear BW);(try clear HA);obtain ⟨kk,hkk,hg,rfl,BW,HA⟩:=hrel
  by_cases hlt:kk < l0.length
  ·have p1:0 ≤ (kk:Int):=by omega
   have q1:(kk:Int) < (l0.length:Int):=by omega
   obtain ⟨ad,e1,hx0⟩:=Kd.Rf Io.out (kk:Int) p1 q1;cases e1;simp only [Int.toNat_natCast] at hx0;replace hx0:=(BW.out.cell (World.block_lt_of_cell? w _ hx0)).trans hx0;have Yt:=HP.out wr (rd l0 (kk:Int)) BW.out;cases hq:p (rd l0 (kk:Int)) with
   | true =>
    rw [hq] at Yt;go_wp2_with (go_at_fn g;refine Yt.mono ?_;rintro e w1 ⟨rfl,qC⟩);go_ret;exact ⟨⟨_,rfl,by rw [tT (d:=0) hlt hq];simp⟩,BW.out.trans (qC.mono BW.out.size)⟩
   | false =>
    rw [hq] at Yt;go_wp2_with (go_at_fn g;refine Yt.mono ?_;rintro e w1 ⟨rfl,qC⟩)
    go_roundg (l0.length - (kk + 1))
    case measure=>omega
    case rel=>exact ⟨kk + 1,by omega,by omega,by go_num,⟨BW.out.trans (qC.mono BW.out.size)⟩,⟨Ey (d:=0) hlt HA.out hq⟩⟩
  ·have Qav:¬ (kk:Int) < (l0.length:Int):=by omega
   have he:kk=l0.length:=by omega
   subst he;go_wp2;go_ret;exact ⟨⟨_,rfl,by have h_:=HA.out;rw [List.take_length] at h_;rw [h_];simp⟩,BW.out⟩
theorem tC (g:Nat) (lb:Array Value) (p:Int→Bool) (eg:∀ args w,(callFunc g args).run Try.prog w = .ok (.enter g args) w) (A0:Option Addr) (c0:Nat) (l0:List Int) (w:World) (Om:Kd.C (Kd.int .i64) w A0 l0.length l0) (hc0:l0.length ≤ c0)
  (hp:∀ (W:World) (x:Int),Below w.heap.size w W→Calls Try.prog g (#[(.int .i64 x)] ++ lb) W fun e w'=>e = .returned (.bool (p x))∧Below W.heap.size W w') :
  Calls Try.prog 99 #[.slice A0 l0.length c0,.func (.func g) #[] lb] w fun e w'=>e = .returned (.bool (l0.any p))∧Below w.heap.size w w':=by
 have HI:=ga.mk (HL g lb p eg A0 c0 l0 w Om hc0 hp);clear Om hc0 hp;go_enter Try.func99,Try.ntmps99;go_wp2_with (go_at_call 115;refine HI.out.mono ?_;rintro e w1 ⟨⟨i,rfl,hi⟩,qC⟩;have HD:=ga.mk hi;clear hi);go_ret;exact ⟨by rw [← HD.out];first|rfl|simp,qC⟩
def mm (a b c:Int):Bool:=decide (b ≤ a) && decide (a ≤ c)
theorem Im (a b c:Int) (w:World):Calls Try.prog 55 #[.int .i64 a,.int .i64 b,.int .i64 c] w fun e w'=>e = .returned (.bool (mm a b c))∧Xc w w' :=
 Kg.calls a b c (mm a b c) w (by
  unfold Kg.f mm
  by_cases h:a ≥ b
  ·rw [if_pos h];have h':b ≤ a:=h;simp [h']
  ·rw [if_neg h];have h':¬ b ≤ a:=h
   simp [h'])
def Ny (l:List Int) (p v:Int):Bool:=mm (l.length:Int) 1 4 && !(l.any fun n=>!mm n 1 16) && mm p 0 (if v < 6 then v else 6) && decide (v ≤ 20)
theorem DL (W:World) (x:Int):Calls Try.prog 100 #[.int .i64 x] W fun e w'=>e = .returned (.bool (!mm x 1 16))∧Below W.heap.size W w':=by
 have HC:=ga.mk (Im x 1 16);generalize mm x 1 16=b at HC ⊢;go_enter Try.func100,Try.ntmps100;go_wp2_with (go_at_call 55;refine (HC.out _).mono ?_;rintro e w1 ⟨rfl,qC⟩;have HD:=ga.mk qC.below;clear qC);go_ret;exact ⟨rfl,HD.out⟩
theorem tK (p0 p1 p2 p3:Value) (A:Option Addr) (c:Nat) (w:World) :
  Calls Try.prog 101 #[.agg #[p0,p1,p2,p3],.slice A 0 c,.int .i64 0] w fun e w'=>e = .returned (.bool true)∧Below w.heap.size w w':=by
 go_enter Try.func101,Try.ntmps101;go_wp2
 go_loop [25] (fun i=>i = .int .i64 0) (fun _=>0)
 case atStart=>exact rfl
 case round =>
  obtain rfl:=hrel;go_wp2;go_ret;exact ⟨rfl,qa (qa (Below.refl _ _) _) _⟩
theorem pG (A0 A3:Option Addr) (c0 c3:Nat) (l0:List Int) (a1 a2:Int) (w:World) (Om:Kd.C (Kd.int .i64) w A0 l0.length l0) (hc0:l0.length ≤ c0) :
  Calls Try.prog 76 #[.agg #[.slice A0 l0.length c0,.int .i64 a1,.int .i64 a2,.slice A3 0 c3]] w fun e w'=>e = .returned (.bool (Ny l0 a1 a2))∧Below w.heap.size w w':=by
 have eg:=enters_of Try.func100 (by kernel_rfl) rfl;have hmx:=Om.2.1;have FG:=ga.mk (Im (l0.length:Int) 1 4);have pV:=ga.mk (Im a1 0 (if a2 < 6 then a2 else 6));have HF:=ga.mk (fun (W:World) (hb:Below w.heap.size w W)=>tC 100 #[] (fun n=>!mm n 1 16) eg A0 c0 l0 W (Kd.Ab Om hb) hc0 (fun W x _=>DL W x));clear Om hc0;unfold Ny
 by_cases h6:a2 < 6
 all_goals
  have hmin:min 6 a2=if a2 < 6 then a2 else 6:=by split <;> omega
  first|rw [if_pos h6] at pV hmin ⊢|rw [if_neg h6] at pV hmin ⊢
  cases qC:mm (l0.length:Int) 1 4 with
  | false =>
   go_enter Try.func76,Try.ntmps76;go_wp2_with (first|(go_at_call 55;refine (Im _ _ _ _).mono ?_;rintro e w1 ⟨rfl,⟨n,rfl⟩⟩));go_ret;exact ⟨rfl,ja (qa (Below.refl _ _) _) _⟩
  | true =>
   cases jj:(l0.any fun n=>!mm n 1 16) with
   | true =>
    rw [jj] at HF;go_enter Try.func76,Try.ntmps76;go_wp2_with (first|(go_at_call 55;refine (Im _ _ _ _).mono ?_;rintro e w1 ⟨rfl,⟨n,rfl⟩⟩)|(go_at_call 99;refine (HF.out _ (ja (qa (Below.refl _ _) _) _)).mono ?_;rintro e w1 ⟨rfl,hb⟩;have HB:=ga.mk (Na (ja (qa (Below.refl _ _) _) _) hb);clear hb));go_ret;exact ⟨rfl,HB.out⟩
   | false =>
    rw [jj] at HF;go_enter Try.func76,Try.ntmps76;go_wp2_with (first|(go_at_call 55;(with_reducible refine (Im _ _ _ _).mono ?_);rintro e w1 ⟨rfl,⟨n,rfl⟩⟩)|(go_at_call 99;(with_reducible refine (HF.out _ (ja (qa (Below.refl _ _) _) _)).mono ?_);rintro e w1 ⟨rfl,hb⟩;have HB:=ga.mk (Na (ja (qa (Below.refl _ _) _) _) hb);obtain ⟨S6,S4⟩:=l_ hb;have TN:=hb.size;simp at TN;clear hb)|(go_at_call 101;(with_reducible refine (tK _ _ _ _ _ _ _).mono ?_);rintro e w2 ⟨rfl,hb⟩;have uu:=ga.mk (Na (ja HB.out _) hb);clear hb))
    all_goals
     go_ret
     first
      | exact ⟨by simp [*],uu.out⟩
      | exact ⟨by simp [*],ja HB.out _⟩
def oh.f (Qa:List Int) (Ja:Int) (Ga:Int) (PN:List (BC)):Option Bool:=if PN.length=0 then some (Ny Qa Ja Ga) else none
theorem oh.calls (Wa:Option Addr) (Xa:Nat) (Qa:List Int) (Ja:Int) (Ga:Int) (Zad:Option Addr) (Fac:Nat) (PN:List (BC)) (r:Bool) (w:World) (Od:Kd.C (Kd.int .i64) w Wa Qa.length Qa) (Md:Qa.length ≤ Xa) (aaA:Kd.C Rau w Zad PN.length PN) (naC:PN.length ≤ Fac) (h:oh.f Qa Ja Ga PN=some r) :
  Calls Try.prog 76 #[.agg #[.slice Wa Qa.length Xa,.int .i64 Ja,.int .i64 Ga,.slice Zad PN.length Fac]] w fun e w'=>e = .returned (.bool r)∧Below w.heap.size w w':=by
 unfold oh.f at h
 split at h
 ·rename_i h0;injection h with h
  subst h;rw [h0];exact pG Wa Zad Xa Fac Qa Ja Ga w Od Md
 ·cases h
theorem Ev.pos {α:Type} {c:Prop} [Decidable c] {f g:Nat→Option α} {r:α} (h:c) (k:Ev f r):Ev (fun n=>if c then f n else g n) r:=Ev.congr (fun n=>if_pos h) k
theorem Ev.neg {α:Type} {c:Prop} [Decidable c] {f g:Nat→Option α} {r:α} (h:¬ c) (k:Ev g r):Ev (fun n=>if c then f n else g n) r:=Ev.congr (fun n=>if_neg h) k
theorem Ev.val {α β:Type} {a:α} {f:Nat→α→Option β} {r:β} (k:Ev (fun n=>f n a) r):Ev (fun n=>(some a).bind (f n)) r:=Ev.congr (fun n=>rfl) k
theorem Ev.here {α:Type} {o:Option α} {r:α} (h:o=some r):Ev (fun _=>o) r:=Ev.congr (fun n=>h) (Ev.now r)
theorem Ev.eq {α:Type} {g:Nat→Option α} {r r':α} (h:Ev g r) (h':Ev g r'):r=r':=by
 obtain ⟨K,h⟩:=h;obtain ⟨K',h'⟩:=h';have h1:=h (max K K') (by omega);rw [h' (max K K') (by omega)] at h1;exact (Option.some.inj h1).symm
theorem cj {x:Int} (h:-9223372036854775808 ≤ x) (h':x ≤ 9223372036854775807):wrap64 x=x:=by
 unfold wrap64;omega
theorem Rd {i n:Nat} (h:i < n) (hn:n ≤ 9223372036854775807):wrap64 ((i:Int) + 1)=((i + 1:Nat):Int):=by
 rw [cj (by omega) (by omega)];omega
theorem Gm {ρ:Type} {n:Nat} {r:ρ} (P:Nat→Prop) (hend:P n) (hstep:∀ i,i < n→P (i + 1)→P i):∀ i,i ≤ n→P i:=by
 have key:∀ d i,i + d=n→P i:=by
  intro d
  induction d with
  | zero =>
   intro i hi;have:i=n:=by omega
   exact this ▸ hend
  | succ d ih =>
   intro i hi;exact hstep i (by omega) (ih (i + 1) (by omega))
 intro i hi;exact key (n - i) i (by omega)
theorem pF {α:Type} {m:List α} {z:α} {i:Nat} (h:i < m.length):(m.take i ++ List.replicate (m.length - i) z).set i (m.getD i z)=m.take (i + 1) ++ List.replicate (m.length - (i + 1)) z:=by
 rw [List.set_append_right _ _ (by rw [List.length_take];omega),List.length_take,Nat.min_eq_left (by omega),Nat.sub_self];rw [show m.length - i=(m.length - (i + 1)) + 1 from by omega,List.replicate_succ,List.set_cons_zero,List.take_succ_eq_append_getElem h,List.append_assoc];simp [List.getD_eq_getElem?_getD,List.getElem?_eq_getElem h]
theorem VG {α:Type} {m:List α} {z:α}:m.take 0 ++ List.replicate (m.length - 0) z=List.replicate m.length z:=by simp
theorem qF {α:Type} {m:List α} {z:α}:m.take m.length ++ List.replicate (m.length - m.length) z=m:=by simp
theorem XV (l:List Int) (i:Nat):rd l (i:Int)=l.getD i 0:=rfl
def iota (m:Int) (n:Nat):List Int:=(List.range n).map fun (j:Nat)=>m + (j:Int)
theorem Ol (m:Int) (n:Nat):(iota m n).length=n:=by simp [iota]
theorem RG {m:Int} {n i:Nat} (h:i < n):(iota m n).getD i 0=m + i:=by simp [iota,List.getD_eq_getElem?_getD,h]
theorem xL {α:Type} {m l:List α} {z:α} {i:Nat} (hl:l.length=m.length) (h:i < m.length):(m.take i ++ l.drop i).set i (m.getD i z)=m.take (i + 1) ++ l.drop (i + 1):=by
 rw [List.set_append_right _ _ (by rw [List.length_take];omega),List.length_take,Nat.min_eq_left (by omega),Nat.sub_self];rw [List.drop_eq_getElem_cons (by omega),List.set_cons_zero,List.take_succ_eq_append_getElem h,List.append_assoc];simp [List.getD_eq_getElem?_getD,List.getElem?_eq_getElem h]
theorem dF (a b c:Int):Kg.f a b c=some (mm a b c):=by
 unfold Kg.f mm
 by_cases h:a ≥ b
 ·rw [if_pos h];have h':b ≤ a:=h;simp [h']
 ·rw [if_neg h];have h':¬ b ≤ a:=h;simp [h']
theorem YG (l:List Int) (hl:l.length ≤ 35184372088832):Ev (fun k=>je.f k l) l:=by
 refine Ev.congr (f:=fun k=>je.l0 k l (List.replicate l.length 0) 0) (fun k=>?_) ?_
 ·unfold je.f;rw [if_pos (by omega),if_pos (by omega)]
  rfl
 ·have key:=Gm (r:=l) (n:=l.length) (fun i=>Ev (fun k=>je.l0 k l (l.take i ++ List.replicate (l.length - i) 0) (i:Int)) l) ?_ ?_ 0 (by omega)
  ·simpa using key
  ·refine Ev.step (fun k=>by rw [je.l0]) ?_;refine Ev.neg (by omega) ?_;rw [qF];exact Ev.now l
  ·intro i hi h;refine Ev.step (fun k=>by rw [je.l0]) ?_;refine Ev.pos (by omega) (Ev.pos (by omega) (Ev.pos (by simp;omega) ?_));rw [Rd hi (by omega),XV,Int.toNat_natCast,pF hi];exact h
theorem rC (l:List Int) (hl:l.length ≤ 9223372036854775807):Ev (fun k=>Ld.f k l l) true:=by
 refine Ev.congr (f:=fun k=>Ld.l0 k l l 0) (fun k=>?_) ?_
 ·unfold Ld.f;rw [if_pos rfl]
 ·refine Gm (r:=true) (n:=l.length) (fun i=>Ev (fun k=>Ld.l0 k l l (i:Int)) true) ?_ ?_ 0 (by omega)
  ·refine Ev.step (fun k=>by rw [Ld.l0]) ?_;exact Ev.neg (by omega) (Ev.now _)
  ·intro i hi h;refine Ev.step (fun k=>by rw [Ld.l0]) ?_;refine Ev.pos (by omega) (Ev.pos (by omega) (Ev.pos (by omega) (Ev.pos rfl ?_)));rw [Rd hi hl];exact h
theorem G1 (l:List Int) (a:Int) (ha:0 ≤ a) (ha':a ≤ 1048576) (hl:l.length ≤ 9223372036854775807):∃ t,nj.f l a=some t∧t ≤ a∧(0 ≤ t→t + l.length=a):=by
 unfold nj.f;rw [cj (by omega) (by omega)]
 split
 ·exact ⟨-1,rfl,by omega,by omega⟩
 ·exact ⟨_,rfl,by omega,by omega⟩
def Wo (x:Np):Le:=⟨x.f0,x.f1,x.f2,x.f3,x.f4,x.f5,x.f6⟩
theorem iM (l:List Np) (hl:l.length ≤ 4398046511104):Ev (fun k=>Yd.f k l) (l.map Wo):=by
 refine Ev.congr (f:=fun k=>Yd.l0 k l (List.replicate l.length Ew) 0) (fun k=>?_) ?_
 ·unfold Yd.f;rw [if_pos (by omega),if_pos (by omega)]
  rfl
 ·have key:=Gm (r:=l.map Wo) (n:=l.length) (fun i=>Ev (fun k=>Yd.l0 k l ((l.map Wo).take i ++ List.replicate ((l.map Wo).length - i) Ew) (i:Int)) (l.map Wo)) ?_ ?_ 0 (by omega)
  ·rw [VG,List.length_map] at key;exact key
  ·refine Ev.step (fun k=>by rw [Yd.l0]) ?_;refine Ev.neg (by omega) ?_;have e:=qF (m:=l.map Wo) (z:=Ew);rw [List.length_map] at e;rw [List.length_map,e];exact Ev.now _
  ·intro i hi h;refine Ev.step (fun k=>by rw [Yd.l0]) ?_;refine Ev.pos (by omega) (Ev.pos (by omega) ?_);unfold qn.f;refine Ev.val (Ev.pos (by simp;omega) ?_)
   have hc:Wo (Vc l (i:Int))=(l.map Wo).getD i Ew:=by
    simp [Vc,List.getD_eq_getElem?_getD,hi]
   have hf:=pF (m:=l.map Wo) (z:=Ew) (i:=i) (by rw [List.length_map];exact hi);rw [← hc] at hf;rw [Rd hi (by omega),Int.toNat_natCast];have e:=hf ▸ h;exact e
theorem xM (l:List Le) (hl:l.length ≤ 9223372036854775807):Ev (fun k=>Ec.f k l l) true:=by
 refine Ev.congr (f:=fun k=>Ec.l0 k l l 0) (fun k=>?_) ?_
 ·unfold Ec.f;rw [if_pos rfl]
 ·refine Gm (r:=true) (n:=l.length) (fun i=>Ev (fun k=>Ec.l0 k l l (i:Int)) true) ?_ ?_ 0 (by omega)
  ·refine Ev.step (fun k=>by rw [Ec.l0]) ?_;exact Ev.neg (by omega) (Ev.now _)
  ·intro i hi h;refine Ev.step (fun k=>by rw [Ec.l0]) ?_;refine Ev.pos (by omega) (Ev.pos (by omega) (Ev.pos (by omega) ?_));unfold Zl.f;simp only [if_true];refine Ev.val (Ev.pos rfl ?_);rw [Rd hi hl];exact h
def AB (l:List Np):Nat:=(l.map fun x=>x.f6.size).sum
def rU (l:List Np):Nat:=l.length + AB l
def szB (l:List fz):Nat:=l.length + (l.map fun x=>rU x.f0).sum
theorem qy {l:List Np} {i:Nat} (h:i < l.length):Vc l (i:Int)=l[i]:=by simp [Vc,List.getD_eq_getElem?_getD,h]
theorem Lt {l:List fz} {i:Nat} (h:i < l.length):Je l (i:Int)=l[i]:=by simp [Je,List.getD_eq_getElem?_getD,h]
theorem kM (l:List Np) (a:Int) (ha:0 ≤ a) (ha':a ≤ 1048576) (hl:l.length ≤ 9223372036854775807) (ht:∀ x ∈ l,x.f6.size ≤ 9223372036854775807) :
  ∃ t,Ev (fun k=>qe.f k l a) t∧t ≤ a∧(0 ≤ t→t + rU l=a):=by
 have key:=Gm (ρ:=Unit) (r:=()) (n:=l.length) (fun i=>∀ a:Int,0 ≤ a→a ≤ 1048576→∃ t,Ev (fun k=>qe.l0 k l a (i:Int)) t∧t ≤ a∧(0 ≤ t→t + AB (l.drop i)=a)) ?_ ?_ 0 (by omega)
 ·unfold qe.f;rw [cj (by omega) (by omega)]
  by_cases h:a - (l.length:Int) < 0
  ·exact ⟨-1,Ev.pos h (Ev.now _),by omega,by omega⟩
  ·obtain ⟨t,e1,e2,e3⟩:=key (a - l.length) (by omega) (by omega);refine ⟨t,Ev.neg h e1,by omega,fun h0=>?_⟩;have:=e3 h0;rw [List.drop_zero] at this;unfold rU;omega
 ·intro a h0 h1;refine ⟨a,?_,by omega,?_⟩
  ·refine Ev.step (fun k=>by rw [qe.l0]) ?_;exact Ev.neg (by omega) (Ev.now _)
  ·intro _;rw [List.drop_length];simp [AB]
 ·intro i hi ih a h0 h1;have hx:=ht l[i] (List.getElem_mem hi)
  have hd:AB (l.drop i)=l[i].f6.size + AB (l.drop (i + 1)):=by
   rw [List.drop_eq_getElem_cons hi];simp only [AB,List.map_cons,List.sum_cons]
  by_cases h:a - (l[i].f6.size:Int) < 0
  ·refine ⟨-1,?_,by omega,by omega⟩;refine Ev.step (fun k=>by rw [qe.l0]) ?_;refine Ev.pos (by omega) (Ev.pos (by omega) ?_);rw [qy hi];unfold bk.f;rw [cj (by omega) (by omega),if_pos h];exact Ev.val (Ev.pos (by decide) (Ev.now _))
  ·obtain ⟨t,e1,e2,e3⟩:=ih (a - l[i].f6.size) (by omega) (by omega);refine ⟨t,?_,by omega,fun hh=>by have:=e3 hh;omega⟩;refine Ev.step (fun k=>by rw [qe.l0]) ?_;refine Ev.pos (by omega) (Ev.pos (by omega) ?_);rw [qy hi];unfold bk.f;rw [cj (by omega) (by omega),if_neg h];refine Ev.val (Ev.neg (by omega) ?_);rw [Rd hi hl];exact e1
theorem lM (l:List fz) (a:Int) (ha:0 ≤ a) (ha':a ≤ 1048576) (hl:l.length ≤ 9223372036854775807) (ht:∀ x ∈ l,x.f0.length ≤ 9223372036854775807∧∀ y ∈ x.f0,y.f6.size ≤ 9223372036854775807) :
  ∃ t,Ev (fun k=>Zd.f k l a) t∧t ≤ a∧(0 ≤ t→t + szB l=a):=by
 have key:=Gm (ρ:=Unit) (r:=()) (n:=l.length) (fun i=>∀ a:Int,0 ≤ a→a ≤ 1048576→∃ t,Ev (fun k=>Zd.l0 k l a (i:Int)) t∧t ≤ a∧(0 ≤ t→t + ((l.drop i).map fun x=>rU x.f0).sum=a)) ?_ ?_ 0 (by omega)
 ·unfold Zd.f;rw [cj (by omega) (by omega)]
  by_cases h:a - (l.length:Int) < 0
  ·exact ⟨-1,Ev.pos h (Ev.now _),by omega,by omega⟩
  ·obtain ⟨t,e1,e2,e3⟩:=key (a - l.length) (by omega) (by omega);refine ⟨t,Ev.neg h e1,by omega,fun h0=>?_⟩;have:=e3 h0;rw [List.drop_zero] at this;unfold szB;omega
 ·intro a h0 h1;refine ⟨a,?_,by omega,?_⟩
  ·refine Ev.step (fun k=>by rw [Zd.l0]) ?_;exact Ev.neg (by omega) (Ev.now _)
  ·intro _;rw [List.drop_length];simp
 ·intro i hi ih a h0 h1;have hx:=ht l[i] (List.getElem_mem hi)
  have hd:((l.drop i).map fun x=>rU x.f0).sum=rU l[i].f0 + ((l.drop (i + 1)).map fun x=>rU x.f0).sum:=by
   rw [List.drop_eq_getElem_cons hi];simp only [List.map_cons,List.sum_cons]
  obtain ⟨u,f1,f2,f3⟩:=kM l[i].f0 a h0 h1 hx.1 hx.2
  by_cases h:u < 0
  ·refine ⟨-1,?_,by omega,by omega⟩;refine Ev.step (fun k=>by rw [Zd.l0]) ?_;refine Ev.pos (by omega) (Ev.pos (by omega) ?_);rw [Lt hi];unfold ck.f;refine Ev.bind (Ev.bind f1 (Ev.pos h (Ev.now _))) ?_;exact Ev.pos (by decide) (Ev.now _)
  ·obtain ⟨t,e1,e2,e3⟩:=ih u (by omega) (by omega);have:=f3 (by omega);refine ⟨t,?_,by omega,fun hh=>by have:=e3 hh;omega⟩;refine Ev.step (fun k=>by rw [Zd.l0]) ?_;refine Ev.pos (by omega) (Ev.pos (by omega) ?_);rw [Lt hi];unfold ck.f;refine Ev.bind (Ev.bind f1 (Ev.neg h (Ev.now _))) ?_;refine Ev.neg (by omega) ?_;rw [Rd hi hl];exact e1
theorem YE {l:List Nat} {n:Nat} (h:n ∈ l):n ≤ l.sum:=by
 induction l with
 | nil=>cases h
 | cons a l ih =>
  rw [List.sum_cons];cases h with
  | head=>omega
  | tail _ h=>have:=ih h;omega
theorem wL {l:List fz} {n:Nat} (h:szB l ≤ n):l.length ≤ n∧∀ x ∈ l,x.f0.length ≤ n:=by
 unfold szB at h;refine ⟨by omega,fun x hx=>?_⟩;have:rU x.f0 ≤ (l.map fun x=>rU x.f0).sum:=YE (List.mem_map.mpr ⟨x,hx,rfl⟩);unfold rU at this h;omega
theorem kO (x0:List Int) (x1 x2 x3:Int) (x4:List fz) (a:Int) (ha:0 ≤ a) (ha':a ≤ 1048576) (h0:x0.length ≤ 9223372036854775807) (hl:x4.length ≤ 9223372036854775807) (ht:∀ x ∈ x4,x.f0.length ≤ 9223372036854775807∧∀ y ∈ x.f0,y.f6.size ≤ 9223372036854775807) :
  ∃ t,Ev (fun k=>qj.f k x0 x1 x2 x3 x4 a) t∧t ≤ a∧(0 ≤ t→t + x0.length + szB x4=a):=by
 obtain ⟨t,e1,e2,e3⟩:=G1 x0 a ha ha' h0;unfold qj.f;rw [e1];simp only [Option.bind_some]
 by_cases ht':t < 0
 ·exact ⟨-1,Ev.pos ht' (Ev.now _),by omega,by omega⟩
 ·obtain ⟨u,f1,f2,f3⟩:=lM x4 t (by omega) (by omega) hl ht
  by_cases hu:u < 0
  ·exact ⟨-1,Ev.neg ht' (Ev.bind f1 (Ev.pos hu (Ev.now _))),by omega,by omega⟩
  ·exact ⟨u,Ev.neg ht' (Ev.bind f1 (Ev.neg hu (Ev.now _))),by omega,fun _=>by have:=e3 (by omega);have:=f3 (by omega);omega⟩
def Sg (x:fz):He:=⟨x.f0.map Wo,x.f1,x.f2,x.f3,x.f4⟩
theorem jM (l:List fz) (hl:l.length ≤ 1048576) (hb:∀ x ∈ l,x.f0.length ≤ 1048576):Ev (fun k=>Qd.f k l) (l.map Sg):=by
 refine Ev.congr (f:=fun k=>Qd.l0 k l (List.replicate l.length dL) 0) (fun k=>?_) ?_
 ·unfold Qd.f;rw [if_pos (by omega),if_pos (by omega)]
  rfl
 ·have key:=Gm (r:=l.map Sg) (n:=l.length) (fun i=>Ev (fun k=>Qd.l0 k l ((l.map Sg).take i ++ List.replicate ((l.map Sg).length - i) dL) (i:Int)) (l.map Sg)) ?_ ?_ 0 (by omega)
  ·rw [VG,List.length_map] at key;exact key
  ·refine Ev.step (fun k=>by rw [Qd.l0]) ?_;refine Ev.neg (by omega) ?_;have e:=qF (m:=l.map Sg) (z:=dL);rw [List.length_map] at e;rw [List.length_map,e];exact Ev.now _
  ·intro i hi h;refine Ev.step (fun k=>by rw [Qd.l0]) ?_;refine Ev.pos (by omega) (Ev.pos (by omega) ?_);unfold sn.f;have hx:=hb l[i] (List.getElem_mem hi);rw [Lt hi];refine Ev.bind (Ev.bind (iM l[i].f0 (by omega)) (Ev.now _)) ?_;refine Ev.pos (by simp;omega) ?_
   have hc:Sg l[i]=(l.map Sg).getD i dL:=by
    simp [List.getD_eq_getElem?_getD,hi]
   have hf:=pF (m:=l.map Sg) (z:=dL) (i:=i) (by rw [List.length_map];exact hi);rw [← hc] at hf;rw [Rd hi (by omega),Int.toNat_natCast];have e:=hf ▸ h;exact e
theorem mh {l:List He} {i:Nat} (h:i < l.length):za l (i:Int)=l[i]:=by simp [za,List.getD_eq_getElem?_getD,h]
theorem Rk {l:List Le} {i:Nat} (h:i < l.length):Ea l (i:Int)=l[i]:=by simp [Ea,List.getD_eq_getElem?_getD,h]
theorem yM (l:List He) (hl:l.length ≤ 9223372036854775807) (hb:∀ x ∈ l,x.f0.length ≤ 9223372036854775807):Ev (fun k=>Oc.f k l l) true:=by
 refine Ev.congr (f:=fun k=>Oc.l0 k l l 0) (fun k=>?_) ?_
 ·unfold Oc.f;rw [if_pos rfl]
 ·refine Gm (r:=true) (n:=l.length) (fun i=>Ev (fun k=>Oc.l0 k l l (i:Int)) true) ?_ ?_ 0 (by omega)
  ·refine Ev.step (fun k=>by rw [Oc.l0]) ?_;exact Ev.neg (by omega) (Ev.now _)
  ·intro i hi h;refine Ev.step (fun k=>by rw [Oc.l0]) ?_;refine Ev.pos (by omega) (Ev.pos (by omega) (Ev.pos (by omega) ?_));unfold cm.f;rw [mh hi];refine Ev.bind (Ev.bind (xM l[i].f0 (hb _ (List.getElem_mem hi))) (Ev.pos rfl (Ev.pos rfl (Ev.pos rfl (Ev.pos rfl (Ev.pos rfl (Ev.now _))))))) (Ev.pos rfl ?_);rw [Rd hi hl];exact h
theorem jO (x0:List Int) (x1 x2 x3:Int) (x4:List fz) (h0:x0.length ≤ 1048576) (hl:x4.length ≤ 1048576) (hb:∀ x ∈ x4,x.f0.length ≤ 1048576):Ev (fun k=>Uh.f k x0 x1 x2 x3 x4) (x0,x1,x2,x3,x4.map Sg):=by
 unfold Uh.f;exact Ev.bind (YG x0 (by omega)) (Ev.bind (jM x4 hl hb) (Ev.now _))
theorem oO (x0:List Int) (x1 x2 x3:Int) (x4:List He) (h0:x0.length ≤ 9223372036854775807) (hl:x4.length ≤ 9223372036854775807) (hb:∀ x ∈ x4,x.f0.length ≤ 9223372036854775807):Ev (fun k=>ek.f k x0 x1 x2 x3 x4 x0 x1 x2 x3 x4) true:=by
 unfold ek.f;refine Ev.bind (rC x0 h0) ?_;refine Ev.pos rfl (Ev.pos rfl (Ev.pos rfl (Ev.pos rfl ?_)));exact Ev.bind (yM x4 hl hb) (Ev.pos rfl (Ev.now _))
attribute [local go_sem] Gi Xi Jj ak Sh Rh Yi Wi
def Mm.f (Qa:List (Le)) (Ja:Int) (Ga:Int) (Ia:Int) (Db:Int):Option (List Int):=if Ja=0 then (some (([Ia]:List Int))) else (if Ja=1 then (some (([Ia,Db]:List Int))) else (some ([]:List Int)))
theorem Mm.calls (Wa:Option Addr) (Xa:Nat) (Qa:List (Le)) (Ja:Int) (Ga:Int) (Ia:Int) (Db:Int) (r:List Int) (w:World) (Od:Kd.C Wk w Wa Qa.length Qa) (Md:Qa.length ≤ Xa) (h:Mm.f Qa Ja Ga Ia Db=some r) :
  Calls Try.prog 78 #[.agg #[.slice Wa Qa.length Xa,.int .i64 Ja,.int .i64 Ga,.int .i64 Ia,.int .i64 Db]] w fun e w'=>∃ wm:Value,e = .returned (wm)∧Kd.R (Kd.int .i64) 3 w' w.heap.size (fun _=>True) wm r∧Below w.heap.size w w':=by
 have JB:=Try.underlying59;have fe:=ga.mk Od;have ye:=ga.mk Md;clear Od Md;have HB:=ga.mk (Below.refl w.heap.size w);have H:(if Ja=0 then (some (([Ia]:List Int))) else (if Ja=1 then (some (([Ia,Db]:List Int))) else (some ([]:List Int))))=some r:=h;clear h
 by_cases c2:Ja=0
 ·rw [if_pos c2] at H;have fu:(Ja == 0)=true:=beq_iff_eq.mpr c2;have yw:(Ja != 0)=false:=bne_eq_false_iff_eq.mpr c2;clear c2;obtain ⟨Dd,kf⟩:∃ y_:List Int,y_=(([Ia]:List Int)):=⟨_,rfl⟩;replace H:(some Dd)=some r:=by first|(rw [kf];with_reducible exact H)|(have Td:=(Option.bind_some _ _).symm.trans H;rw [kf];with_reducible exact Td)|(have Td:=(Option.bind_some _ _).symm.trans H;with_reducible exact Td)|with_reducible exact H|(rw [kf];exact H)|exact H
  have Ci:=ga.mk kf;clear kf;obtain rfl:=Option.some.inj H;go_enter Try.func78,Try.ntmps78;go_wp2_with (first|((with_reducible refine qb (N:=1) rfl ?_);refine Ib ?hg (N:=1) ?hd (cs:=#[.slice Wa Qa.length Xa,.int .i64 Ja,.int .i64 Ga,.int .i64 Ia,.int .i64 Db]) (t:=59) ?hr ?_;(case hd=>rfl);(case hg=>rfl);(case hr=>first|(go_simp;done)|(go_simp;rfl));intro ya hg w3 Sb hb;have Cb:=ga.mk (Na CaH hb);have Eb:=ga.mk (Sb);have Rb:=ga.mk ((by rw [hg];exact (La CaH):w.heap.size ≤ ya));have Gc:=ga.mk ((by rw [hg];exact (La CaH):w.heap.size ≤ ya));clear HB;have HB:=Cb;have oa:=Eb;have Nd:=Rb;have Ta:=Gc;clear Cb Eb Rb Gc hb Sb hg;have mC:w3.cell? ⟨ya,0,none⟩=some (.slice Wa Qa.length Xa):=(ia oa.out 0).trans rfl;have lC:w3.cell? ⟨ya,1,none⟩=some (.int .i64 Ja):=(ia oa.out 1).trans rfl;have kC:w3.cell? ⟨ya,2,none⟩=some (.int .i64 Ga):=(ia oa.out 2).trans rfl;have jC:w3.cell? ⟨ya,3,none⟩=some (.int .i64 Ia):=(ia oa.out 3).trans rfl;have iC:w3.cell? ⟨ya,4,none⟩=some (.int .i64 Db):=(ia oa.out 4).trans rfl;have ZB:=aa oa.out 0;have YB:=aa oa.out 1;have XB:=aa oa.out 2;have WB:=aa oa.out 3;have VB:=aa oa.out 4)|((with_reducible refine qb (N:=9) rfl ?_);refine Kd.Vj (Kd.int .i64) _ 3 ?hg (N:=9) ?hd (xs:=([Ia]:List Int)) (inner:=[.int .i64 Ia]) (ok:=fun _=>True) (Di:=fun _=>True) ?hr ?hp (fun _ hk=>hk) trivial (Below.refl _ _) (Nat.le_refl _) (by simp) ?_;(case hd=>rfl);(case hg=>rfl);(case hr=>first|(go_simp;done)|(go_simp;rfl));(case hp=>exact (Sd.one (show Kd.M (Kd.int .i64) _ _ _ Ia [.int .i64 Ia] from rfl) (Sd.none _ _)));intro Sm w5 OL hb Wm Ye;clear Wm Ye;(first|rw [← Ci.out] at OL|(simp only [Int.reduceToNat] at OL;rw [← Ci.out] at OL));have Cb:=ga.mk (Kd.Wd OL (La BaH));have Eb:=ga.mk (Va (g:=ya) (o:=.cells #[.slice Wa Qa.length Xa,.int .i64 Ja,.int .i64 Ga,.int .i64 Ia,.int .i64 Db] 59 (0,0)) DaH hb);have Rb:=ga.mk (Na BaH hb);clear oa HB;have Cg:=Cb;have oa:=Eb;have HB:=Rb;clear Cb Eb Rb hb OL));go_ret;exact ⟨_,by first|rfl|(simp [Pa,Oa] <;> rfl)|(simp [*,Pa,Oa] <;> rfl),XaH,EaH⟩
 ·rw [if_neg c2] at H;have fu:(Ja == 0)=false:=beq_eq_false_iff_ne.mpr c2;have yw:(Ja != 0)=true:=bne_iff_ne.mpr c2
  by_cases c7:Ja=1
  ·rw [if_pos c7] at H;have qm:(Ja == 1)=true:=beq_iff_eq.mpr c7;have eu:(Ja != 1)=false:=bne_eq_false_iff_eq.mpr c7;clear c7;obtain ⟨ie,Ff⟩:∃ y_:List Int,y_=(([Ia,Db]:List Int)):=⟨_,rfl⟩;replace H:(some ie)=some r:=by first|(rw [Ff];with_reducible exact H)|(have Td:=(Option.bind_some _ _).symm.trans H;rw [Ff];with_reducible exact Td)|(have Td:=(Option.bind_some _ _).symm.trans H;with_reducible exact Td)|with_reducible exact H|(rw [Ff];exact H)|exact H
   have om:=ga.mk Ff;clear Ff;obtain rfl:=Option.some.inj H;go_enter Try.func78,Try.ntmps78;go_wp2_with (first|((with_reducible refine qb (N:=1) rfl ?_);refine Ib ?hg (N:=1) ?hd (cs:=#[.slice Wa Qa.length Xa,.int .i64 Ja,.int .i64 Ga,.int .i64 Ia,.int .i64 Db]) (t:=59) ?hr ?_;(case hd=>rfl);(case hg=>rfl);(case hr=>first|(go_simp;done)|(go_simp;rfl));intro ya hg w8 Sb hb;have Cb:=ga.mk (Na CaH hb);have Eb:=ga.mk (Sb);have Rb:=ga.mk ((by rw [hg];exact (La CaH):w.heap.size ≤ ya));have Gc:=ga.mk ((by rw [hg];exact (La CaH):w.heap.size ≤ ya));clear HB;have HB:=Cb;have oa:=Eb;have Nd:=Rb;have Ta:=Gc;clear Cb Eb Rb Gc hb Sb hg;have Qh:w8.cell? ⟨ya,0,none⟩=some (.slice Wa Qa.length Xa):=(ia oa.out 0).trans rfl;have Ph:w8.cell? ⟨ya,1,none⟩=some (.int .i64 Ja):=(ia oa.out 1).trans rfl;have Oh:w8.cell? ⟨ya,2,none⟩=some (.int .i64 Ga):=(ia oa.out 2).trans rfl;have Nh:w8.cell? ⟨ya,3,none⟩=some (.int .i64 Ia):=(ia oa.out 3).trans rfl;have Mh:w8.cell? ⟨ya,4,none⟩=some (.int .i64 Db):=(ia oa.out 4).trans rfl;have Lh:=aa oa.out 0;have Kh:=aa oa.out 1;have Jh:=aa oa.out 2;have Ih:=aa oa.out 3;have Hh:=aa oa.out 4)|((with_reducible refine qb (N:=16) rfl ?_);refine Kd.Vj (Kd.int .i64) _ 3 ?hg (N:=16) ?hd (xs:=([Ia,Db]:List Int)) (inner:=[.int .i64 Ia,.int .i64 Db]) (ok:=fun _=>True) (Di:=fun _=>True) ?hr ?hp (fun _ hk=>hk) trivial (Below.refl _ _) (Nat.le_refl _) (by simp) ?_;(case hd=>rfl);(case hg=>rfl);(case hr=>first|(go_simp;done)|(go_simp;rfl));(case hp=>exact (Sd.one (show Kd.M (Kd.int .i64) _ _ _ Ia [.int .i64 Ia] from rfl) (Sd.one (show Kd.M (Kd.int .i64) _ _ _ Db [.int .i64 Db] from rfl) (Sd.none _ _))));intro yB Yp Bq hb Wm Ye;clear Wm Ye;(first|rw [← om.out] at Bq|(simp only [Int.reduceToNat] at Bq;rw [← om.out] at Bq));have Cb:=ga.mk (Kd.Wd Bq (La BaH));have Eb:=ga.mk (Va (g:=ya) (o:=.cells #[.slice Wa Qa.length Xa,.int .i64 Ja,.int .i64 Ga,.int .i64 Ia,.int .i64 Db] 59 (0,0)) DaH hb);have Rb:=ga.mk (Na BaH hb);clear oa HB;have Dj:=Cb;have oa:=Eb;have HB:=Rb;clear Cb Eb Rb hb Bq));go_ret;exact ⟨_,by first|rfl|(simp [Pa,Oa] <;> rfl)|(simp [*,Pa,Oa] <;> rfl),jaI,EaH⟩
  ·rw [if_neg c7] at H;have qm:(Ja == 1)=false:=beq_eq_false_iff_ne.mpr c7;have eu:(Ja != 1)=true:=bne_iff_ne.mpr c7;obtain rfl:=Option.some.inj H;go_enter Try.func78,Try.ntmps78;go_wp2_with (first|((with_reducible refine qb (N:=1) rfl ?_);refine Ib ?hg (N:=1) ?hd (cs:=#[.slice Wa Qa.length Xa,.int .i64 Ja,.int .i64 Ga,.int .i64 Ia,.int .i64 Db]) (t:=59) ?hr ?_;(case hd=>rfl);(case hg=>rfl);(case hr=>first|(go_simp;done)|(go_simp;rfl));intro ya hg Xr Sb hb;have Cb:=ga.mk (Na CaH hb);have Eb:=ga.mk (Sb);have Rb:=ga.mk ((by rw [hg];exact (La CaH):w.heap.size ≤ ya));have Gc:=ga.mk ((by rw [hg];exact (La CaH):w.heap.size ≤ ya));clear HB;have HB:=Cb;have oa:=Eb;have Nd:=Rb;have Ta:=Gc;clear Cb Eb Rb Gc hb Sb hg;have yt:Xr.cell? ⟨ya,0,none⟩=some (.slice Wa Qa.length Xa):=(ia oa.out 0).trans rfl;have vt:Xr.cell? ⟨ya,1,none⟩=some (.int .i64 Ja):=(ia oa.out 1).trans rfl;have qt:Xr.cell? ⟨ya,2,none⟩=some (.int .i64 Ga):=(ia oa.out 2).trans rfl;have ot:Xr.cell? ⟨ya,3,none⟩=some (.int .i64 Ia):=(ia oa.out 3).trans rfl;have nt:Xr.cell? ⟨ya,4,none⟩=some (.int .i64 Db):=(ia oa.out 4).trans rfl;have Ss:=aa oa.out 0;have Rs:=aa oa.out 1;have Qs:=aa oa.out 2;have Ns:=aa oa.out 3;have Ms:=aa oa.out 4));go_ret;exact ⟨_,by first|rfl|(simp [Pa,Oa] <;> rfl)|(simp [*,Pa,Oa] <;> rfl),by first|exact Kd.eH _ _ _ _ _|exact Kd.t_ _ _ _ _ _|exact Kd.o_ _ _ _ _ _|exact Kd.r_ _ _ _ _ _|exact Kd.OM _ _ _ _ _,EaH⟩
theorem qG (g:Nat) (lb:Array Value) (p:Le→Bool) (eg:∀ args w,(callFunc g args).run Try.prog w = .ok (.enter g args) w) (A0:Option Addr) (c0:Nat) (l0:List Le) (w:World) (Om:Kd.C Wk w A0 l0.length l0) (hc0:l0.length ≤ c0)
  (hp:∀ (W:World) (x:Le),Below w.heap.size w W→Calls Try.prog g (#[(.agg #[.int .i64 x.f0,.int .i64 x.f1,.int .i64 x.f2,.int .i64 x.f3,.int .i64 x.f4,.int .i64 x.f5,.string x.f6])] ++ lb) W fun e w'=>e = .returned (.bool (p x))∧Below W.heap.size W w') :
  Calls Try.prog 120 #[.slice A0 l0.length c0,.func (.func g) #[] lb] w fun e w'=>(∃ i:Int,e = .returned (.int .i64 i)∧decide (0 ≤ i)=l0.any p)∧Below w.heap.size w w':=by
 have hmx:=Om.2.1;have Io:=ga.mk Om;have dN:=ga.mk hc0;have HP:=ga.mk hp;clear Om hc0 hp;go_enter Try.func120,Try.ntmps120;go_wp2
 go_loopg [5,8] l0.length (fun gg _ s8 wr=>∃ kk:Nat,kk ≤ l0.length∧l0.length - kk ≤ gg∧s8 = .int .i64 kk∧ga (Below w.heap.size w wr)∧ga ((l0.take kk).any p=false))
 case atStart=>exact ⟨0,Nat.zero_le _,by omega,rfl,⟨Below.refl _ w⟩,⟨by simp⟩⟩
 case round =>
  (try clear BW);(try clear HA);obtain ⟨kk,hkk,hg,rfl,BW,HA⟩:=hrel
  by_cases hlt:kk < l0.length
  ·have p1:0 ≤ (kk:Int):=by omega
   have q1:(kk:Int) < (l0.length:Int):=by omega
   obtain ⟨ad,e1,hx0,hx1,Lw,br,Tr,fQ,jL⟩:=Jm Io.out (kk:Int) p1 q1;cases e1;simp only [Int.toNat_natCast] at hx0 hx1 Lw br Tr fQ jL;replace hx0:=(BW.out.cell (World.block_lt_of_cell? w _ hx0)).trans hx0;replace hx1:=(BW.out.cell (World.block_lt_of_cell? w _ hx1)).trans hx1;replace Lw:=(BW.out.cell (World.block_lt_of_cell? w _ Lw)).trans Lw;replace br:=(BW.out.cell (World.block_lt_of_cell? w _ br)).trans br;replace Tr:=(BW.out.cell (World.block_lt_of_cell? w _ Tr)).trans Tr;replace fQ:=(BW.out.cell (World.block_lt_of_cell? w _ fQ)).trans fQ;replace jL:=(BW.out.cell (World.block_lt_of_cell? w _ jL)).trans jL;have Yt:=HP.out wr (Ea l0 (kk:Int)) BW.out;cases hq:p (Ea l0 (kk:Int)) with
   | true =>
    rw [hq] at Yt;go_wp2_with (go_at_fn g;refine Yt.mono ?_;rintro e w1 ⟨rfl,qC⟩);go_ret;exact ⟨⟨_,rfl,by rw [tT (d:=Ew) hlt hq];simp⟩,BW.out.trans (qC.mono BW.out.size)⟩
   | false =>
    rw [hq] at Yt;go_wp2_with (go_at_fn g;refine Yt.mono ?_;rintro e w1 ⟨rfl,qC⟩)
    go_roundg (l0.length - (kk + 1))
    case measure=>omega
    case rel=>exact ⟨kk + 1,by omega,by omega,by go_num,⟨BW.out.trans (qC.mono BW.out.size)⟩,⟨Ey (d:=Ew) hlt HA.out hq⟩⟩
  ·have Qav:¬ (kk:Int) < (l0.length:Int):=by omega
   have he:kk=l0.length:=by omega
   subst he;go_wp2;go_ret;exact ⟨⟨_,rfl,by have h_:=HA.out;rw [List.take_length] at h_;rw [h_];simp⟩,BW.out⟩
theorem az (g:Nat) (lb:Array Value) (p:Le→Bool) (eg:∀ args w,(callFunc g args).run Try.prog w = .ok (.enter g args) w) (A0:Option Addr) (c0:Nat) (l0:List Le) (w:World) (Om:Kd.C Wk w A0 l0.length l0) (hc0:l0.length ≤ c0)
  (hp:∀ (W:World) (x:Le),Below w.heap.size w W→Calls Try.prog g (#[(.agg #[.int .i64 x.f0,.int .i64 x.f1,.int .i64 x.f2,.int .i64 x.f3,.int .i64 x.f4,.int .i64 x.f5,.string x.f6])] ++ lb) W fun e w'=>e = .returned (.bool (p x))∧Below W.heap.size W w') :
  Calls Try.prog 102 #[.slice A0 l0.length c0,.func (.func g) #[] lb] w fun e w'=>e = .returned (.bool (l0.any p))∧Below w.heap.size w w':=by
 have HI:=ga.mk (qG g lb p eg A0 c0 l0 w Om hc0 hp);clear Om hc0 hp;go_enter Try.func102,Try.ntmps102;go_wp2_with (go_at_call 120;refine HI.out.mono ?_;rintro e w1 ⟨⟨i,rfl,hi⟩,qC⟩;have HD:=ga.mk hi;clear hi);go_ret;exact ⟨by rw [← HD.out];first|rfl|simp,qC⟩
def Nb.l0:Nat→List ByteArray→ByteArray→Int→Int→Option (Int)
 | 0,_,_,_,_=>none
 | k + 1,x0,x1,x7,x8=>if x8 < x7 then (if 0 ≤ x8 then (if x8 < (x0.length:Int) then (if x1.toList=(sg ByteArray.empty x0 x8).toList then (some x8) else (Nb.l0 k x0 x1 x7 (wrap64 (x8 + 1)))) else (none)) else (none)) else (some (-1))
def Nb.f (k:Nat) (l0:List ByteArray) (a1:ByteArray):Option (Int):=Nb.l0 k l0 a1 (l0.length:Int) 0
theorem Nb.UE:∀ k,(∀ y0 y1 y2 y3,zo (Nb.l0 k y0 y1 y2 y3) (Nb.l0 (k + 1) y0 y1 y2 y3))
 | 0=>fun _ _ _ _ r h=>by simp [Nb.l0] at h
 | k + 1=>by
  have xW:=Nb.UE k
  ·intro y0 y1 y2 y3;unfold Nb.l0
   repeat' first
   | (with_reducible exact xW _ _ _ _)
   | (with_reducible exact zo.refl _)
   | (with_reducible exact zo.none _)
   | (with_reducible refine zo.ite ?_ ?_)
   | (with_reducible refine zo.bind ?_ (fun _=>?_))
   | exact xW _ _ _ _
   | exact zo.none _
   | refine zo.ite ?_ ?_
   | refine zo.bind ?_ (fun _=>?_)
theorem Nb.mono:∀ a0 a1 k,zo (Nb.f k a0 a1) (Nb.f (k + 1) a0 a1):=by
 intro a0 a1 k;have xW:=Nb.UE k;unfold Nb.f
 repeat' first
   | (with_reducible exact xW _ _ _ _)
   | (with_reducible exact zo.refl _)
   | (with_reducible exact zo.none _)
   | (with_reducible refine zo.ite ?_ ?_)
   | (with_reducible refine zo.bind ?_ (fun _=>?_))
   | exact xW _ _ _ _
   | exact zo.none _
   | refine zo.ite ?_ ?_
   | refine zo.bind ?_ (fun _=>?_)
theorem Nb.calls (k:Nat) (A0:Option Addr) (c0:Nat) (l0:List ByteArray) (a1:ByteArray) (r:Int) (w:World) (Om:Kd.C Kd.string w A0 l0.length l0) (hc0:l0.length ≤ c0) (h:Nb.f k l0 a1=some r) :
  Calls Try.prog 109 #[.slice A0 l0.length c0,.string a1] w fun e w'=>e = .returned (.int .i64 r)∧Xc w w':=by
 have Io:=ga.mk Om;have dN:=ga.mk hc0;clear Om hc0;have H:(Nb.l0 k l0 a1 (l0.length:Int) 0)=some r:=h;clear h;have H':=ga.mk H;clear H;go_enter Try.func109,Try.ntmps109;go_wp2
 go_loopg [8] k (fun kq v8 w'=>∃ (Vr:Int),v8 = .int .i64 Vr∧ga (Nb.l0 kq l0 a1 (l0.length:Int) Vr=some r)∧ga (kq ≤ k)∧Xc w w')
 case atStart=>exact ⟨(0),IaH,H',⟨Nat.le_refl _⟩,OaH⟩
 case round =>
  clear H'
  try clear c1
  try clear p2
  (try clear HA);(try clear pg);obtain ⟨Vr,rfl,HA,pg,⟨m1,rfl⟩⟩:=hrel;cases gk with
  | zero=>exact absurd HA.out (by simp [Nb.l0])
  | succ k1 =>
   have H:=HA.out;clear HA;simp only [Nb.l0] at H
   by_cases c3:Vr < (l0.length:Int)
   ·rw [if_pos c3] at H;have Qi:decide (Vr < (l0.length:Int))=true:=decide_eq_true c3;clear c3
    by_cases c4:0 ≤ Vr
    ·rw [if_pos c4] at H;have Tl:decide (0 ≤ Vr)=true:=decide_eq_true c4;clear c4
     by_cases c5:Vr < (l0.length:Int)
     ·rw [if_pos c5] at H;have Nk:decide (Vr < (l0.length:Int))=true:=decide_eq_true c5;clear c5
      by_cases c6:a1.toList=(sg ByteArray.empty l0 Vr).toList
      ·rw [if_pos c6] at H;have Mp:(a1.toList == (sg ByteArray.empty l0 Vr).toList)=true:=beq_iff_eq.mpr c6;have jD:(a1.toList != (sg ByteArray.empty l0 Vr).toList)=false:=bne_eq_false_iff_eq.mpr c6;clear c6;obtain rfl:=Option.some.inj H;have wg:0 ≤ (Vr:Int):=Ua;have ug:Vr < (l0.length:Int):=Ua;obtain ⟨Ze,Sl,Ge⟩:=Kd.Ux Io.out Vr wg ug;cases Sl;replace wg:=eq_true wg;replace ug:=eq_true ug;go_wp2;go_ret;exact ⟨by first|rfl|(simp;done)|(simp [*];done),OaH⟩
      ·rw [if_neg c6] at H;have Mp:(a1.toList == (sg ByteArray.empty l0 Vr).toList)=false:=beq_eq_false_iff_ne.mpr c6;have jD:(a1.toList != (sg ByteArray.empty l0 Vr).toList)=true:=bne_iff_ne.mpr c6;have H':=ga.mk H;clear H;have wg:0 ≤ (Vr:Int):=Ua;have ug:Vr < (l0.length:Int):=Ua;obtain ⟨Ze,Sl,Ge⟩:=Kd.Ux Io.out Vr wg ug;cases Sl;replace wg:=eq_true wg;replace ug:=eq_true ug;go_wp2
       go_roundg k1
       case measure=>have:=pg.out;omega
       case rel=>exact ⟨(wrap64 (Vr + 1)),IaH,H',⟨by have:=pg.out;omega⟩,OaH⟩
     ·rw [if_neg c5] at H;exact absurd H (by simp)
    ·rw [if_neg c4] at H;exact absurd H (by simp)
   ·rw [if_neg c3] at H;have Qi:decide (Vr < (l0.length:Int))=false:=decide_eq_false c3;clear c3;obtain rfl:=Option.some.inj H;go_wp2;go_ret;exact ⟨by first|rfl|(simp;done)|(simp [*];done),OaH⟩
def jd.f (k:Nat) (l0:List ByteArray) (a1:ByteArray):Option (Bool):=(Nb.f k l0 a1).bind fun t101=>(some (decide (t101 ≥ 0)))
theorem jd.mono:∀ a0 a1 k,zo (jd.f k a0 a1) (jd.f (k + 1) a0 a1):=by
 intro a0 a1 k;unfold jd.f
 repeat' first
   | (with_reducible exact Nb.mono _ _ _)
   | (with_reducible exact zo.refl _)
   | (with_reducible exact zo.none _)
   | (with_reducible refine zo.ite ?_ ?_)
   | (with_reducible refine zo.bind ?_ (fun _=>?_))
   | exact Nb.mono _ _ _
   | exact zo.none _
   | refine zo.ite ?_ ?_
   | refine zo.bind ?_ (fun _=>?_)
theorem jd.calls (k:Nat) (A0:Option Addr) (c0:Nat) (l0:List ByteArray) (a1:ByteArray) (r:Bool) (w:World) (Om:Kd.C Kd.string w A0 l0.length l0) (hc0:l0.length ≤ c0) (h:jd.f k l0 a1=some r) :
  Calls Try.prog 126 #[.slice A0 l0.length c0,.string a1] w fun e w'=>e = .returned (.bool r)∧Xc w w':=by
 have Io:=ga.mk Om;have dN:=ga.mk hc0;clear Om hc0;have H:((Nb.f k l0 a1).bind fun t101=>(some (decide (t101 ≥ 0))))=some r:=h;clear h;replace H:=Option.bind_eq_some_iff.mp H;obtain ⟨t101,Zv,H⟩:=H;replace H:(some (decide (t101 ≥ 0)))=some r:=H;have A3:=ga.mk Zv;clear Zv;obtain rfl:=Option.some.inj H;go_enter Try.func126,Try.ntmps126;go_wp2_with (first|((with_reducible refine Bb (f:=109) rfl ?_);refine Tc (some 7) rfl rfl Try.func109 (by kernel_rfl) rfl #[.slice A0 l0.length c0,.string a1] rfl FaH ?_;(with_reducible refine (Nb.calls k _ _ l0 a1 t101 _ ?yc ?uc A3.out).mono ?_);(case yc=>repeat (first|exact Io.out|(with_reducible refine Kd.Lb ?_ _)|(with_reducible refine Kd.Kb ?_ _)|(with_reducible refine Kd.Xb ?_)));(case uc=>exact dN.out);rintro e w' ⟨rfl,⟨nd,rfl⟩⟩;refine ⟨_,rfl,?_⟩));go_ret;exact ⟨by first|rfl|(simp;done)|(simp [*];done),OaH⟩
def Ip.f (k:Nat) (a0:ByteArray):Option (Bool):=(jd.f k (([(⟨#[61,61]⟩:ByteArray),(⟨#[60]⟩:ByteArray),(⟨#[38]⟩:ByteArray),(⟨#[43]⟩:ByteArray),(⟨#[45]⟩:ByteArray),(⟨#[42]⟩:ByteArray)]:List ByteArray)) a0).bind fun t104=>(some t104)
theorem Ip.calls (k:Nat) (a0:ByteArray) (r:Bool) (w:World) (h:Ip.f k a0=some r) :
  Calls Try.prog 122 #[.string a0] w fun e w'=>e = .returned (.bool r)∧Below w.heap.size w w':=by
 have HB:=ga.mk (Below.refl w.heap.size w);have H:((jd.f k (([(⟨#[61,61]⟩:ByteArray),(⟨#[60]⟩:ByteArray),(⟨#[38]⟩:ByteArray),(⟨#[43]⟩:ByteArray),(⟨#[45]⟩:ByteArray),(⟨#[42]⟩:ByteArray)]:List ByteArray)) a0).bind fun t104=>(some t104))=some r:=h;clear h;obtain ⟨mg,xg⟩:∃ y_:List ByteArray,y_=(([(⟨#[61,61]⟩:ByteArray),(⟨#[60]⟩:ByteArray),(⟨#[38]⟩:ByteArray),(⟨#[43]⟩:ByteArray),(⟨#[45]⟩:ByteArray),(⟨#[42]⟩:ByteArray)]:List ByteArray)):=⟨_,rfl⟩;replace H:((jd.f k mg a0).bind fun t104=>(some t104))=some r:=by first|(rw [xg];with_reducible exact H)|(have Td:=(Option.bind_some _ _).symm.trans H;rw [xg];with_reducible exact Td)|(have Td:=(Option.bind_some _ _).symm.trans H;with_reducible exact Td)|with_reducible exact H|(rw [xg];exact H)|exact H
 have Am:=ga.mk xg;clear xg;replace H:=Option.bind_eq_some_iff.mp H;obtain ⟨t104,EV,H⟩:=H;replace H:(some t104)=some r:=H;have A2:=ga.mk EV;clear EV;obtain rfl:=Option.some.inj H;go_enter Try.func122,Try.ntmps122;go_wp2_with (first|((with_reducible refine qb (N:=3) rfl ?_);refine Kd.Vj Kd.string _ 9 ?hg (N:=3) ?hd (xs:=([(⟨#[61,61]⟩:ByteArray),(⟨#[60]⟩:ByteArray),(⟨#[38]⟩:ByteArray),(⟨#[43]⟩:ByteArray),(⟨#[45]⟩:ByteArray),(⟨#[42]⟩:ByteArray)]:List ByteArray)) (inner:=[.string (⟨#[61,61]⟩:ByteArray),.string (⟨#[60]⟩:ByteArray),.string (⟨#[38]⟩:ByteArray),.string (⟨#[43]⟩:ByteArray),.string (⟨#[45]⟩:ByteArray),.string (⟨#[42]⟩:ByteArray)]) (ok:=fun _=>True) (Di:=fun _=>True) ?hr ?hp (fun _ hk=>hk) trivial (Below.refl _ _) (Nat.le_refl _) (by simp) ?_;(case hd=>rfl);(case hg=>rfl);(case hr=>first|(go_simp;done)|(go_simp;rfl));(case hp=>exact (Sd.one (show Kd.M Kd.string _ _ _ (⟨#[61,61]⟩:ByteArray) [.string (⟨#[61,61]⟩:ByteArray)] from rfl) (Sd.one (show Kd.M Kd.string _ _ _ (⟨#[60]⟩:ByteArray) [.string (⟨#[60]⟩:ByteArray)] from rfl) (Sd.one (show Kd.M Kd.string _ _ _ (⟨#[38]⟩:ByteArray) [.string (⟨#[38]⟩:ByteArray)] from rfl) (Sd.one (show Kd.M Kd.string _ _ _ (⟨#[43]⟩:ByteArray) [.string (⟨#[43]⟩:ByteArray)] from rfl) (Sd.one (show Kd.M Kd.string _ _ _ (⟨#[45]⟩:ByteArray) [.string (⟨#[45]⟩:ByteArray)] from rfl) (Sd.one (show Kd.M Kd.string _ _ _ (⟨#[42]⟩:ByteArray) [.string (⟨#[42]⟩:ByteArray)] from rfl) (Sd.none _ _))))))));intro uL w3 NB hb Wm Ye;clear Wm Ye;(first|rw [← Am.out] at NB|(simp only [Int.reduceToNat] at NB;rw [← Am.out] at NB));have Cb:=ga.mk (Kd.Wd NB (La CaH));have Eb:=ga.mk (Na CaH hb);clear HB;have tu:=Cb;have HB:=Eb;clear Cb Eb hb NB;obtain ⟨Ao5,co5,eo5⟩:=Kd.Bd tu.out;subst eo5)|((with_reducible refine Bb (f:=126) rfl ?_);refine Tc (some 5) rfl rfl Try.func126 (by kernel_rfl) rfl #[.slice Ao5 mg.length co5,.string a0] rfl FaH ?_;(with_reducible refine (jd.calls k _ _ mg a0 t104 _ ?yc ?uc A2.out).mono ?_);(case yc=>repeat (first|exact (Kd.Vb tu.out).2.2|(with_reducible refine Kd.Lb ?_ _)|(with_reducible refine Kd.Kb ?_ _)|(with_reducible refine Kd.Xb ?_)));(case uc=>exact (Kd.Vb tu.out).2.1);rintro e w' ⟨rfl,⟨nd,rfl⟩⟩;refine ⟨_,rfl,?_⟩));go_ret;exact ⟨by first|rfl|(simp [Pa,Oa] <;> rfl)|(simp [*,Pa,Oa] <;> rfl),JaH⟩
theorem jaj (d:Nat) (w:World) (x0 y0:Int) (x1 y1:Int) (x2 y2:Int) (x3 y3:Int) (x4 y4:Int) (x5 y5:Int) (x6 y6:ByteArray) :
  (Op.equalIn (d + 2) 65 (.agg #[.int .i64 x0,.int .i64 x1,.int .i64 x2,.int .i64 x3,.int .i64 x4,.int .i64 x5,.string x6]) (.agg #[.int .i64 y0,.int .i64 y1,.int .i64 y2,.int .i64 y3,.int .i64 y4,.int .i64 y5,.string y6])).run Try.prog w = .ok (x0 == y0 && (x1 == y1 && (x2 == y2 && (x3 == y3 && (x4 == y4 && (x5 == y5 && (x6.toList == y6.toList))))))) w:=by
 refine Vab Try.underlying65 (by kernel_rfl) ?_;refine Zt (by rfl) (by go_simp;rfl) (by go_simp;rfl) (by go_simp) ?_;refine Zt (by rfl) (by go_simp;rfl) (by go_simp;rfl) (by go_simp) ?_;refine Zt (by rfl) (by go_simp;rfl) (by go_simp;rfl) (by go_simp) ?_;refine Zt (by rfl) (by go_simp;rfl) (by go_simp;rfl) (by go_simp) ?_;refine Zt (by rfl) (by go_simp;rfl) (by go_simp;rfl) (by go_simp) ?_;refine Zt (by rfl) (by go_simp;rfl) (by go_simp;rfl) (by go_simp) ?_;exact OX (by rfl) (by go_simp;rfl) (by go_simp;rfl) (by go_simp)
attribute [local go_sem high] jaj
def EN:List ByteArray:=[⟨#[61,61]⟩,⟨#[60]⟩,⟨#[38]⟩,⟨#[43]⟩,⟨#[45]⟩,⟨#[42]⟩]
def wz (s:ByteArray):Bool:=EN.any fun y=>decide (s.toList=y.toList)
theorem JU (s:ByteArray):Ip.f 8 s=some (wz s):=by
 unfold Ip.f jd.f Nb.f wz EN;simp only [Nb.l0,List.any_cons,List.any_nil]
 by_cases h0:s.toList=[61,61]
 ·simp [sg,h0]
 by_cases h1:s.toList=[60]
 ·simp [sg,h1,wrap64]
 by_cases h2:s.toList=[38]
 ·simp [sg,h2,wrap64]
 by_cases h3:s.toList=[43]
 ·simp [sg,h3,wrap64]
 by_cases h4:s.toList=[45]
 ·simp [sg,h4,wrap64]
 by_cases h5:s.toList=[42]
 ·simp [sg,h5,wrap64]
 simp [sg,h0,h1,h2,h3,h4,h5,wrap64]
theorem QN (s:ByteArray) (w:World):Calls Try.prog 122 #[.string s] w fun e w'=>e = .returned (.bool (wz s))∧Below w.heap.size w w':=Ip.calls 8 s (wz s) w (JU s)
def dm (slots s:Int):Bool:=decide (0 ≤ s) && decide (s < slots)
theorem Nl (B:Nat) (slots s:Int) (W:World) (hb3:W.cell? ⟨B,3,none⟩=some (.int .i64 slots)):Calls Try.prog 121 #[.int .i64 s,.pointer (some ⟨B,0,none⟩)] W fun e w'=>e = .returned (.bool (dm slots s))∧W=w':=by
 unfold dm
 by_cases h:0 ≤ s
 all_goals
  go_enter Try.func121,Try.ntmps121;go_wp2;go_ret;exact ⟨by simp [*];try omega,rfl⟩
theorem QU (A0 A4:Option Addr) (c0 c4 n0 n4:Nat) (p1 p2 slots d a b c n:Int) (t:ByteArray) (w:World) (hn0:n0 ≤ 9223372036854775807) (SG:n4 ≤ 9223372036854775807) :
  Calls Try.prog 104 #[.agg #[.slice A0 n0 c0,.int .i64 p1,.int .i64 p2,.int .i64 slots,.slice A4 n4 c4],.agg #[.int .i64 0,.int .i64 d,.int .i64 a,.int .i64 b,.int .i64 c,.int .i64 n,.string t]] w fun e w'=>e = .returned (.bool (dm slots d && (a == 0 && (b == 0 && (c == 0 && t.toList.isEmpty)))))∧Below w.heap.size w w':=by
 obtain ⟨W1,zg⟩:∃ W1,W1=(w.alloc (.cells #[.slice A0 n0 c0,.int .i64 p1,.int .i64 p2,.int .i64 slots,.slice A4 n4 c4] 30 (0,0))).alloc (.cells #[.int .i64 0,.int .i64 d,.int .i64 a,.int .i64 b,.int .i64 c,.int .i64 n,.string t] 65 (0,0)):=⟨_,rfl⟩;have HW:=ga.mk zg;have HB:=ga.mk (show Below w.heap.size w W1 from by rw [zg];exact qa (qa (Below.refl _ _) _) _);have hz:W1.heap.size=w.heap.size + 2:=by rw [zg];simp
 have oC:W1.cell? ⟨w.heap.size,3,none⟩=some (.int .i64 slots):=by rw [zg];simp
 have hx0:W1.cell? ⟨w.heap.size + 1,0,none⟩=some (.int .i64 0):=by rw [zg];simp
 have hx1:W1.cell? ⟨w.heap.size + 1,1,none⟩=some (.int .i64 d):=by rw [zg];simp
 have Lw:W1.cell? ⟨w.heap.size + 1,2,none⟩=some (.int .i64 a):=by rw [zg];simp
 have br:W1.cell? ⟨w.heap.size + 1,3,none⟩=some (.int .i64 b):=by rw [zg];simp
 have Tr:W1.cell? ⟨w.heap.size + 1,4,none⟩=some (.int .i64 c):=by rw [zg];simp
 have fQ:W1.cell? ⟨w.heap.size + 1,5,none⟩=some (.int .i64 n):=by rw [zg];simp
 have jL:W1.cell? ⟨w.heap.size + 1,6,none⟩=some (.string t):=by rw [zg];simp
 clear zg;go_enter Try.func104,Try.ntmps104;go_wp2_with (first|(go_at_call 55;(with_reducible refine (Im _ _ _ _).mono ?_);rintro e w1 ⟨rfl,⟨k1,rfl⟩⟩));rw [← HW.out];clear HW
 go_region
 all_goals go_wp2_with (first|(go_at_call 121;(refine (Nl _ slots _ _ ?hc).mono ?_);(case hc=>first|(go_simp;done)|(go_simp;rfl));rintro e w1 ⟨rfl,rfl⟩))
 all_goals go_ret
 all_goals exact ⟨by (try clear S6 S4 TN uu);simp [*],VaH⟩
theorem PU (A0 A4:Option Addr) (c0 c4 n0 n4:Nat) (p1 p2 slots d a b c n:Int) (t:ByteArray) (w:World) (hn0:n0 ≤ 9223372036854775807) (SG:n4 ≤ 9223372036854775807) :
  Calls Try.prog 104 #[.agg #[.slice A0 n0 c0,.int .i64 p1,.int .i64 p2,.int .i64 slots,.slice A4 n4 c4],.agg #[.int .i64 1,.int .i64 d,.int .i64 a,.int .i64 b,.int .i64 c,.int .i64 n,.string t]] w fun e w'=>e = .returned (.bool (dm slots d && dm slots a && (b == 0 && (c == 0 && (n == 0 && t.toList.isEmpty)))))∧Below w.heap.size w w':=by
 obtain ⟨W1,zg⟩:∃ W1,W1=(w.alloc (.cells #[.slice A0 n0 c0,.int .i64 p1,.int .i64 p2,.int .i64 slots,.slice A4 n4 c4] 30 (0,0))).alloc (.cells #[.int .i64 1,.int .i64 d,.int .i64 a,.int .i64 b,.int .i64 c,.int .i64 n,.string t] 65 (0,0)):=⟨_,rfl⟩;have HW:=ga.mk zg;have HB:=ga.mk (show Below w.heap.size w W1 from by rw [zg];exact qa (qa (Below.refl _ _) _) _);have hz:W1.heap.size=w.heap.size + 2:=by rw [zg];simp
 have oC:W1.cell? ⟨w.heap.size,3,none⟩=some (.int .i64 slots):=by rw [zg];simp
 have hx0:W1.cell? ⟨w.heap.size + 1,0,none⟩=some (.int .i64 1):=by rw [zg];simp
 have hx1:W1.cell? ⟨w.heap.size + 1,1,none⟩=some (.int .i64 d):=by rw [zg];simp
 have Lw:W1.cell? ⟨w.heap.size + 1,2,none⟩=some (.int .i64 a):=by rw [zg];simp
 have br:W1.cell? ⟨w.heap.size + 1,3,none⟩=some (.int .i64 b):=by rw [zg];simp
 have Tr:W1.cell? ⟨w.heap.size + 1,4,none⟩=some (.int .i64 c):=by rw [zg];simp
 have fQ:W1.cell? ⟨w.heap.size + 1,5,none⟩=some (.int .i64 n):=by rw [zg];simp
 have jL:W1.cell? ⟨w.heap.size + 1,6,none⟩=some (.string t):=by rw [zg];simp
 clear zg;go_enter Try.func104,Try.ntmps104;go_wp2_with (first|(go_at_call 55;(with_reducible refine (Im _ _ _ _).mono ?_);rintro e w1 ⟨rfl,⟨k1,rfl⟩⟩));rw [← HW.out];clear HW
 go_region
 all_goals go_wp2_with (first|(go_at_call 121;(refine (Nl _ slots _ _ ?hc).mono ?_);(case hc=>first|(go_simp;done)|(go_simp;rfl));rintro e w1 ⟨rfl,rfl⟩))
 all_goals go_ret
 all_goals exact ⟨by (try clear S6 S4 TN uu);simp [*],VaH⟩
theorem OU (A0 A4:Option Addr) (c0 c4 n0 n4:Nat) (p1 p2 slots d a b c n:Int) (t:ByteArray) (w:World) (hn0:n0 ≤ 9223372036854775807) (SG:n4 ≤ 9223372036854775807) :
  Calls Try.prog 104 #[.agg #[.slice A0 n0 c0,.int .i64 p1,.int .i64 p2,.int .i64 slots,.slice A4 n4 c4],.agg #[.int .i64 2,.int .i64 d,.int .i64 a,.int .i64 b,.int .i64 c,.int .i64 n,.string t]] w fun e w'=>e = .returned (.bool (dm slots d && dm slots a && dm slots b && wz t && (c == 0 && n == 0)))∧Below w.heap.size w w':=by
 obtain ⟨W1,zg⟩:∃ W1,W1=(w.alloc (.cells #[.slice A0 n0 c0,.int .i64 p1,.int .i64 p2,.int .i64 slots,.slice A4 n4 c4] 30 (0,0))).alloc (.cells #[.int .i64 2,.int .i64 d,.int .i64 a,.int .i64 b,.int .i64 c,.int .i64 n,.string t] 65 (0,0)):=⟨_,rfl⟩;have HW:=ga.mk zg;have HB:=ga.mk (show Below w.heap.size w W1 from by rw [zg];exact qa (qa (Below.refl _ _) _) _);have hz:W1.heap.size=w.heap.size + 2:=by rw [zg];simp
 have oC:W1.cell? ⟨w.heap.size,3,none⟩=some (.int .i64 slots):=by rw [zg];simp
 have hx0:W1.cell? ⟨w.heap.size + 1,0,none⟩=some (.int .i64 2):=by rw [zg];simp
 have hx1:W1.cell? ⟨w.heap.size + 1,1,none⟩=some (.int .i64 d):=by rw [zg];simp
 have Lw:W1.cell? ⟨w.heap.size + 1,2,none⟩=some (.int .i64 a):=by rw [zg];simp
 have br:W1.cell? ⟨w.heap.size + 1,3,none⟩=some (.int .i64 b):=by rw [zg];simp
 have Tr:W1.cell? ⟨w.heap.size + 1,4,none⟩=some (.int .i64 c):=by rw [zg];simp
 have fQ:W1.cell? ⟨w.heap.size + 1,5,none⟩=some (.int .i64 n):=by rw [zg];simp
 have jL:W1.cell? ⟨w.heap.size + 1,6,none⟩=some (.string t):=by rw [zg];simp
 clear zg;go_enter Try.func104,Try.ntmps104;go_wp2_with (first|(go_at_call 55;(with_reducible refine (Im _ _ _ _).mono ?_);rintro e w1 ⟨rfl,⟨k1,rfl⟩⟩));rw [← HW.out];clear HW
 go_region
 all_goals go_wp2_with (first|(go_at_call 121;(refine (Nl _ slots _ _ ?hc).mono ?_);(case hc=>first|(go_simp;done)|(go_simp;rfl));rintro e w1 ⟨rfl,rfl⟩)|(go_at_call 122;(with_reducible refine (QN _ _).mono ?_);rintro e w2 ⟨rfl,jj⟩;have uu:=ga.mk jj;obtain ⟨S6,S4⟩:=l_ jj;have TN:=jj.size;simp at TN;clear jj))
 all_goals go_ret
 all_goals exact ⟨by (try clear S6 S4 TN uu);simp [*],VaH⟩
theorem NU (A0 A4:Option Addr) (c0 c4 n0 n4:Nat) (p1 p2 slots d a b c n:Int) (t:ByteArray) (w:World) (hn0:n0 ≤ 9223372036854775807) (SG:n4 ≤ 9223372036854775807) :
  Calls Try.prog 104 #[.agg #[.slice A0 n0 c0,.int .i64 p1,.int .i64 p2,.int .i64 slots,.slice A4 n4 c4],.agg #[.int .i64 3,.int .i64 d,.int .i64 a,.int .i64 b,.int .i64 c,.int .i64 n,.string t]] w fun e w'=>e = .returned (.bool (dm slots d && dm slots b && mm n 0 ((n0:Int) - 1) && (dm slots a || a == -1) && (c == 0 && t.toList.isEmpty)))∧Below w.heap.size w w':=by
 obtain ⟨W1,zg⟩:∃ W1,W1=(w.alloc (.cells #[.slice A0 n0 c0,.int .i64 p1,.int .i64 p2,.int .i64 slots,.slice A4 n4 c4] 30 (0,0))).alloc (.cells #[.int .i64 3,.int .i64 d,.int .i64 a,.int .i64 b,.int .i64 c,.int .i64 n,.string t] 65 (0,0)):=⟨_,rfl⟩;have HW:=ga.mk zg;have HB:=ga.mk (show Below w.heap.size w W1 from by rw [zg];exact qa (qa (Below.refl _ _) _) _);have hz:W1.heap.size=w.heap.size + 2:=by rw [zg];simp
 have oC:W1.cell? ⟨w.heap.size,3,none⟩=some (.int .i64 slots):=by rw [zg];simp
 have hx0:W1.cell? ⟨w.heap.size + 1,0,none⟩=some (.int .i64 3):=by rw [zg];simp
 have hx1:W1.cell? ⟨w.heap.size + 1,1,none⟩=some (.int .i64 d):=by rw [zg];simp
 have Lw:W1.cell? ⟨w.heap.size + 1,2,none⟩=some (.int .i64 a):=by rw [zg];simp
 have br:W1.cell? ⟨w.heap.size + 1,3,none⟩=some (.int .i64 b):=by rw [zg];simp
 have Tr:W1.cell? ⟨w.heap.size + 1,4,none⟩=some (.int .i64 c):=by rw [zg];simp
 have fQ:W1.cell? ⟨w.heap.size + 1,5,none⟩=some (.int .i64 n):=by rw [zg];simp
 have jL:W1.cell? ⟨w.heap.size + 1,6,none⟩=some (.string t):=by rw [zg];simp
 clear zg;go_enter Try.func104,Try.ntmps104;go_wp2_with (first|(go_at_call 55;(with_reducible refine (Im _ _ _ _).mono ?_);rintro e w1 ⟨rfl,⟨k1,rfl⟩⟩));rw [← HW.out];clear HW
 go_region
 all_goals go_wp2_with (first|(go_at_call 121;(refine (Nl _ slots _ _ ?hc).mono ?_);(case hc=>first|(go_simp;done)|(go_simp;rfl));rintro e w1 ⟨rfl,rfl⟩))
 all_goals go_ret
 all_goals exact ⟨by (try clear S6 S4 TN uu);simp [*],VaH⟩
theorem MU (A0 A4:Option Addr) (c0 c4 n0 n4:Nat) (p1 p2 slots d a b c n:Int) (t:ByteArray) (w:World) (hn0:n0 ≤ 9223372036854775807) (SG:n4 ≤ 9223372036854775807) :
  Calls Try.prog 104 #[.agg #[.slice A0 n0 c0,.int .i64 p1,.int .i64 p2,.int .i64 slots,.slice A4 n4 c4],.agg #[.int .i64 4,.int .i64 d,.int .i64 a,.int .i64 b,.int .i64 c,.int .i64 n,.string t]] w fun e w'=>e = .returned (.bool (dm slots c && dm slots b && mm n 0 ((n0:Int) - 1) && (dm slots a || a == -1) && (d == 0 && t.toList.isEmpty)))∧Below w.heap.size w w':=by
 obtain ⟨W1,zg⟩:∃ W1,W1=(w.alloc (.cells #[.slice A0 n0 c0,.int .i64 p1,.int .i64 p2,.int .i64 slots,.slice A4 n4 c4] 30 (0,0))).alloc (.cells #[.int .i64 4,.int .i64 d,.int .i64 a,.int .i64 b,.int .i64 c,.int .i64 n,.string t] 65 (0,0)):=⟨_,rfl⟩;have HW:=ga.mk zg;have HB:=ga.mk (show Below w.heap.size w W1 from by rw [zg];exact qa (qa (Below.refl _ _) _) _);have hz:W1.heap.size=w.heap.size + 2:=by rw [zg];simp
 have oC:W1.cell? ⟨w.heap.size,3,none⟩=some (.int .i64 slots):=by rw [zg];simp
 have hx0:W1.cell? ⟨w.heap.size + 1,0,none⟩=some (.int .i64 4):=by rw [zg];simp
 have hx1:W1.cell? ⟨w.heap.size + 1,1,none⟩=some (.int .i64 d):=by rw [zg];simp
 have Lw:W1.cell? ⟨w.heap.size + 1,2,none⟩=some (.int .i64 a):=by rw [zg];simp
 have br:W1.cell? ⟨w.heap.size + 1,3,none⟩=some (.int .i64 b):=by rw [zg];simp
 have Tr:W1.cell? ⟨w.heap.size + 1,4,none⟩=some (.int .i64 c):=by rw [zg];simp
 have fQ:W1.cell? ⟨w.heap.size + 1,5,none⟩=some (.int .i64 n):=by rw [zg];simp
 have jL:W1.cell? ⟨w.heap.size + 1,6,none⟩=some (.string t):=by rw [zg];simp
 clear zg;go_enter Try.func104,Try.ntmps104;go_wp2_with (first|(go_at_call 55;(with_reducible refine (Im _ _ _ _).mono ?_);rintro e w1 ⟨rfl,⟨k1,rfl⟩⟩));rw [← HW.out];clear HW
 go_region
 all_goals go_wp2_with (first|(go_at_call 121;(refine (Nl _ slots _ _ ?hc).mono ?_);(case hc=>first|(go_simp;done)|(go_simp;rfl));rintro e w1 ⟨rfl,rfl⟩))
 all_goals go_ret
 all_goals exact ⟨by (try clear S6 S4 TN uu);simp [*],VaH⟩
theorem LU (A0 A4:Option Addr) (c0 c4 n0 n4:Nat) (p1 p2 slots d a b c n:Int) (t:ByteArray) (w:World) (hn0:n0 ≤ 9223372036854775807) (SG:n4 ≤ 9223372036854775807) :
  Calls Try.prog 104 #[.agg #[.slice A0 n0 c0,.int .i64 p1,.int .i64 p2,.int .i64 slots,.slice A4 n4 c4],.agg #[.int .i64 5,.int .i64 d,.int .i64 a,.int .i64 b,.int .i64 c,.int .i64 n,.string t]] w fun e w'=>e = .returned (.bool (dm slots d && (a == 0 && (b == 0 && (c == 0 && (n == 0 && t.toList.isEmpty))))))∧Below w.heap.size w w':=by
 obtain ⟨W1,zg⟩:∃ W1,W1=(w.alloc (.cells #[.slice A0 n0 c0,.int .i64 p1,.int .i64 p2,.int .i64 slots,.slice A4 n4 c4] 30 (0,0))).alloc (.cells #[.int .i64 5,.int .i64 d,.int .i64 a,.int .i64 b,.int .i64 c,.int .i64 n,.string t] 65 (0,0)):=⟨_,rfl⟩;have HW:=ga.mk zg;have HB:=ga.mk (show Below w.heap.size w W1 from by rw [zg];exact qa (qa (Below.refl _ _) _) _);have hz:W1.heap.size=w.heap.size + 2:=by rw [zg];simp
 have oC:W1.cell? ⟨w.heap.size,3,none⟩=some (.int .i64 slots):=by rw [zg];simp
 have hx0:W1.cell? ⟨w.heap.size + 1,0,none⟩=some (.int .i64 5):=by rw [zg];simp
 have hx1:W1.cell? ⟨w.heap.size + 1,1,none⟩=some (.int .i64 d):=by rw [zg];simp
 have Lw:W1.cell? ⟨w.heap.size + 1,2,none⟩=some (.int .i64 a):=by rw [zg];simp
 have br:W1.cell? ⟨w.heap.size + 1,3,none⟩=some (.int .i64 b):=by rw [zg];simp
 have Tr:W1.cell? ⟨w.heap.size + 1,4,none⟩=some (.int .i64 c):=by rw [zg];simp
 have fQ:W1.cell? ⟨w.heap.size + 1,5,none⟩=some (.int .i64 n):=by rw [zg];simp
 have jL:W1.cell? ⟨w.heap.size + 1,6,none⟩=some (.string t):=by rw [zg];simp
 clear zg;go_enter Try.func104,Try.ntmps104;go_wp2_with (first|(go_at_call 55;(with_reducible refine (Im _ _ _ _).mono ?_);rintro e w1 ⟨rfl,⟨k1,rfl⟩⟩));rw [← HW.out];clear HW
 go_region
 all_goals go_wp2_with (first|(go_at_call 121;(refine (Nl _ slots _ _ ?hc).mono ?_);(case hc=>first|(go_simp;done)|(go_simp;rfl));rintro e w1 ⟨rfl,rfl⟩))
 all_goals go_ret
 all_goals exact ⟨by (try clear S6 S4 TN uu);simp [*],VaH⟩
theorem KU (A0 A4:Option Addr) (c0 c4 n0 n4:Nat) (p1 p2 slots d a b c n:Int) (t:ByteArray) (w:World) (hn0:n0 ≤ 9223372036854775807) (SG:n4 ≤ 9223372036854775807) :
  Calls Try.prog 104 #[.agg #[.slice A0 n0 c0,.int .i64 p1,.int .i64 p2,.int .i64 slots,.slice A4 n4 c4],.agg #[.int .i64 6,.int .i64 d,.int .i64 a,.int .i64 b,.int .i64 c,.int .i64 n,.string t]] w fun e w'=>e = .returned (.bool (dm slots a && (d == 0 && (b == 0 && (c == 0 && (n == 0 && t.toList.isEmpty))))))∧Below w.heap.size w w':=by
 obtain ⟨W1,zg⟩:∃ W1,W1=(w.alloc (.cells #[.slice A0 n0 c0,.int .i64 p1,.int .i64 p2,.int .i64 slots,.slice A4 n4 c4] 30 (0,0))).alloc (.cells #[.int .i64 6,.int .i64 d,.int .i64 a,.int .i64 b,.int .i64 c,.int .i64 n,.string t] 65 (0,0)):=⟨_,rfl⟩;have HW:=ga.mk zg;have HB:=ga.mk (show Below w.heap.size w W1 from by rw [zg];exact qa (qa (Below.refl _ _) _) _);have hz:W1.heap.size=w.heap.size + 2:=by rw [zg];simp
 have oC:W1.cell? ⟨w.heap.size,3,none⟩=some (.int .i64 slots):=by rw [zg];simp
 have hx0:W1.cell? ⟨w.heap.size + 1,0,none⟩=some (.int .i64 6):=by rw [zg];simp
 have hx1:W1.cell? ⟨w.heap.size + 1,1,none⟩=some (.int .i64 d):=by rw [zg];simp
 have Lw:W1.cell? ⟨w.heap.size + 1,2,none⟩=some (.int .i64 a):=by rw [zg];simp
 have br:W1.cell? ⟨w.heap.size + 1,3,none⟩=some (.int .i64 b):=by rw [zg];simp
 have Tr:W1.cell? ⟨w.heap.size + 1,4,none⟩=some (.int .i64 c):=by rw [zg];simp
 have fQ:W1.cell? ⟨w.heap.size + 1,5,none⟩=some (.int .i64 n):=by rw [zg];simp
 have jL:W1.cell? ⟨w.heap.size + 1,6,none⟩=some (.string t):=by rw [zg];simp
 clear zg;go_enter Try.func104,Try.ntmps104;go_wp2_with (first|(go_at_call 55;(with_reducible refine (Im _ _ _ _).mono ?_);rintro e w1 ⟨rfl,⟨k1,rfl⟩⟩));rw [← HW.out];clear HW
 go_region
 all_goals go_wp2_with (first|(go_at_call 121;(refine (Nl _ slots _ _ ?hc).mono ?_);(case hc=>first|(go_simp;done)|(go_simp;rfl));rintro e w1 ⟨rfl,rfl⟩))
 all_goals go_ret
 all_goals exact ⟨by (try clear S6 S4 TN uu);simp [*],VaH⟩
theorem RN (A0 A4:Option Addr) (c0 c4 n0 n4:Nat) (p1 p2 slots d a b c n:Int) (t:ByteArray) (w:World) (hn0:n0 ≤ 9223372036854775807) (SG:n4 ≤ 9223372036854775807) (o:Int) (h0:(o == 0)=false) (h1:(o == 1)=false) (h2:(o == 2)=false) (h3:(o == 3)=false) (h4:(o == 4)=false) (h5:(o == 5)=false) (h6:(o == 6)=false) :
  Calls Try.prog 104 #[.agg #[.slice A0 n0 c0,.int .i64 p1,.int .i64 p2,.int .i64 slots,.slice A4 n4 c4],.agg #[.int .i64 o,.int .i64 d,.int .i64 a,.int .i64 b,.int .i64 c,.int .i64 n,.string t]] w fun e w'=>e = .returned (.bool (false))∧Below w.heap.size w w':=by
 obtain ⟨W1,zg⟩:∃ W1,W1=(w.alloc (.cells #[.slice A0 n0 c0,.int .i64 p1,.int .i64 p2,.int .i64 slots,.slice A4 n4 c4] 30 (0,0))).alloc (.cells #[.int .i64 o,.int .i64 d,.int .i64 a,.int .i64 b,.int .i64 c,.int .i64 n,.string t] 65 (0,0)):=⟨_,rfl⟩;have HW:=ga.mk zg;have HB:=ga.mk (show Below w.heap.size w W1 from by rw [zg];exact qa (qa (Below.refl _ _) _) _);have hz:W1.heap.size=w.heap.size + 2:=by rw [zg];simp
 have oC:W1.cell? ⟨w.heap.size,3,none⟩=some (.int .i64 slots):=by rw [zg];simp
 have hx0:W1.cell? ⟨w.heap.size + 1,0,none⟩=some (.int .i64 o):=by rw [zg];simp
 have hx1:W1.cell? ⟨w.heap.size + 1,1,none⟩=some (.int .i64 d):=by rw [zg];simp
 have Lw:W1.cell? ⟨w.heap.size + 1,2,none⟩=some (.int .i64 a):=by rw [zg];simp
 have br:W1.cell? ⟨w.heap.size + 1,3,none⟩=some (.int .i64 b):=by rw [zg];simp
 have Tr:W1.cell? ⟨w.heap.size + 1,4,none⟩=some (.int .i64 c):=by rw [zg];simp
 have fQ:W1.cell? ⟨w.heap.size + 1,5,none⟩=some (.int .i64 n):=by rw [zg];simp
 have jL:W1.cell? ⟨w.heap.size + 1,6,none⟩=some (.string t):=by rw [zg];simp
 clear zg;go_enter Try.func104,Try.ntmps104;go_wp2_with (first|(go_at_call 55;(with_reducible refine (Im _ _ _ _).mono ?_);rintro e w1 ⟨rfl,⟨k1,rfl⟩⟩));rw [← HW.out];clear HW
 go_region
 all_goals go_wp2_with (first|(go_at_call 121;(refine (Nl _ slots _ _ ?hc).mono ?_);(case hc=>first|(go_simp;done)|(go_simp;rfl));rintro e w1 ⟨rfl,rfl⟩))
 all_goals go_ret
 all_goals exact ⟨by (try clear S6 S4 TN uu);simp [*],VaH⟩
def vn (n0:Nat) (slots:Int) (o d a b c n:Int) (t:ByteArray):Bool :=
 if o=0 then dm slots d && (a == 0 && (b == 0 && (c == 0 && t.toList.isEmpty)))
 else if o=1 then dm slots d && dm slots a && (b == 0 && (c == 0 && (n == 0 && t.toList.isEmpty)))
 else if o=2 then dm slots d && dm slots a && dm slots b && wz t && (c == 0 && n == 0)
 else if o=3 then dm slots d && dm slots b && mm n 0 ((n0:Int) - 1) && (dm slots a || a == -1) && (c == 0 && t.toList.isEmpty)
 else if o=4 then dm slots c && dm slots b && mm n 0 ((n0:Int) - 1) && (dm slots a || a == -1) && (d == 0 && t.toList.isEmpty)
 else if o=5 then dm slots d && (a == 0 && (b == 0 && (c == 0 && (n == 0 && t.toList.isEmpty))))
 else if o=6 then dm slots a && (d == 0 && (b == 0 && (c == 0 && (n == 0 && t.toList.isEmpty))))
 else false
theorem EL (A0 A4:Option Addr) (c0 c4 n0 n4:Nat) (p1 p2 slots:Int) (w:World) (hn0:n0 ≤ 9223372036854775807) (SG:n4 ≤ 9223372036854775807) (o d a b c n:Int) (t:ByteArray) :
  Calls Try.prog 104 #[.agg #[.slice A0 n0 c0,.int .i64 p1,.int .i64 p2,.int .i64 slots,.slice A4 n4 c4],.agg #[.int .i64 o,.int .i64 d,.int .i64 a,.int .i64 b,.int .i64 c,.int .i64 n,.string t]] w fun e w'=>e = .returned (.bool (vn n0 slots o d a b c n t))∧Below w.heap.size w w':=by
 unfold vn
 by_cases h0:o=0
 ·rw [if_pos h0,h0];exact QU A0 A4 c0 c4 n0 n4 p1 p2 slots d a b c n t w hn0 SG
 rw [if_neg h0]
 by_cases h1:o=1
 ·rw [if_pos h1,h1];exact PU A0 A4 c0 c4 n0 n4 p1 p2 slots d a b c n t w hn0 SG
 rw [if_neg h1]
 by_cases h2:o=2
 ·rw [if_pos h2,h2];exact OU A0 A4 c0 c4 n0 n4 p1 p2 slots d a b c n t w hn0 SG
 rw [if_neg h2]
 by_cases h3:o=3
 ·rw [if_pos h3,h3];exact NU A0 A4 c0 c4 n0 n4 p1 p2 slots d a b c n t w hn0 SG
 rw [if_neg h3]
 by_cases h4:o=4
 ·rw [if_pos h4,h4];exact MU A0 A4 c0 c4 n0 n4 p1 p2 slots d a b c n t w hn0 SG
 rw [if_neg h4]
 by_cases h5:o=5
 ·rw [if_pos h5,h5];exact LU A0 A4 c0 c4 n0 n4 p1 p2 slots d a b c n t w hn0 SG
 rw [if_neg h5]
 by_cases h6:o=6
 ·rw [if_pos h6,h6];exact KU A0 A4 c0 c4 n0 n4 p1 p2 slots d a b c n t w hn0 SG
 rw [if_neg h6];exact RN A0 A4 c0 c4 n0 n4 p1 p2 slots d a b c n t w hn0 SG o (beq_eq_false_iff_ne.mpr h0) (beq_eq_false_iff_ne.mpr h1) (beq_eq_false_iff_ne.mpr h2) (beq_eq_false_iff_ne.mpr h3) (beq_eq_false_iff_ne.mpr h4) (beq_eq_false_iff_ne.mpr h5) (beq_eq_false_iff_ne.mpr h6)
def Yo (n0:Nat) (slots:Int) (x:Le):Bool:=vn n0 slots x.f0 x.f1 x.f2 x.f3 x.f4 x.f5 x.f6
def Hl (n0:Nat) (slots:Int) (n4:Nat) (code:List Le) (j a tg els:Int):Bool :=
 !(code.any fun x=>!Yo n0 slots x) && decide (0 ≤ slots) &&
  (if j=0 then mm tg 0 ((n4:Int) - 1) && a == 0 && els == 0
   else if j=1 then mm tg 0 ((n4:Int) - 1) && mm els 0 ((n4:Int) - 1) && dm slots a
   else if j=2 then dm slots a && tg == 0 && els == 0
   else false)
theorem RU (B:Nat) (A0 A4:Option Addr) (c0 c4 n0 n4:Nat) (p1 p2 slots:Int) (hn0:n0 ≤ 9223372036854775807) (SG:n4 ≤ 9223372036854775807) (W:World) (x:Le)
  (hb0:W.cell? ⟨B,0,none⟩=some (.slice A0 n0 c0)) (qC:W.cell? ⟨B,1,none⟩=some (.int .i64 p1)) (jj:W.cell? ⟨B,2,none⟩=some (.int .i64 p2)) (hb3:W.cell? ⟨B,3,none⟩=some (.int .i64 slots)) (hb4:W.cell? ⟨B,4,none⟩=some (.slice A4 n4 c4)) (hB:B < W.heap.size) :
  Calls Try.prog 103 #[.agg #[.int .i64 x.f0,.int .i64 x.f1,.int .i64 x.f2,.int .i64 x.f3,.int .i64 x.f4,.int .i64 x.f5,.string x.f6],.pointer (some ⟨B,0,none⟩)] W
   fun e w'=>e = .returned (.bool (!Yo n0 slots x))∧Below W.heap.size W w':=by
 have hne:B ≠ W.heap.size:=by omega
 unfold Yo;have HC:=ga.mk (fun W'=>EL A0 A4 c0 c4 n0 n4 p1 p2 slots W' hn0 SG x.f0 x.f1 x.f2 x.f3 x.f4 x.f5 x.f6);generalize vn n0 slots x.f0 x.f1 x.f2 x.f3 x.f4 x.f5 x.f6=b at HC ⊢;go_enter Try.func103,Try.ntmps103;go_wp2_with (go_at_call 104;(with_reducible refine (HC.out _).mono ?_);rintro e w1 ⟨rfl,hb⟩;have HD:=ga.mk (Na (qa (Below.refl _ _) _) hb);clear hb);go_ret;exact ⟨rfl,HD.out⟩
theorem FL (A0 A4 A5:Option Addr) (c0 c4 c5 n0 n4:Nat) (p1 p2 slots:Int) (l5:List Le) (j a tg els:Int) (w:World) (hn0:n0 ≤ 9223372036854775807) (SG:n4 ≤ 9223372036854775807) (I0:Kd.C Wk w A5 l5.length l5) (hc5:l5.length ≤ c5) :
  Calls Try.prog 77 #[.agg #[.slice A0 n0 c0,.int .i64 p1,.int .i64 p2,.int .i64 slots,.slice A4 n4 c4],.agg #[.slice A5 l5.length c5,.int .i64 j,.int .i64 a,.int .i64 tg,.int .i64 els]] w fun e w'=>e = .returned (.bool (Hl n0 slots n4 l5 j a tg els))∧Below w.heap.size w w':=by
 have eg:=enters_of Try.func103 (by kernel_rfl) rfl;have hm5:=I0.2.1;obtain ⟨W1,zg⟩:∃ W1,W1=(w.alloc (.cells #[.slice A0 n0 c0,.int .i64 p1,.int .i64 p2,.int .i64 slots,.slice A4 n4 c4] 30 (0,0))).alloc (.cells #[.slice A5 l5.length c5,.int .i64 j,.int .i64 a,.int .i64 tg,.int .i64 els] 59 (0,0)):=⟨_,rfl⟩;have HW:=ga.mk zg;have hB1:Below w.heap.size w W1:=by rw [zg];exact qa (qa (Below.refl _ _) _) _
 have hz:W1.heap.size=w.heap.size + 2:=by rw [zg];simp
 have eX:W1.cell? ⟨w.heap.size,0,none⟩=some (.slice A0 n0 c0):=by rw [zg];simp
 have rG:W1.cell? ⟨w.heap.size,1,none⟩=some (.int .i64 p1):=by rw [zg];simp
 have dX:W1.cell? ⟨w.heap.size,2,none⟩=some (.int .i64 p2):=by rw [zg];simp
 have rN:W1.cell? ⟨w.heap.size,3,none⟩=some (.int .i64 slots):=by rw [zg];simp
 have mL:W1.cell? ⟨w.heap.size,4,none⟩=some (.slice A4 n4 c4):=by rw [zg];simp
 have hx0:W1.cell? ⟨w.heap.size + 1,0,none⟩=some (.slice A5 l5.length c5):=by rw [zg];simp
 have hx1:W1.cell? ⟨w.heap.size + 1,1,none⟩=some (.int .i64 j):=by rw [zg];simp
 have Lw:W1.cell? ⟨w.heap.size + 1,2,none⟩=some (.int .i64 a):=by rw [zg];simp
 have br:W1.cell? ⟨w.heap.size + 1,3,none⟩=some (.int .i64 tg):=by rw [zg];simp
 have Tr:W1.cell? ⟨w.heap.size + 1,4,none⟩=some (.int .i64 els):=by rw [zg];simp
 have Kp:=Kd.Ab I0 hB1;clear zg I0
 have HF:=ga.mk (az 103 #[.pointer (some ⟨w.heap.size,0,none⟩)] (fun x=>!Yo n0 slots x) eg A5 c5 l5 W1 Kp hc5
  (fun W2 x hb'=>RU w.heap.size A0 A4 c0 c4 n0 n4 p1 p2 slots hn0 SG W2 x ((hb'.cell (p:=⟨w.heap.size,0,none⟩) (by simp;omega)).trans eX) ((hb'.cell (p:=⟨w.heap.size,1,none⟩) (by simp;omega)).trans rG) ((hb'.cell (p:=⟨w.heap.size,2,none⟩) (by simp;omega)).trans dX) ((hb'.cell (p:=⟨w.heap.size,3,none⟩) (by simp;omega)).trans rN) ((hb'.cell (p:=⟨w.heap.size,4,none⟩) (by simp;omega)).trans mL) (Nat.lt_of_lt_of_le (by omega) hb'.size)))
 have HB:=ga.mk hB1;clear Kp hB1 eg;unfold Hl;cases hq:l5.any (fun x=>!Yo n0 slots x) with
 | true =>
  rw [hq] at HF;go_enter Try.func77,Try.ntmps77
  go_upto_region 1 with (fail)
  rw [← HW.out];clear HW;go_wp2_with (first|(go_at_call 102;(with_reducible refine HF.out.mono ?_);rintro e w2 ⟨rfl,jj⟩;have uu:=ga.mk jj;clear jj))
  all_goals
   go_ret;exact ⟨by simp,Na HB.out uu.out⟩
 | false =>
  rw [hq] at HF;cases ha0:decide (0 ≤ a)
  all_goals
   go_enter Try.func77,Try.ntmps77
   go_upto_region 1 with (fail)
   rw [← HW.out];clear HW
   go_upto_region 3 with (first|(go_at_call 102;(with_reducible refine HF.out.mono ?_);rintro e w2 ⟨rfl,jj⟩;replace rN:=(jj.cell (World.block_lt_of_cell? W1 _ rN)).trans rN;replace mL:=(jj.cell (World.block_lt_of_cell? W1 _ mL)).trans mL;replace hx1:=(jj.cell (World.block_lt_of_cell? W1 _ hx1)).trans hx1;replace Lw:=(jj.cell (World.block_lt_of_cell? W1 _ Lw)).trans Lw;replace br:=(jj.cell (World.block_lt_of_cell? W1 _ br)).trans br;replace Tr:=(jj.cell (World.block_lt_of_cell? W1 _ Tr)).trans Tr;have uu:=ga.mk (Na HB.out jj);clear jj HB eX rG dX hx0))
   go_quiet ((go_at_call 55;exact Calls.quiet_of ((Im _ _ _ _).mono fun _ _ ⟨he,hm⟩=>⟨he,hm.out⟩)))
   go_wp2
   all_goals go_ret
   all_goals exact ⟨by first|(simp [dm, *];done)|(simp [dm, *];intros;omega)|(clear HF rN mL hx1 Lw br Tr;simp_all [dm];done)|(clear HF rN mL hx1 Lw br Tr;simp_all [dm];omega),by repeat (first|exact uu.out|apply ja)⟩
def fk.f (Qa:List Int) (Ja:Int) (Ga:Int) (Ia:Int) (Aa:List (He)) (Yc:List (Le)) (Zb:Int) (Tb:Int) (Ub:Int) (nc:Int):Option Bool:=some (Hl Qa.length Ia Aa.length Yc Zb Tb Ub nc)
theorem fk.calls (Wa:Option Addr) (Xa:Nat) (Qa:List Int) (Ja:Int) (Ga:Int) (Ia:Int) (Jb:Option Addr) (yb:Nat) (Aa:List (He)) (ig:Option Addr) (Qf:Nat) (Yc:List (Le)) (Zb:Int) (Tb:Int) (Ub:Int) (nc:Int) (r:Bool) (w:World) (Od:Kd.C (Kd.int .i64) w Wa Qa.length Qa) (Md:Qa.length ≤ Xa) (Re:Kd.C iq w Jb Aa.length Aa) (Qe:Aa.length ≤ yb) (uy:Kd.C Wk w ig Yc.length Yc) (yy:Yc.length ≤ Qf) (h:fk.f Qa Ja Ga Ia Aa Yc Zb Tb Ub nc=some r) :
  Calls Try.prog 77 #[.agg #[.slice Wa Qa.length Xa,.int .i64 Ja,.int .i64 Ga,.int .i64 Ia,.slice Jb Aa.length yb],.agg #[.slice ig Yc.length Qf,.int .i64 Zb,.int .i64 Tb,.int .i64 Ub,.int .i64 nc]] w fun e w'=>e = .returned (.bool r)∧Below w.heap.size w w':=by
 injection h with h
 subst h;exact FL Wa Jb ig Xa yb Qf Qa.length Aa.length Ja Ga Ia Yc Zb Tb Ub nc w Od.2.1 Re.2.1 uy yy
mutual
def ic.j0:Nat→Bool→List Int→Int→Int→Int→List (He)→Option (Bool)
 | 0,_,_,_,_,_,_=>none
 | k + 1,x29,Fc,Uc,Mc,Ic,jc=>if x29=true then (some false) else (ic.l0 k 0 jc (jc.length:Int) 0 Fc Uc Mc Ic jc)
def ic.l0:Nat→Int→List (He)→Int→Int→List Int→Int→Int→Int→List (He)→Option (Bool)
 | 0,_,_,_,_,_,_,_,_,_=>none
 | k + 1,x3,nN,x32,mN,Fc,Uc,Mc,Ic,jc=>if mN < x32 then (if 0 ≤ mN then (if mN < (nN.length:Int) then ((fk.f Fc Uc Mc Ic jc ((za nN mN).f0) ((za nN mN).f1) ((za nN mN).f2) ((za nN mN).f3) ((za nN mN).f4)).bind fun t107=>(if t107=true then (ic.l0 k (wrap64 (x3 + (((za nN mN).f0).length:Int))) nN x32 (wrap64 (mN + 1)) Fc Uc Mc Ic jc) else (some false))) else (none)) else (none)) else (some (decide (x3 ≤ 1000)))
end
def ic.f (k:Nat) (Qa:List Int) (Ja:Int) (Ga:Int) (Ia:Int) (Aa:List (He)):Option (Bool):=(oh.f Qa Ja Ga ([]:List (BC))).bind fun t102=>(if t102=true then ((Kg.f Ia Ga 1000).bind fun t103=>(if t103=true then ((Kg.f (Aa.length:Int) 1 300).bind fun t104=>(ic.j0 k (!t104) Qa Ja Ga Ia Aa)) else (ic.j0 k true Qa Ja Ga Ia Aa))) else (ic.j0 k true Qa Ja Ga Ia Aa))
theorem ic.calls (k:Nat) (Wa:Option Addr) (Xa:Nat) (Qa:List Int) (Ja:Int) (Ga:Int) (Ia:Int) (Jb:Option Addr) (yb:Nat) (Aa:List (He)) (r:Bool) (w:World) (Od:Kd.C (Kd.int .i64) w Wa Qa.length Qa) (Md:Qa.length ≤ Xa) (Re:Kd.C iq w Jb Aa.length Aa) (Qe:Aa.length ≤ yb) (h:ic.f k Qa Ja Ga Ia Aa=some r) :
  Calls Try.prog 46 #[.agg #[.slice Wa Qa.length Xa,.int .i64 Ja,.int .i64 Ga,.int .i64 Ia,.slice Jb Aa.length yb]] w fun e w'=>e = .returned (.bool r)∧Below w.heap.size w w':=by
 have KB:=Try.underlying30;have VaD:=Try.underlying95;have JB:=Try.underlying59;have fe:=ga.mk Od;have ye:=ga.mk Md;clear Od Md;have We:=ga.mk Re;have Xf:=ga.mk Qe;clear Re Qe;have HB:=ga.mk (Below.refl w.heap.size w);have H:((oh.f Qa Ja Ga ([]:List (BC))).bind fun t102=>(if t102=true then ((Kg.f Ia Ga 1000).bind fun t103=>(if t103=true then ((Kg.f (Aa.length:Int) 1 300).bind fun t104=>(ic.j0 k (!t104) Qa Ja Ga Ia Aa)) else (ic.j0 k true Qa Ja Ga Ia Aa))) else (ic.j0 k true Qa Ja Ga Ia Aa)))=some r:=h;clear h;have jU:=ga.mk H;clear H;go_enter Try.func46,Try.ntmps46
 go_upto_region 1 with (first|((with_reducible refine qb (N:=1) rfl ?_);(try (refine Wg (by rfl) ?_;dsimp only));refine Ib ?hg (N:=1) ?hd (cs:=#[.slice Wa Qa.length Xa,.int .i64 Ja,.int .i64 Ga,.int .i64 Ia,.slice Jb Aa.length yb]) (t:=30) ?hr ?_;(case hd=>rfl);(case hg=>rfl);(case hr=>first|(go_simp;done)|(go_simp;rfl));intro ya hg w3 Sb hb;have Cb:=ga.mk (Na CaH hb);have Eb:=ga.mk (Sb);have Rb:=ga.mk ((by rw [hg];exact (La CaH):w.heap.size ≤ ya));have Gc:=ga.mk ((by rw [hg];exact (La CaH):w.heap.size ≤ ya));clear HB;have HB:=Cb;have oa:=Eb;have Nd:=Rb;have Ta:=Gc;clear Cb Eb Rb Gc hb Sb hg))
 (try simp only [Act.put,List.setIfInBounds_toArray,List.set_cons_zero,List.set_cons_succ])
 go_cut [29] (fun v29 wc=>∃ (kq:Nat) (CP:Bool),v29 = .bool CP∧ga (ic.j0 kq CP Qa Ja Ga Ia Aa=some r)∧ga (kq ≤ k)∧ga (wc.heap[ya]? = some (.cells #[(.slice Wa Qa.length Xa),.int .i64 Ja,.int .i64 Ga,.int .i64 Ia,(.slice Jb Aa.length yb)] 30 (0,0)))∧ga (Below w.heap.size w wc))
 case first =>
  have H:=jU.out;clear jU;replace H:=Option.bind_eq_some_iff.mp H;obtain ⟨t102,A40,H⟩:=H;replace H:(if t102=true then ((Kg.f Ia Ga 1000).bind fun t103=>(if t103=true then ((Kg.f (Aa.length:Int) 1 300).bind fun t104=>(ic.j0 k (!t104) Qa Ja Ga Ia Aa)) else (ic.j0 k true Qa Ja Ga Ia Aa))) else (ic.j0 k true Qa Ja Ga Ia Aa))=some r:=H;have A4:=ga.mk A40;clear A40
  by_cases c5:t102=true
  ·subst c5;have H1:((Kg.f Ia Ga 1000).bind fun t103=>(if t103=true then ((Kg.f (Aa.length:Int) 1 300).bind fun t104=>(ic.j0 k (!t104) Qa Ja Ga Ia Aa)) else (ic.j0 k true Qa Ja Ga Ia Aa)))=some r:=by rw [if_pos rfl] at H;exact H
   clear H;have H:=H1;clear H1;replace H:=Option.bind_eq_some_iff.mp H;obtain ⟨t103,A60,H⟩:=H;replace H:(if t103=true then ((Kg.f (Aa.length:Int) 1 300).bind fun t104=>(ic.j0 k (!t104) Qa Ja Ga Ia Aa)) else (ic.j0 k true Qa Ja Ga Ia Aa))=some r:=H;have A6:=ga.mk A60;clear A60
   by_cases c7:t103=true
   ·subst c7;have H1:((Kg.f (Aa.length:Int) 1 300).bind fun t104=>(ic.j0 k (!t104) Qa Ja Ga Ia Aa))=some r:=by rw [if_pos rfl] at H;exact H
    clear H;have H:=H1;clear H1;replace H:=Option.bind_eq_some_iff.mp H;obtain ⟨t104,OZ,H⟩:=H;replace H:(ic.j0 k (!t104) Qa Ja Ga Ia Aa)=some r:=H;have A8:=ga.mk OZ;clear OZ;have H':=ga.mk H;clear H;have Qh:w3.cell? ⟨ya,0,none⟩=some (.slice Wa Qa.length Xa):=(ia oa.out 0).trans rfl;have Ph:w3.cell? ⟨ya,1,none⟩=some (.int .i64 Ja):=(ia oa.out 1).trans rfl;have Oh:w3.cell? ⟨ya,2,none⟩=some (.int .i64 Ga):=(ia oa.out 2).trans rfl;have Nh:w3.cell? ⟨ya,3,none⟩=some (.int .i64 Ia):=(ia oa.out 3).trans rfl;have Mh:w3.cell? ⟨ya,4,none⟩=some (.slice Jb Aa.length yb):=(ia oa.out 4).trans rfl;have Lh:=aa oa.out 0;have Kh:=aa oa.out 1;have Jh:=aa oa.out 2;have Ih:=aa oa.out 3;have Hh:=aa oa.out 4;go_wp2_with (first|((with_reducible refine Bb (f:=76) rfl ?_);refine Tc (some 13) rfl rfl Try.func76 (by kernel_rfl) rfl #[.agg #[.slice Wa Qa.length Xa,.int .i64 Ja,.int .i64 Ga,.slice none 0 0]] rfl FaH ?_;(refine (oh.calls _ _ Qa Ja Ga _ _ ([]:List (BC)) true _ ?yc ?uc ?td ?qd A4.out).mono ?_);(case yc=>repeat (first|exact (Kd.Ab fe.out HB.out)|(with_reducible refine Kd.Lb ?_ _)|(with_reducible refine Kd.Kb ?_ _)|(with_reducible refine Kd.Xb ?_)));(case uc=>exact ye.out);(case td=>exact Kd.nU _ _);(case qd=>exact Nat.le_refl _);rintro e Yp ⟨rfl,hb⟩;refine ⟨_,rfl,?_⟩;have Cb:=ga.mk (Va (g:=ya) (o:=.cells #[.slice Wa Qa.length Xa,.int .i64 Ja,.int .i64 Ga,.int .i64 Ia,.slice Jb Aa.length yb] 30 (0,0)) DaH hb);have Eb:=ga.mk (Na BaH hb);clear oa HB;have oa:=Cb;have HB:=Eb;clear Cb Eb;(try clear hb);(try clear jj);(try clear hk);(try clear hi);have qo:Yp.cell? ⟨ya,0,none⟩=some (.slice Wa Qa.length Xa):=(ia oa.out 0).trans rfl;have oo:Yp.cell? ⟨ya,1,none⟩=some (.int .i64 Ja):=(ia oa.out 1).trans rfl;have mo:Yp.cell? ⟨ya,2,none⟩=some (.int .i64 Ga):=(ia oa.out 2).trans rfl;have jo:Yp.cell? ⟨ya,3,none⟩=some (.int .i64 Ia):=(ia oa.out 3).trans rfl;have fo:Yp.cell? ⟨ya,4,none⟩=some (.slice Jb Aa.length yb):=(ia oa.out 4).trans rfl;have eo:=aa oa.out 0;have Zn:=aa oa.out 1;have Yn:=aa oa.out 2;have Xn:=aa oa.out 3;have Wn:=aa oa.out 4)|(go_at_call 55;(with_reducible refine (Kg.calls Ia Ga 1000 true _ A6.out).mono ?_);rintro e w' ⟨rfl,⟨nd,rfl⟩⟩)|(go_at_call 55;(with_reducible refine (Kg.calls (Aa.length:Int) 1 300 t104 _ A8.out).mono ?_);rintro e w' ⟨rfl,⟨nd,rfl⟩⟩))
    go_meet
    case rel=>exact ⟨_,(!t104),IaH,H',⟨by first|omega|exact Nat.le_refl _⟩,⟨HaH⟩,⟨EaH⟩⟩
   ·replace c7:=Bool.eq_false_iff.mpr c7;subst c7;have H1:(ic.j0 k true Qa Ja Ga Ia Aa)=some r:=by rw [if_neg (show ¬ (false=true) by decide)] at H;exact H
    clear H;have H:=H1;clear H1;have H':=ga.mk H;clear H;have Ft:w3.cell? ⟨ya,0,none⟩=some (.slice Wa Qa.length Xa):=(ia oa.out 0).trans rfl;have Et:w3.cell? ⟨ya,1,none⟩=some (.int .i64 Ja):=(ia oa.out 1).trans rfl;have Dt:w3.cell? ⟨ya,2,none⟩=some (.int .i64 Ga):=(ia oa.out 2).trans rfl;have Ct:w3.cell? ⟨ya,3,none⟩=some (.int .i64 Ia):=(ia oa.out 3).trans rfl;have Bt:w3.cell? ⟨ya,4,none⟩=some (.slice Jb Aa.length yb):=(ia oa.out 4).trans rfl;have Xs:=aa oa.out 0;have Ws:=aa oa.out 1;have Vs:=aa oa.out 2;have Us:=aa oa.out 3;have Ts:=aa oa.out 4;go_wp2_with (first|((with_reducible refine Bb (f:=76) rfl ?_);refine Tc (some 13) rfl rfl Try.func76 (by kernel_rfl) rfl #[.agg #[.slice Wa Qa.length Xa,.int .i64 Ja,.int .i64 Ga,.slice none 0 0]] rfl FaH ?_;(refine (oh.calls _ _ Qa Ja Ga _ _ ([]:List (BC)) true _ ?yc ?uc ?td ?qd A4.out).mono ?_);(case yc=>repeat (first|exact (Kd.Ab fe.out HB.out)|(with_reducible refine Kd.Lb ?_ _)|(with_reducible refine Kd.Kb ?_ _)|(with_reducible refine Kd.Xb ?_)));(case uc=>exact ye.out);(case td=>exact Kd.nU _ _);(case qd=>exact Nat.le_refl _);rintro e Wr ⟨rfl,hb⟩;refine ⟨_,rfl,?_⟩;have Cb:=ga.mk (Va (g:=ya) (o:=.cells #[.slice Wa Qa.length Xa,.int .i64 Ja,.int .i64 Ga,.int .i64 Ia,.slice Jb Aa.length yb] 30 (0,0)) DaH hb);have Eb:=ga.mk (Na BaH hb);clear oa HB;have oa:=Cb;have HB:=Eb;clear Cb Eb;(try clear hb);(try clear jj);(try clear hk);(try clear hi);have Eh:Wr.cell? ⟨ya,0,none⟩=some (.slice Wa Qa.length Xa):=(ia oa.out 0).trans rfl;have Dh:Wr.cell? ⟨ya,1,none⟩=some (.int .i64 Ja):=(ia oa.out 1).trans rfl;have Ch:Wr.cell? ⟨ya,2,none⟩=some (.int .i64 Ga):=(ia oa.out 2).trans rfl;have Bh:Wr.cell? ⟨ya,3,none⟩=some (.int .i64 Ia):=(ia oa.out 3).trans rfl;have Ah:Wr.cell? ⟨ya,4,none⟩=some (.slice Jb Aa.length yb):=(ia oa.out 4).trans rfl;have zh:=aa oa.out 0;have yh:=aa oa.out 1;have xh:=aa oa.out 2;have wh:=aa oa.out 3;have uh:=aa oa.out 4)|(go_at_call 55;(with_reducible refine (Kg.calls Ia Ga 1000 false _ A6.out).mono ?_);rintro e w' ⟨rfl,⟨nd,rfl⟩⟩))
    go_meet
    case rel=>exact ⟨_,(true),IaH,H',⟨by first|omega|exact Nat.le_refl _⟩,⟨HaH⟩,⟨EaH⟩⟩
  ·replace c5:=Bool.eq_false_iff.mpr c5;subst c5;have H1:(ic.j0 k true Qa Ja Ga Ia Aa)=some r:=by rw [if_neg (show ¬ (false=true) by decide)] at H;exact H
   clear H;have H:=H1;clear H1;have H':=ga.mk H;clear H;have cB:w3.cell? ⟨ya,0,none⟩=some (.slice Wa Qa.length Xa):=(ia oa.out 0).trans rfl;have bB:w3.cell? ⟨ya,1,none⟩=some (.int .i64 Ja):=(ia oa.out 1).trans rfl;have ZA:w3.cell? ⟨ya,2,none⟩=some (.int .i64 Ga):=(ia oa.out 2).trans rfl;have YA:w3.cell? ⟨ya,3,none⟩=some (.int .i64 Ia):=(ia oa.out 3).trans rfl;have XA:w3.cell? ⟨ya,4,none⟩=some (.slice Jb Aa.length yb):=(ia oa.out 4).trans rfl;have JA:=aa oa.out 0;have IA:=aa oa.out 1;have GA:=aa oa.out 2;have FA:=aa oa.out 3;have EA:=aa oa.out 4;go_wp2_with (first|((with_reducible refine Bb (f:=76) rfl ?_);refine Tc (some 13) rfl rfl Try.func76 (by kernel_rfl) rfl #[.agg #[.slice Wa Qa.length Xa,.int .i64 Ja,.int .i64 Ga,.slice none 0 0]] rfl FaH ?_;(refine (oh.calls _ _ Qa Ja Ga _ _ ([]:List (BC)) false _ ?yc ?uc ?td ?qd A4.out).mono ?_);(case yc=>repeat (first|exact (Kd.Ab fe.out HB.out)|(with_reducible refine Kd.Lb ?_ _)|(with_reducible refine Kd.Kb ?_ _)|(with_reducible refine Kd.Xb ?_)));(case uc=>exact ye.out);(case td=>exact Kd.nU _ _);(case qd=>exact Nat.le_refl _);rintro e qz ⟨rfl,hb⟩;refine ⟨_,rfl,?_⟩;have Cb:=ga.mk (Va (g:=ya) (o:=.cells #[.slice Wa Qa.length Xa,.int .i64 Ja,.int .i64 Ga,.int .i64 Ia,.slice Jb Aa.length yb] 30 (0,0)) DaH hb);have Eb:=ga.mk (Na BaH hb);clear oa HB;have oa:=Cb;have HB:=Eb;clear Cb Eb;(try clear hb);(try clear jj);(try clear hk);(try clear hi)))
   go_meet
   case rel=>exact ⟨_,(true),IaH,H',⟨by first|omega|exact Nat.le_refl _⟩,⟨HaH⟩,⟨EaH⟩⟩
 case rest =>
  clear jU
  try clear p2
  try clear c4
  try clear c5
  try clear c7
  try clear qo
  try clear oo
  try clear mo
  try clear jo
  try clear fo
  try clear Ft
  try clear Et
  try clear Dt
  try clear Ct
  try clear Bt
  try clear Eh
  try clear Dh
  try clear Ch
  try clear Bh
  try clear Ah
  try clear cB
  try clear bB
  try clear ZA
  try clear YA
  try clear XA
  try clear Qh
  try clear Ph
  try clear Oh
  try clear Nh
  try clear Mh
  try clear eo
  try clear Zn
  try clear Yn
  try clear Xn
  try clear Wn
  try clear Xs
  try clear Ws
  try clear Vs
  try clear Us
  try clear Ts
  try clear zh
  try clear yh
  try clear xh
  try clear wh
  try clear uh
  try clear JA
  try clear IA
  try clear GA
  try clear FA
  try clear EA
  try clear Lh
  try clear Kh
  try clear Jh
  try clear Ih
  try clear Hh
  obtain ⟨kq,CP,rfl,HA,S_,oa,HB⟩:=hcut;cases kq with
  | zero=>exact absurd HA.out (by simp [ic.j0])
  | succ pW =>
   have H:=HA.out;clear HA;simp only [ic.j0] at H
   by_cases Ym:CP=true
   ·subst Ym;have H1:(some false)=some r:=by rw [if_pos rfl] at H;exact H
    clear H;have H:=H1;clear H1;obtain rfl:=Option.some.inj H;go_wp2;go_ret;exact ⟨by first|rfl|(simp [Pa,Oa] <;> rfl)|(simp [*,Pa,Oa] <;> rfl),EaH⟩
   ·replace Ym:=Bool.eq_false_iff.mpr Ym;subst Ym;have H1:(ic.l0 pW 0 Aa (Aa.length:Int) 0 Qa Ja Ga Ia Aa)=some r:=by rw [if_neg (show ¬ (false=true) by decide)] at H;exact H
    clear H;have H:=H1;clear H1;have H':=ga.mk H;clear H;have Rx:wc.cell? ⟨ya,0,none⟩=some (.slice Wa Qa.length Xa):=(ia oa.out 0).trans rfl;have Qx:wc.cell? ⟨ya,1,none⟩=some (.int .i64 Ja):=(ia oa.out 1).trans rfl;have Px:wc.cell? ⟨ya,2,none⟩=some (.int .i64 Ga):=(ia oa.out 2).trans rfl;have Ox:wc.cell? ⟨ya,3,none⟩=some (.int .i64 Ia):=(ia oa.out 3).trans rfl;have Nx:wc.cell? ⟨ya,4,none⟩=some (.slice Jb Aa.length yb):=(ia oa.out 4).trans rfl;have sx:=aa oa.out 0;have qx:=aa oa.out 1;have ox:=aa oa.out 2;have jx:=aa oa.out 3;have gx:=aa oa.out 4;go_wp2
    go_loopg [3,33] pW (fun kq v3 v33 w'=>∃ (Tp:Int) (De:Int),v3 = .int .i64 Tp∧v33 = .int .i64 De∧ga (ic.l0 kq Tp Aa (Aa.length:Int) De Qa Ja Ga Ia Aa=some r)∧ga (kq ≤ pW)∧ga (w'.heap[ya]? = some (.cells #[(.slice Wa Qa.length Xa),.int .i64 Ja,.int .i64 Ga,.int .i64 Ia,(.slice Jb Aa.length yb)] 30 (0,0)))∧ga (Below w.heap.size w w'))
    case atStart=>exact ⟨(0),(0),IaH,IaH,H',⟨Nat.le_refl _⟩,⟨HaH⟩,⟨EaH⟩⟩
    case round =>
     clear H'
     try clear c1
     try clear p2
     try clear c4
     try clear c5
     try clear c7
     try clear Ym
     try clear qo
     try clear oo
     try clear mo
     try clear jo
     try clear fo
     try clear Ft
     try clear Et
     try clear Dt
     try clear Ct
     try clear Bt
     try clear Eh
     try clear Dh
     try clear Ch
     try clear Bh
     try clear Ah
     try clear cB
     try clear bB
     try clear ZA
     try clear YA
     try clear XA
     try clear Rx
     try clear Qx
     try clear Px
     try clear Ox
     try clear Nx
     try clear Qh
     try clear Ph
     try clear Oh
     try clear Nh
     try clear Mh
     try clear eo
     try clear Zn
     try clear Yn
     try clear Xn
     try clear Wn
     try clear Xs
     try clear Ws
     try clear Vs
     try clear Us
     try clear Ts
     try clear zh
     try clear yh
     try clear xh
     try clear wh
     try clear uh
     try clear JA
     try clear IA
     try clear GA
     try clear FA
     try clear EA
     try clear sx
     try clear qx
     try clear ox
     try clear jx
     try clear gx
     try clear Lh
     try clear Kh
     try clear Jh
     try clear Ih
     try clear Hh
     try clear p2
     (try clear HA);(try clear Cm);(try clear oa);(try clear HB);obtain ⟨Tp,De,rfl,rfl,HA,Cm,oa,HB⟩:=hrel;cases gk with
     | zero=>exact absurd HA.out (by simp [ic.l0])
     | succ k2 =>
      have H:=HA.out;clear HA;simp only [ic.l0] at H
      by_cases Ll:De < (Aa.length:Int)
      ·rw [if_pos Ll] at H;have Kr:decide (De < (Aa.length:Int))=true:=decide_eq_true Ll;clear Ll
       by_cases vm:0 ≤ De
       ·rw [if_pos vm] at H;have Jr:decide (0 ≤ De)=true:=decide_eq_true vm;clear vm
        by_cases Ir:De < (Aa.length:Int)
        ·rw [if_pos Ir] at H;have GM:decide (De < (Aa.length:Int))=true:=decide_eq_true Ir;clear Ir;replace H:=Option.bind_eq_some_iff.mp H;obtain ⟨t107,eam,H⟩:=H;replace H:(if t107=true then (ic.l0 k2 (wrap64 (Tp + (((za Aa De).f0).length:Int))) Aa (Aa.length:Int) (wrap64 (De + 1)) Qa Ja Ga Ia Aa) else (some false))=some r:=H;have A22:=ga.mk eam;clear eam
         by_cases Dy:t107=true
         ·subst Dy;have H1:(ic.l0 k2 (wrap64 (Tp + (((za Aa De).f0).length:Int))) Aa (Aa.length:Int) (wrap64 (De + 1)) Qa Ja Ga Ia Aa)=some r:=by rw [if_pos rfl] at H;exact H
          clear H;have H:=H1;clear H1;have H':=ga.mk H;clear H;have Vm:0 ≤ (De:Int):=Ua;have Um:De < (Aa.length:Int):=Ua;obtain ⟨Ii,Yh,yg,sC,qh,xj,wj,uj,tj,yj,zj⟩:=Fj We.out De Vm Um;cases sC;replace qh:=Sa HB.out qh;replace xj:=Sa HB.out xj;replace wj:=Sa HB.out wj;replace uj:=Sa HB.out uj;replace tj:=Sa HB.out tj;have Bo:=ga.mk zj;have Mv:=ga.mk yj;clear zj yj;replace Vm:=eq_true Vm;replace Um:=eq_true Um;go_wp2_with (first|((with_reducible refine qb (N:=5) rfl ?_);(try (refine Wg (by rfl) ?_;dsimp only));refine Ib ?hg (N:=5) ?hd (cs:=#[.slice none 0 0,.int .i64 0,.int .i64 0,.int .i64 0,.int .i64 0]) (t:=59) ?hr ?_;(case hd=>rfl);(case hg=>rfl);(case hr=>first|(go_simp;done)|(go_simp;rfl));intro lf hg pU Sb hb;have Cb:=ga.mk (Va (g:=ya) (o:=.cells #[.slice Wa Qa.length Xa,.int .i64 Ja,.int .i64 Ga,.int .i64 Ia,.slice (some Ii) Aa.length yb] 30 (0,0)) DaH hb);have Eb:=ga.mk (Na BaH hb);have Rb:=ga.mk (Sb);have Gc:=ga.mk ((by rw [hg];exact (La BaH):w.heap.size ≤ lf));have kg:=ga.mk ((by rw [hg];exact (La BaH):w.heap.size ≤ lf));have Rg:=ga.mk ((by rw [hg];exact Nat.ne_of_lt (Pc (g:=ya) (o:=.cells #[.slice Wa Qa.length Xa,.int .i64 Ja,.int .i64 Ga,.int .i64 Ia,.slice (some Ii) Aa.length yb] 30 (0,0)) DaH):ya ≠ lf));have Vh:=ga.mk ((by rw [hg];exact Nat.ne_of_gt (Pc (g:=ya) (o:=.cells #[.slice Wa Qa.length Xa,.int .i64 Ja,.int .i64 Ga,.int .i64 Ia,.slice (some Ii) Aa.length yb] 30 (0,0)) DaH):lf ≠ ya));clear oa HB;have oa:=Cb;have HB:=Eb;have Cd:=Rb;have haa:=Gc;have Zj:=kg;have Jf:=Rg;have Ro:=Vh;clear Cb Eb Rb Gc kg Rg Vh hb Sb hg;have Aaf:=Ro.out;have laf:=Jf.out;have ov:pU.cell? ⟨lf,0,none⟩=some (.slice none 0 0):=(ia Cd.out 0).trans rfl;have nv:pU.cell? ⟨lf,1,none⟩=some (.int .i64 0):=(ia Cd.out 1).trans rfl;have jv:pU.cell? ⟨lf,2,none⟩=some (.int .i64 0):=(ia Cd.out 2).trans rfl;have gv:pU.cell? ⟨lf,3,none⟩=some (.int .i64 0):=(ia Cd.out 3).trans rfl;have cv:pU.cell? ⟨lf,4,none⟩=some (.int .i64 0):=(ia Cd.out 4).trans rfl;have Ou:=aa Cd.out 0;have Nu:=aa Cd.out 1;have Mu:=aa Cd.out 2;have Lu:=aa Cd.out 3;have Ku:=aa Cd.out 4;have Hx:pU.cell? ⟨ya,0,none⟩=some (.slice Wa Qa.length Xa):=(ia oa.out 0).trans rfl;have Gx:pU.cell? ⟨ya,1,none⟩=some (.int .i64 Ja):=(ia oa.out 1).trans rfl;have Fx:pU.cell? ⟨ya,2,none⟩=some (.int .i64 Ga):=(ia oa.out 2).trans rfl;have Ex:pU.cell? ⟨ya,3,none⟩=some (.int .i64 Ia):=(ia oa.out 3).trans rfl;have Dx:pU.cell? ⟨ya,4,none⟩=some (.slice (some Ii) Aa.length yb):=(ia oa.out 4).trans rfl;have Xw:=aa oa.out 0;have Ww:=aa oa.out 1;have Vw:=aa oa.out 2;have Uw:=aa oa.out 3;have Tw:=aa oa.out 4)|((with_reducible refine Bb (f:=77) rfl ?_);refine Tc (some 44) rfl rfl Try.func77 (by kernel_rfl) rfl #[.agg #[.slice Wa Qa.length Xa,.int .i64 Ja,.int .i64 Ga,.int .i64 Ia,.slice (some Ii) Aa.length yb],.agg #[.slice Yh ((za Aa De).f0).length yg,.int .i64 ((za Aa De).f1),.int .i64 ((za Aa De).f2),.int .i64 ((za Aa De).f3),.int .i64 ((za Aa De).f4)]] rfl FaH ?_;(with_reducible refine (fk.calls _ _ Qa Ja Ga Ia _ _ Aa _ _ ((za Aa De).f0) ((za Aa De).f1) ((za Aa De).f2) ((za Aa De).f3) ((za Aa De).f4) true _ ?yc ?uc ?td ?qd ?Hp ?Gp A22.out).mono ?_);(case yc=>exact Kd.Ab fe.out NaH);(case uc=>exact ye.out);(case td=>exact Kd.Ab We.out NaH);(case qd=>exact Xf.out);(case Hp=>exact Kd.Ab Bo.out NaH);(case Gp=>exact Mv.out);rintro e ew ⟨rfl,hb⟩;refine ⟨_,rfl,?_⟩;have Cb:=ga.mk (Va (g:=ya) (o:=.cells #[.slice Wa Qa.length Xa,.int .i64 Ja,.int .i64 Ga,.int .i64 Ia,.slice (some Ii) Aa.length yb] 30 (0,0)) aaI hb);have Eb:=ga.mk (Va (g:=lf) (o:=.cells #[.slice Yh ((za Aa De).f0).length yg,.int .i64 ((za Aa De).f1),.int .i64 ((za Aa De).f2),.int .i64 ((za Aa De).f3),.int .i64 ((za Aa De).f4)] 59 (0,0)) RaH hb);have Rb:=ga.mk (Na NaH hb);clear oa Cd HB;have oa:=Cb;have Cd:=Eb;have HB:=Rb;clear Cb Eb Rb;(try clear hb);(try clear jj);(try clear hk);(try clear hi)))
          go_roundg k2
          case measure=>have:=S_.out;have:=Cm.out;omega
          case rel=>exact ⟨(wrap64 (Tp + (((za Aa De).f0).length:Int))),(wrap64 (De + 1)),IaH,IaH,H',⟨by have:=S_.out;have:=Cm.out;omega⟩,⟨HaH⟩,⟨eaI⟩⟩
         ·replace Dy:=Bool.eq_false_iff.mpr Dy;subst Dy;have H1:(some false)=some r:=by rw [if_neg (show ¬ (false=true) by decide)] at H;exact H
          clear H;have H:=H1;clear H1;obtain rfl:=Option.some.inj H;have Vm:0 ≤ (De:Int):=Ua;have Um:De < (Aa.length:Int):=Ua;obtain ⟨Ii,Yh,yg,sC,qh,xj,wj,uj,tj,yj,zj⟩:=Fj We.out De Vm Um;cases sC;replace qh:=Sa HB.out qh;replace xj:=Sa HB.out xj;replace wj:=Sa HB.out wj;replace uj:=Sa HB.out uj;replace tj:=Sa HB.out tj;have Bo:=ga.mk zj;have Mv:=ga.mk yj;clear zj yj;replace Vm:=eq_true Vm;replace Um:=eq_true Um;go_wp2_with (first|((with_reducible refine qb (N:=5) rfl ?_);(try (refine Wg (by rfl) ?_;dsimp only));refine Ib ?hg (N:=5) ?hd (cs:=#[.slice none 0 0,.int .i64 0,.int .i64 0,.int .i64 0,.int .i64 0]) (t:=59) ?hr ?_;(case hd=>rfl);(case hg=>rfl);(case hr=>first|(go_simp;done)|(go_simp;rfl));intro lf hg rH Sb hb;have Cb:=ga.mk (Va (g:=ya) (o:=.cells #[.slice Wa Qa.length Xa,.int .i64 Ja,.int .i64 Ga,.int .i64 Ia,.slice (some Ii) Aa.length yb] 30 (0,0)) DaH hb);have Eb:=ga.mk (Na BaH hb);have Rb:=ga.mk (Sb);have Gc:=ga.mk ((by rw [hg];exact (La BaH):w.heap.size ≤ lf));have kg:=ga.mk ((by rw [hg];exact (La BaH):w.heap.size ≤ lf));have Rg:=ga.mk ((by rw [hg];exact Nat.ne_of_lt (Pc (g:=ya) (o:=.cells #[.slice Wa Qa.length Xa,.int .i64 Ja,.int .i64 Ga,.int .i64 Ia,.slice (some Ii) Aa.length yb] 30 (0,0)) DaH):ya ≠ lf));have Vh:=ga.mk ((by rw [hg];exact Nat.ne_of_gt (Pc (g:=ya) (o:=.cells #[.slice Wa Qa.length Xa,.int .i64 Ja,.int .i64 Ga,.int .i64 Ia,.slice (some Ii) Aa.length yb] 30 (0,0)) DaH):lf ≠ ya));clear oa HB;have oa:=Cb;have HB:=Eb;have Cd:=Rb;have haa:=Gc;have Zj:=kg;have Jf:=Rg;have Ro:=Vh;clear Cb Eb Rb Gc kg Rg Vh hb Sb hg;have naB:=Ro.out;have HaA:=Jf.out;have RA:rH.cell? ⟨lf,0,none⟩=some (.slice none 0 0):=(ia Cd.out 0).trans rfl;have QA:rH.cell? ⟨lf,1,none⟩=some (.int .i64 0):=(ia Cd.out 1).trans rfl;have PA:rH.cell? ⟨lf,2,none⟩=some (.int .i64 0):=(ia Cd.out 2).trans rfl;have OA:rH.cell? ⟨lf,3,none⟩=some (.int .i64 0):=(ia Cd.out 3).trans rfl;have NA:rH.cell? ⟨lf,4,none⟩=some (.int .i64 0):=(ia Cd.out 4).trans rfl;have yA:=aa Cd.out 0;have xA:=aa Cd.out 1;have wA:=aa Cd.out 2;have vA:=aa Cd.out 3;have uA:=aa Cd.out 4;have VD:rH.cell? ⟨ya,0,none⟩=some (.slice Wa Qa.length Xa):=(ia oa.out 0).trans rfl;have UD:rH.cell? ⟨ya,1,none⟩=some (.int .i64 Ja):=(ia oa.out 1).trans rfl;have TD:rH.cell? ⟨ya,2,none⟩=some (.int .i64 Ga):=(ia oa.out 2).trans rfl;have SD:rH.cell? ⟨ya,3,none⟩=some (.int .i64 Ia):=(ia oa.out 3).trans rfl;have RD:rH.cell? ⟨ya,4,none⟩=some (.slice (some Ii) Aa.length yb):=(ia oa.out 4).trans rfl;have BD:=aa oa.out 0;have zD:=aa oa.out 1;have yD:=aa oa.out 2;have xD:=aa oa.out 3;have wD:=aa oa.out 4)|((with_reducible refine Bb (f:=77) rfl ?_);refine Tc (some 44) rfl rfl Try.func77 (by kernel_rfl) rfl #[.agg #[.slice Wa Qa.length Xa,.int .i64 Ja,.int .i64 Ga,.int .i64 Ia,.slice (some Ii) Aa.length yb],.agg #[.slice Yh ((za Aa De).f0).length yg,.int .i64 ((za Aa De).f1),.int .i64 ((za Aa De).f2),.int .i64 ((za Aa De).f3),.int .i64 ((za Aa De).f4)]] rfl FaH ?_;(with_reducible refine (fk.calls _ _ Qa Ja Ga Ia _ _ Aa _ _ ((za Aa De).f0) ((za Aa De).f1) ((za Aa De).f2) ((za Aa De).f3) ((za Aa De).f4) false _ ?yc ?uc ?td ?qd ?Hp ?Gp A22.out).mono ?_);(case yc=>exact Kd.Ab fe.out NaH);(case uc=>exact ye.out);(case td=>exact Kd.Ab We.out NaH);(case qd=>exact Xf.out);(case Hp=>exact Kd.Ab Bo.out NaH);(case Gp=>exact Mv.out);rintro e MP ⟨rfl,hb⟩;refine ⟨_,rfl,?_⟩;have Cb:=ga.mk (Va (g:=ya) (o:=.cells #[.slice Wa Qa.length Xa,.int .i64 Ja,.int .i64 Ga,.int .i64 Ia,.slice (some Ii) Aa.length yb] 30 (0,0)) aaI hb);have Eb:=ga.mk (Va (g:=lf) (o:=.cells #[.slice Yh ((za Aa De).f0).length yg,.int .i64 ((za Aa De).f1),.int .i64 ((za Aa De).f2),.int .i64 ((za Aa De).f3),.int .i64 ((za Aa De).f4)] 59 (0,0)) RaH hb);have Rb:=ga.mk (Na NaH hb);clear oa Cd HB;have oa:=Cb;have Cd:=Eb;have HB:=Rb;clear Cb Eb Rb;(try clear hb);(try clear jj);(try clear hk);(try clear hi)));go_ret;exact ⟨by first|rfl|(simp [Pa,Oa] <;> rfl)|(simp [*,Pa,Oa] <;> rfl),eaI⟩
        ·rw [if_neg Ir] at H;exact absurd H (by simp)
       ·rw [if_neg vm] at H;exact absurd H (by simp)
      ·rw [if_neg Ll] at H;have Kr:decide (De < (Aa.length:Int))=false:=decide_eq_false Ll;clear Ll;obtain rfl:=Option.some.inj H;go_wp2;go_ret;exact ⟨by first|rfl|(simp [Pa,Oa] <;> rfl)|(simp [*,Pa,Oa] <;> rfl),EaH⟩
end Go.Proofs.Ytkigbdceceeenaa.P
end
section
namespace Go.Proofs.Ytkigbdceceeenaa.P
open Go.RowKit Go.Proofs.Ma.Wb Go.Proofs.Ma.Jd Go.Proofs.Ma.Fe
set_option linter.unusedVariables false
set_option linter.unusedSimpArgs false
open Classical in
noncomputable def lD (n:Nat) (p:Nat→Prop):Bool:=decide (∀ j,j < n→p j)
open Classical in
theorem jV {n:Nat} {p:Nat→Prop} (h:∀ j,j < n→p j):lD n p=true:=by
 unfold lD;exact decide_eq_true h
open Classical in
theorem MM {n:Nat} {p:Nat→Prop}:lD n p=true ↔ ∀ j,j < n→p j:=by
 unfold lD;exact decide_eq_true_iff
theorem dP {n i:Nat} {p:Nat→Prop} (hi:i < n) (h:¬ p i):lD n p=false:=by
 cases e:lD n p with
 | false=>rfl
 | true=>exact absurd (MM.mp e i hi) h
theorem rO {ρ:Type} {n:Nat} {R e:ρ} (p:Nat→Prop) (f:Nat→Nat→Option ρ) (hend:Ev (f n) R) (hyes:∀ i,i < n→p i→∀ r,Ev (f (i + 1)) r→Ev (f i) r) (hno:∀ i,i < n→¬ p i→Ev (f i) e):Ev (f 0) (bif lD n p then R else e):=by
 have key:∀ d i,i + d=n→(∀ j,j < i→p j)→Ev (f i) (bif lD n p then R else e):=by
  intro d
  induction d with
  | zero =>
   intro i hi h;have:i=n:=by omega
   subst this;rw [jV h];exact hend
  | succ d ih =>
   intro i hi h
   by_cases hp:p i
   ·refine hyes i (by omega) hp _ (ih (i + 1) (by omega) ?_);intro j hj
    by_cases hji:j=i
    ·rw [hji];exact hp
    ·exact h j (by omega)
   ·rw [dP (by omega) hp];exact hno i (by omega) hp
 exact key n 0 (by omega) (fun j hj=>absurd hj (by omega))
theorem wC {α:Type} (l:List α) (z:α) (q:α→Bool):lD l.length (fun j=>q (l.getD j z)=true) = !(l.any fun x=>!q x):=by
 rw [Bool.eq_iff_iff,MM];simp only [Bool.not_eq_true',List.any_eq_false,Bool.not_eq_true',Bool.not_eq_false]
 constructor
 ·intro h x hx;obtain ⟨j,hj,rfl⟩:=List.mem_iff_getElem.mp hx;have:=h j hj;rw [List.getD_eq_getElem?_getD,List.getElem?_eq_getElem hj] at this
  simpa using this
 ·intro h j hj;have:=h l[j] (List.getElem_mem hj);rw [List.getD_eq_getElem?_getD,List.getElem?_eq_getElem hj]
  simpa using this
end Go.Proofs.Ytkigbdceceeenaa.P
end
section
namespace Go.Proofs.Ytkigbdceceeenaa.P
open Go.RowKit Go.Proofs.Ma.Wb Go.Proofs.Ma.Jd Go.Proofs.Ma.Fe
set_option linter.unusedVariables false
set_option linter.unusedSimpArgs false
theorem GL (a b c:Int):gb.f a b c=some (mm a b c):=by
 unfold gb.f mm
 by_cases h:a ≥ b
 ·rw [if_pos h];have h':b ≤ a:=h;simp [h']
 ·rw [if_neg h];have h':¬ b ≤ a:=h;simp [h']
theorem Gg (a b c:Int):Ev (fun _=>gb.f a b c) (mm a b c):=Ev.here (GL a b c)
theorem Tab (t:ByteArray):Ev (fun k=>jf.f k ([(⟨#[61,61]⟩:ByteArray),(⟨#[60]⟩:ByteArray),(⟨#[38]⟩:ByteArray),(⟨#[43]⟩:ByteArray),(⟨#[45]⟩:ByteArray),(⟨#[42]⟩:ByteArray)]:List ByteArray) t) (wz t):=by
 refine ⟨8,fun k hk=>?_⟩;obtain ⟨m,rfl⟩:∃ m,k=m + 8:=⟨k - 8,by omega⟩;unfold jf.f wz EN;simp only [jf.l0,List.any_cons,List.any_nil]
 by_cases h0:t.toList=[61,61]
 ·simp [sg,h0]
 by_cases h1:t.toList=[60]
 ·simp [sg,h1,wrap64]
 by_cases h2:t.toList=[38]
 ·simp [sg,h2,wrap64]
 by_cases h3:t.toList=[43]
 ·simp [sg,h3,wrap64]
 by_cases h4:t.toList=[45]
 ·simp [sg,h4,wrap64]
 by_cases h5:t.toList=[42]
 ·simp [sg,h5,wrap64]
 simp [sg,Ne.symm h0,Ne.symm h1,Ne.symm h2,Ne.symm h3,Ne.symm h4,Ne.symm h5,h0,h1,h2,h3,h4,h5,wrap64]
theorem SN (s d:Int):mm d 0 (s - 1)=dm s d:=by
 unfold mm dm;rw [Bool.eq_iff_iff];simp;omega
def JH (D A B C M:Bool) (o d a b n:Int) (t:ByteArray):Bool :=
 if o=0 then D && (a == 0 && b == 0)
 else if o=1 then D && (A && (b == 0 && n == 0))
 else if o=2 then D && (A && (B && (n == 0 && wz t)))
 else if o=3 then D && M
 else if o=4 then d == 0 && (M && C)
 else if o=5 then D && (a == 0 && (b == 0 && n == 0))
 else if o=6 then d == 0 && (A && (b == 0 && n == 0))
 else false
theorem Ev.gB {b:Bool} {f:Nat→Option Bool} {r:Bool} (hf:b=true→Ev f r):Ev (fun n=>if b=true then f n else some false) (b && r):=by
 cases b with
 | true=>exact Ev.pos rfl (hf rfl)
 | false=>exact Ev.neg (by simp) (Ev.now _)
theorem Ev.AG {c:Prop} [Decidable c] {f:Nat→Option Bool} {r:Bool} (hf:c→Ev f r):Ev (fun n=>if c then f n else some false) (decide c && r):=by
 by_cases h:c
 ·rw [decide_eq_true h];exact Ev.pos h (hf h)
 ·rw [decide_eq_false h];exact Ev.neg h (Ev.now _)
section
variable {l0:List Int} {p v s:Int} {l4:List He} {o d a b c n:Int} {t:ByteArray}
theorem sM (D A B M:Bool) (x:Bool) (hs:0 ≤ s) (hs':s ≤ 1000):Ev (fun k=>zb.j1 k D A B M x l0 p v s l4 o d a b c n t) (!x && JH D A B (dm s c) M o d a b n t):=by
 refine Ev.step (fun k=>by rw [zb.j1]) ?_;cases x with
 | true=>exact Ev.pos rfl (Ev.now _)
 | false =>
  refine Ev.neg (by simp) ?_;rw [Bool.not_false,Bool.true_and];unfold JH
  by_cases h0:o=0
  ·rw [if_pos h0];exact Ev.pos h0 (Ev.gB fun _=>Ev.AG fun _=>Ev.now _)
  rw [if_neg h0];refine Ev.neg h0 ?_
  by_cases h1:o=1
  ·rw [if_pos h1];exact Ev.pos h1 (Ev.gB fun _=>Ev.gB fun _=>Ev.AG fun _=>Ev.now _)
  rw [if_neg h1];refine Ev.neg h1 ?_
  by_cases h2:o=2
  ·rw [if_pos h2];exact Ev.pos h2 (Ev.gB fun _=>Ev.gB fun _=>Ev.gB fun _=>Ev.AG fun _=>Ev.bind (Tab t) (Ev.now _))
  rw [if_neg h2];refine Ev.neg h2 ?_
  by_cases h3:o=3
  ·rw [if_pos h3,if_pos h3];exact (Ev.gB fun _=>Ev.now _)
  rw [if_neg h3,if_neg h3]
  by_cases h4:o=4
  ·rw [if_pos h4,if_pos h4];refine (Ev.AG fun _=>Ev.gB fun _=>?_);rw [cj (x:=s - 1) (by omega) (by omega),← SN];exact Ev.bind (Gg _ _ _) (Ev.now _)
  rw [if_neg h4,if_neg h4]
  by_cases h5:o=5
  ·rw [if_pos h5,if_pos h5];exact (Ev.gB fun _=>Ev.AG fun _=>Ev.AG fun _=>Ev.now _)
  rw [if_neg h5,if_neg h5]
  by_cases h6:o=6
  ·rw [if_pos h6,if_pos h6];exact (Ev.AG fun _=>Ev.gB fun _=>Ev.AG fun _=>Ev.now _)
  rw [if_neg h6,if_neg h6];exact Ev.now _
theorem Lp (M:Bool) (hM:M=((dm s a || a == -1) && (dm s b && mm n 0 ((l0.length:Int) - 1)))) (hs:0 ≤ s) (hs':s ≤ 1000):Ev (fun k=>zb.j0 k (dm s d) (dm s a) (dm s b) M l0 p v s l4 o d a b c n t) (vn l0.length s o d a b c n t):=by
 refine Ev.step (fun k=>by rw [zb.j0]) ?_
 have key:∀ x:Bool,(x=if o=2 then (c != 0) else if t.toList=[] then (if o=4 then false else (c != 0)) else true)→Ev (fun k=>zb.j1 k (dm s d) (dm s a) (dm s b) M x l0 p v s l4 o d a b c n t) (vn l0.length s o d a b c n t):=by
  intro x hx
  have e:vn l0.length s o d a b c n t=(!x && JH (dm s d) (dm s a) (dm s b) (dm s c) M o d a b n t):=by
   subst hM;subst hx;unfold vn JH
   by_cases h0:o=0
   ·subst h0;rw [Bool.eq_iff_iff]
    by_cases ht:t.toList=[] <;> simp [ht]
    all_goals (constructor <;> intro h <;> simp_all)
   by_cases h1:o=1
   ·subst h1;rw [Bool.eq_iff_iff]
    by_cases ht:t.toList=[] <;> simp [ht]
    all_goals (constructor <;> intro h <;> simp_all)
   by_cases h2:o=2
   ·subst h2;rw [Bool.eq_iff_iff];simp
    constructor <;> intro h <;> simp_all
   by_cases h3:o=3
   ·subst h3;rw [Bool.eq_iff_iff]
    by_cases ht:t.toList=[] <;> simp [ht]
    all_goals (constructor <;> intro h <;> simp_all)
   by_cases h4:o=4
   ·subst h4;rw [Bool.eq_iff_iff]
    by_cases ht:t.toList=[] <;> simp [ht]
    all_goals (constructor <;> intro h <;> simp_all)
   by_cases h5:o=5
   ·subst h5;rw [Bool.eq_iff_iff]
    by_cases ht:t.toList=[] <;> simp [ht]
    all_goals (constructor <;> intro h <;> simp_all)
   by_cases h6:o=6
   ·subst h6;rw [Bool.eq_iff_iff]
    by_cases ht:t.toList=[] <;> simp [ht]
    all_goals (constructor <;> intro h <;> simp_all)
   simp [h0,h1,h2,h3,h4,h5,h6]
  rw [e];exact sM _ _ _ _ _ hs hs'
 by_cases h2:o=2
 ·exact Ev.pos h2 (Ev.neg (by omega) (key _ (by rw [if_pos h2])))
 ·refine Ev.neg h2 ?_
  by_cases ht:t.toList=([]:List UInt8)
  ·refine Ev.pos ht ?_
   by_cases h4:o=4
   ·exact Ev.pos h4 (key _ (by rw [if_neg h2,if_pos ht,if_pos h4]))
   ·exact Ev.neg h4 (key _ (by rw [if_neg h2,if_pos ht,if_neg h4]))
  ·exact Ev.neg ht (key _ (by rw [if_neg h2,if_neg ht]))
theorem rF (hs:0 ≤ s) (hs':s ≤ 1000) (hl:l0.length ≤ 1048576):Ev (fun k=>zb.f k l0 p v s l4 o d a b c n t) (vn l0.length s o d a b c n t):=by
 unfold zb.f;rw [cj (x:=s - 1) (by omega) (by omega),cj (x:=(l0.length:Int) - 1) (by omega) (by omega)];refine Ev.bind (Gg _ _ _) (Ev.bind (Gg _ _ _) (Ev.bind (Gg _ _ _) ?_));simp only [SN];cases ha:dm s a with
 | true =>
  refine Ev.pos rfl ?_;cases hb:dm s b with
  | true=>exact Ev.pos rfl (Ev.bind (Gg _ _ _) (by have:=Lp (l0:=l0) (p:=p) (v:=v) (s:=s) (l4:=l4) (o:=o) (d:=d) (a:=a) (b:=b) (c:=c) (n:=n) (t:=t) (mm n 0 ((l0.length:Int) - 1)) (by simp [ha,hb]) hs hs';rw [ha,hb] at this;exact this))
  | false=>exact Ev.neg (by simp) (by have:=Lp (l0:=l0) (p:=p) (v:=v) (s:=s) (l4:=l4) (o:=o) (d:=d) (a:=a) (b:=b) (c:=c) (n:=n) (t:=t) false (by simp [hb]) hs hs';rw [ha,hb] at this;exact this)
 | false =>
  refine Ev.neg (by simp) ?_
  by_cases h1:a = -1
  ·refine Ev.pos h1 ?_;cases hb:dm s b with
   | true=>exact Ev.pos rfl (Ev.bind (Gg _ _ _) (by have:=Lp (l0:=l0) (p:=p) (v:=v) (s:=s) (l4:=l4) (o:=o) (d:=d) (a:=a) (b:=b) (c:=c) (n:=n) (t:=t) (mm n 0 ((l0.length:Int) - 1)) (by simp [h1,hb]) hs hs';rw [ha,hb] at this;exact this))
   | false=>exact Ev.neg (by simp) (by have:=Lp (l0:=l0) (p:=p) (v:=v) (s:=s) (l4:=l4) (o:=o) (d:=d) (a:=a) (b:=b) (c:=c) (n:=n) (t:=t) false (by simp [hb]) hs hs';rw [ha,hb] at this;exact this)
  ·exact Ev.neg h1 (by have:=Lp (l0:=l0) (p:=p) (v:=v) (s:=s) (l4:=l4) (o:=o) (d:=d) (a:=a) (b:=b) (c:=c) (n:=n) (t:=t) false (by simp [ha,h1]) hs hs';rw [ha] at this;exact this)
theorem pO (code:List Le) (j ba tg els:Int) (hs:0 ≤ s) (hs':s ≤ 1000) (hl:l0.length ≤ 1048576) (hl4:l4.length ≤ 1048576) (hc:code.length ≤ 1048576):Ev (fun k=>Cc.f k l0 p v s l4 code j ba tg els) (Hl l0.length s l4.length code j ba tg els):=by
 unfold Cc.f;have key:=rO (n:=code.length) (R:=(if j=0 then mm tg 0 ((l4.length:Int) - 1) && ba == 0 && els == 0 else if j=1 then mm tg 0 ((l4.length:Int) - 1) && mm els 0 ((l4.length:Int) - 1) && dm s ba else if j=2 then dm s ba && tg == 0 && els == 0 else false)) (e:=false) (fun i=>Yo l0.length s (code.getD i Ew)=true) (fun i k=>Cc.l0 k (i:Int) l0 p v s l4 code j ba tg els) ?_ ?_ ?_
 ·have e:(bif lD code.length (fun i=>Yo l0.length s (code.getD i Ew)=true) then (if j=0 then mm tg 0 ((l4.length:Int) - 1) && ba == 0 && els == 0 else if j=1 then mm tg 0 ((l4.length:Int) - 1) && mm els 0 ((l4.length:Int) - 1) && dm s ba else if j=2 then dm s ba && tg == 0 && els == 0 else false) else false)=Hl l0.length s l4.length code j ba tg els:=by
   rw [wC];unfold Hl;rw [decide_eq_true hs,Bool.and_true];cases (!(code.any fun x=>!Yo l0.length s x)) <;> rfl
  rw [e] at key;exact key
 ·refine Ev.step (fun k=>by rw [Cc.l0]) (Ev.neg (by omega) ?_);rw [cj (x:=s - 1) (by omega) (by omega),cj (x:=(l4.length:Int) - 1) (by omega) (by omega)];refine Ev.bind (Gg _ _ _) (Ev.bind (Gg _ _ _) ?_);rw [SN s ba]
  by_cases h0:j=0
  ·rw [if_pos h0,if_pos h0,Bool.and_assoc];exact Ev.gB fun _=>Ev.AG fun _=>Ev.now _
  rw [if_neg h0,if_neg h0]
  by_cases h1:j=1
  ·rw [if_pos h1,if_pos h1,Bool.and_assoc,Bool.and_comm (mm els 0 ((l4.length:Int) - 1))];exact Ev.gB fun _=>Ev.gB fun _=>Ev.bind (Gg _ _ _) (Ev.now _)
  rw [if_neg h1,if_neg h1]
  by_cases h2:j=2
  ·rw [if_pos h2,if_pos h2,Bool.and_assoc];exact Ev.gB fun _=>Ev.AG fun _=>Ev.now _
  rw [if_neg h2,if_neg h2];exact Ev.now _
 ·intro i hi hp r hr;refine Ev.step (fun k=>by rw [Cc.l0]) (Ev.pos (by omega) (Ev.pos (by omega) ?_));refine Ev.bind (rF hs hs' hl) ?_;have hq:vn l0.length s (Ea code (i:Int)).f0 (Ea code (i:Int)).f1 (Ea code (i:Int)).f2 (Ea code (i:Int)).f3 (Ea code (i:Int)).f4 (Ea code (i:Int)).f5 (Ea code (i:Int)).f6=true:=hp;refine Ev.pos hq ?_;rw [Rd hi (by omega)];exact hr
 ·intro i hi hp;refine Ev.step (fun k=>by rw [Cc.l0]) (Ev.pos (by omega) (Ev.pos (by omega) ?_));refine Ev.bind (rF hs hs' hl) ?_;exact Ev.neg hp (Ev.now _)
end
def Ae (l:List He):Nat:=(l.map fun x=>x.f0.length).sum
def aC (l0:List Int) (p v s:Int) (n4:Nat):Bool:=Ny l0 p v && mm s v 1000 && mm (n4:Int) 1 300
def Lr (l0:List Int) (s:Int) (l4:List He) (x:He):Bool:=Hl l0.length s l4.length x.f0 x.f1 x.f2 x.f3 x.f4
def Fm (l0:List Int) (p v s:Int) (l4:List He):Bool:=aC l0 p v s l4.length && (!(l4.any fun x=>!Lr l0 s l4 x) && decide (Ae l4 ≤ 1000))
theorem uz (l:List He) (i:Nat) (h:i < l.length):Ae (l.take (i + 1))=Ae (l.take i) + l[i].f0.length:=by
 unfold Ae;rw [List.take_succ_eq_append_getElem h,List.map_append,List.sum_append];simp
theorem JE (l:List Nat) (i:Nat):(l.take i).sum ≤ l.sum:=by
 conv=>rhs;rw [← List.take_append_drop i l]
 rw [List.sum_append];omega
theorem KE (l:List He) (i:Nat):Ae (l.take i) ≤ Ae l:=by
 unfold Ae;rw [List.map_take];exact JE _ _
theorem ux {l0:List Int} {p v s:Int} {n4:Nat} (h:aC l0 p v s n4=true):1 ≤ l0.length∧l0.length ≤ 4∧0 ≤ p∧p ≤ v∧p ≤ 6∧v ≤ 20∧v ≤ s∧s ≤ 1000∧1 ≤ n4∧n4 ≤ 300:=by
 unfold aC Ny mm at h;simp only [Bool.and_eq_true,decide_eq_true_eq] at h;obtain ⟨⟨⟨⟨⟨⟨h1,h2⟩,_⟩,h3,h4⟩,h5⟩,h6,h7⟩,h8,h9⟩:=h
 split at h4 <;> omega
section
variable {l0:List Int} {p v s:Int} {l4:List He}
theorem Vy (h0:l0.length ≤ 1048576) (hl4:l4.length ≤ 1048576) (ht:Ae l4 ≤ 1048576):Ev (fun k=>ic.f k l0 p v s l4) (Fm l0 p v s l4):=by
 unfold ic.f oh.f;simp only [List.length_nil,if_true];refine Ev.val ?_
 have no:∀ {r:Bool},r=false→Ev (fun k=>ic.j0 k true l0 p v s l4) r:=by
  intro r hr;subst hr;exact Ev.step (fun k=>by rw [ic.j0]) (Ev.pos rfl (Ev.now _))
 unfold Fm aC;cases hp:Ny l0 p v with
 | false=>exact Ev.neg (by simp) (no (by simp))
 | true =>
  refine Ev.pos rfl (Ev.bind (Ev.here (dF _ _ _)) ?_);cases hv:mm s v 1000 with
  | false=>exact Ev.neg (by simp) (no (by simp))
  | true =>
   refine Ev.pos rfl (Ev.bind (Ev.here (dF _ _ _)) ?_);cases hn:mm (l4.length:Int) 1 300 with
   | false=>exact no (by simp)
   | true =>
    refine Ev.step (fun k=>by rw [ic.j0]) (Ev.neg (by simp) ?_);simp only [Bool.true_and];have key:=rO (n:=l4.length) (R:=decide (Ae l4 ≤ 1000)) (e:=false) (fun i=>Lr l0 s l4 (l4.getD i dL)=true) (fun i k=>ic.l0 k (Ae (l4.take i):Int) l4 (l4.length:Int) (i:Int) l0 p v s l4) ?_ ?_ ?_
    ·have e:(bif lD l4.length (fun i=>Lr l0 s l4 (l4.getD i dL)=true) then decide (Ae l4 ≤ 1000) else false)=(!(l4.any fun x=>!Lr l0 s l4 x) && decide (Ae l4 ≤ 1000)):=by
      rw [wC];cases (!(l4.any fun x=>!Lr l0 s l4 x)) <;> rfl
     rw [e] at key
     simpa [Ae] using key
    ·refine Ev.step (fun k=>by rw [ic.l0]) (Ev.neg (by omega) ?_);rw [List.take_length]
     have e:decide ((Ae l4:Int) ≤ 1000)=decide (Ae l4 ≤ 1000):=by
      rw [Bool.eq_iff_iff,decide_eq_true_iff,decide_eq_true_iff];omega
     rw [e];exact Ev.now _
    ·intro i hi hq r hr;refine Ev.step (fun k=>by rw [ic.l0]) (Ev.pos (by omega) (Ev.pos (by omega) (Ev.pos (by omega) ?_)));unfold fk.f;have hq':Hl l0.length s l4.length (za l4 (i:Int)).f0 (za l4 (i:Int)).f1 (za l4 (i:Int)).f2 (za l4 (i:Int)).f3 (za l4 (i:Int)).f4=true:=hq;refine Ev.val (Ev.pos hq' ?_);have h1:=uz l4 i hi;have h2:=KE l4 (i + 1);rw [mh hi,Rd hi (by omega),cj (x:=(Ae (l4.take i):Int) + (l4[i].f0.length:Int)) (by omega) (by omega),show (Ae (l4.take i):Int) + (l4[i].f0.length:Int)=(Ae (l4.take (i + 1)):Int) from by omega];exact hr
    ·intro i hi hq;refine Ev.step (fun k=>by rw [ic.l0]) (Ev.pos (by omega) (Ev.pos (by omega) (Ev.pos (by omega) ?_)));unfold fk.f;exact Ev.val (Ev.neg hq (Ev.now _))
theorem Wy (h0:l0.length ≤ 1048576) (hl4:l4.length ≤ 1048576) (ht:Ae l4 ≤ 1048576):Ev (fun k=>Ya.f k l0 p v s l4) (Fm l0 p v s l4):=by
 unfold Ya.f
 have no:∀ {r:Bool},r=false→Ev (fun k=>Ya.j1 k true l0 p v s l4) r:=by
  intro r hr;subst hr;exact Ev.step (fun k=>by rw [Ya.j1]) (Ev.pos rfl (Ev.now _))
 have key:=rO (n:=l0.length) (R:=mm (l0.length:Int) 1 4 && (mm v 0 20 && (mm p 0 6 && (decide (p ≤ v) && (mm s v 1000 && (mm (l4.length:Int) 1 300 && (!(l4.any fun x=>!Lr l0 s l4 x) && decide (Ae l4 ≤ 1000)))))))) (e:=false) (fun i=>mm (l0.getD i 0) 1 16=true) (fun i k=>Ya.l0 k (i:Int) l0 p v s l4) ?_ ?_ ?_
 ·have e:(bif lD l0.length (fun i=>mm (l0.getD i 0) 1 16=true) then (mm (l0.length:Int) 1 4 && (mm v 0 20 && (mm p 0 6 && (decide (p ≤ v) && (mm s v 1000 && (mm (l4.length:Int) 1 300 && (!(l4.any fun x=>!Lr l0 s l4 x) && decide (Ae l4 ≤ 1000)))))))) else false)=Fm l0 p v s l4:=by
   rw [wC l0 0 (fun x=>mm x 1 16)];unfold Fm aC Ny;rw [Bool.eq_iff_iff];cases (!(l0.any fun x=>!mm x 1 16))
   ·simp
   ·simp only [cond_true,Bool.and_eq_true,mm,decide_eq_true_eq,and_assoc,true_and]
    constructor
    ·rintro ⟨h1,h2,h3,h4,h5,h6,h7,h8⟩;refine ⟨h1,h2,h5,?_,h4,h8⟩
     split <;> omega
    ·rintro ⟨h1,h2,h5,h6,h4,h7,h8,h9⟩;refine ⟨h1,h2,?_⟩
     split at h6 <;> exact ⟨by omega,by omega,by omega,by omega,by omega,h7,h8,h9⟩
  rw [e] at key;exact key
 ·refine Ev.step (fun k=>by rw [Ya.l0]) (Ev.neg (by omega) ?_);refine Ev.bind (Gg _ _ _) ?_;cases hb0:mm (l0.length:Int) 1 4 with
  | false=>exact Ev.neg (by simp) (no (by simp))
  | true =>
   refine Ev.pos rfl (Ev.bind (Gg _ _ _) ?_);cases qC:mm v 0 20 with
   | false=>exact Ev.neg (by simp) (no (by simp))
   | true =>
    refine Ev.pos rfl (Ev.bind (Gg _ _ _) ?_);cases jj:mm p 0 6 with
    | false=>exact Ev.neg (by simp) (no (by simp))
    | true =>
     refine Ev.pos rfl ?_
     by_cases hpv:p > v
     ·refine Ev.pos hpv (no ?_);rw [decide_eq_false (show ¬ p ≤ v from by omega)];simp
     ·refine Ev.neg hpv (Ev.bind (Gg _ _ _) ?_);rw [decide_eq_true (show p ≤ v from by omega)];cases hb3:mm s v 1000 with
      | false=>exact Ev.neg (by simp) (no (by simp))
      | true =>
       refine Ev.pos rfl (Ev.bind (Gg _ _ _) ?_);cases hb4:mm (l4.length:Int) 1 300 with
       | false=>exact no (by simp)
       | true =>
        refine Ev.step (fun k=>by rw [Ya.j1]) (Ev.neg (by simp) ?_);simp only [Bool.true_and];have hs0:0 ≤ s∧s ≤ 1000:=by simp [mm] at qC hb3;omega
        have key:=Gm (r:=true) (n:=l4.length) (fun i=>Ae (l4.take i) ≤ 1000→Ev (fun k=>Ya.l1 k (Ae (l4.take i):Int) (i:Int) l0 p v s l4) (!((l4.drop i).any fun x=>!Lr l0 s l4 x) && decide (Ae l4 ≤ 1000))) ?_ ?_ 0 (by omega) (by simp [Ae])
        ·rw [List.drop_zero] at key
         simpa [Ae] using key
        ·intro h;rw [List.take_length] at h;refine Ev.step (fun k=>by rw [Ya.l1]) (Ev.neg (by omega) ?_);rw [List.drop_length,decide_eq_true h];exact Ev.now _
        ·intro i hi ih h;have h1:=uz l4 i hi;have h2:=KE l4 (i + 1);refine Ev.step (fun k=>by rw [Ya.l1]) (Ev.pos (by omega) (Ev.pos (by omega) ?_));rw [mh hi,cj (x:=(Ae (l4.take i):Int) + (l4[i].f0.length:Int)) (by omega) (by omega),show (Ae (l4.take i):Int) + (l4[i].f0.length:Int)=(Ae (l4.take (i + 1)):Int) from by omega]
         have hd:((l4.drop i).any fun x=>!Lr l0 s l4 x)=(!Lr l0 s l4 l4[i] || (l4.drop (i + 1)).any fun x=>!Lr l0 s l4 x):=by
          rw [List.drop_eq_getElem_cons hi,List.any_cons]
         rw [hd]
         by_cases hgt:(Ae (l4.take (i + 1)):Int) > 1000
         ·rw [decide_eq_false (show ¬ Ae l4 ≤ 1000 from by omega),Bool.and_false];exact Ev.pos hgt (Ev.now _)
         ·refine Ev.neg hgt (Ev.bind (pO _ _ _ _ _ hs0.1 hs0.2 h0 hl4 (by omega)) ?_);cases hq:Lr l0 s l4 l4[i] with
          | false =>
           have hq':¬ Hl l0.length s l4.length l4[i].f0 l4[i].f1 l4[i].f2 l4[i].f3 l4[i].f4=true:=by
            have e:Hl l0.length s l4.length l4[i].f0 l4[i].f1 l4[i].f2 l4[i].f3 l4[i].f4=false:=hq;rw [e];simp
           exact Ev.neg hq' (Ev.now _)
          | true =>
           have hq':Hl l0.length s l4.length l4[i].f0 l4[i].f1 l4[i].f2 l4[i].f3 l4[i].f4=true:=hq;refine Ev.pos hq' ?_;rw [Rd hi (by omega),Bool.not_true,Bool.false_or];exact ih (by omega)
 ·intro i hi hq r hr;refine Ev.step (fun k=>by rw [Ya.l0]) (Ev.pos (by omega) (Ev.pos (by omega) ?_));refine Ev.bind (Gg _ _ _) (Ev.pos hq ?_);rw [Rd hi (by omega)];exact hr
 ·intro i hi hq;refine Ev.step (fun k=>by rw [Ya.l0]) (Ev.pos (by omega) (Ev.pos (by omega) ?_));exact Ev.bind (Gg _ _ _) (Ev.neg hq (Ev.now _))
end
end Go.Proofs.Ytkigbdceceeenaa.P
end
section
namespace Go.Proofs.Ytkigbdceceeenaa.P
open Go.RowKit Go.Proofs.Ma.Wb Go.Proofs.Ma.Jd Go.Proofs.Ma.Fe
set_option linter.unusedVariables false
set_option linter.unusedSimpArgs false
theorem Oo {l:List Int} {j:Nat} (hj:j < l.length):rd l (j:Int)=l[j]:=by simp [rd,List.getD_eq_getElem?_getD,hj]
def fM (b:He):List Int:=if b.f1=0 then [b.f3] else if b.f1=1 then [b.f3,b.f4] else []
theorem yU (b:He):Mm.f b.f0 b.f1 b.f2 b.f3 b.f4=some (fM b):=by
 unfold Mm.f fM
 by_cases h0:b.f1=0
 ·rw [if_pos h0,if_pos h0]
 ·rw [if_neg h0,if_neg h0]
  by_cases h1:b.f1=1
  ·rw [if_pos h1,if_pos h1]
  ·rw [if_neg h1,if_neg h1]
theorem xU (b:He):Yl.f b.f0 b.f1 b.f2 b.f3 b.f4=some (fM b):=by
 unfold Yl.f fM
 by_cases h0:b.f1=0
 ·rw [if_pos h0,if_pos h0]
 ·rw [if_neg h0,if_neg h0]
  by_cases h1:b.f1=1
  ·rw [if_pos h1,if_pos h1]
  ·rw [if_neg h1,if_neg h1]
theorem eM (b:He):(fM b).length ≤ 2:=by
 unfold fM
 by_cases h0:b.f1=0
 ·rw [if_pos h0];simp
 ·rw [if_neg h0]
  by_cases h1:b.f1=1
  ·rw [if_pos h1];simp
  ·rw [if_neg h1];simp
def Rt (bs:List He) (i:Nat):List Int:=fM (za bs (i:Int))
def uB (bs:List He):Prop:=0 < bs.length∧bs.length ≤ 1048576∧∀ i,i < bs.length→∀ j ∈ Rt bs i,0 ≤ j∧j < (bs.length:Int)
theorem CO {l0:List Int} {p v s:Int} {bs:List He} (h:Fm l0 p v s bs=true):uB bs:=by
 unfold Fm at h;simp only [Bool.and_eq_true] at h;obtain ⟨h1,h2,-⟩:=h;have hh:=ux h1;refine ⟨by omega,by omega,fun i hi j hj=>?_⟩
 have hb:Lr l0 s bs bs[i]=true:=by
  simp only [Bool.not_eq_true',List.any_eq_false] at h2;have:=h2 _ (List.getElem_mem hi)
  simpa using this
 unfold Lr Hl at hb;simp only [Bool.and_eq_true] at hb;obtain ⟨-,hb⟩:=hb;unfold Rt at hj;rw [mh hi] at hj;unfold fM at hj
 by_cases h0:bs[i].f1=0
 ·rw [if_pos h0] at hj hb;simp only [Bool.and_eq_true,mm,decide_eq_true_eq] at hb;rw [List.mem_singleton] at hj;subst hj;omega
 ·rw [if_neg h0] at hj hb
  by_cases h1:bs[i].f1=1
  ·rw [if_pos h1] at hj hb;simp only [Bool.and_eq_true,mm,decide_eq_true_eq] at hb;simp only [List.mem_cons,List.not_mem_nil,or_false] at hj
   rcases hj with hj|hj <;> subst hj <;> omega
  ·rw [if_neg h1] at hj;cases hj
def seen (s:List Bool) (j:Nat):Bool:=s.getD j false
theorem Oj (s:List Bool) (j:Nat):sg false s (j:Int)=seen s j:=rfl
theorem Em {s:List Bool} {j:Nat} (h:seen s j=true):j < s.length:=by
 unfold seen at h
 rcases Nat.lt_or_ge j s.length with h'|h'
 ·exact h'
 ·rw [List.getD_eq_getElem?_getD,List.getElem?_eq_none h'] at h;simp at h
def news (s:List Bool):Nat:=s.count false
def Shut (nx:Nat→List Int) (s:List Bool) (q:List Int) (i:Nat):Prop:=∀ j,seen s j=true→(j:Int) ∉ q→j ≠ i→∀ m ∈ nx j,seen s m.toNat=true
theorem Bz {s t:List Bool} (hl:s.length=t.length) (h:∀ j,seen s j=true ↔ seen t j=true):s=t:=by
 apply List.ext_getElem hl;intro i h1 h2;have:=h i;unfold seen at this;rw [List.getD_eq_getElem?_getD,List.getElem?_eq_getElem h1,List.getD_eq_getElem?_getD,List.getElem?_eq_getElem h2] at this;simp only [Option.getD_some] at this;exact Bool.eq_iff_iff.mpr this
theorem CB (n j:Nat):seen (List.replicate n false) j=false:=by
 unfold seen;rw [List.getD_eq_getElem?_getD,List.getElem?_replicate]
 by_cases h:j < n
 ·rw [if_pos h];rfl
 ·rw [if_neg h];rfl
end Go.Proofs.Ytkigbdceceeenaa.P
end
