import Derived.Shelf.Abstract
import Derived.Test.YtgflknmbnblpaaaDoorQShowCode1
import Derived.Test.YtgflknmbnblpaaaDoorQShowCode2
import Derived.Outline
import Derived.Shelf.Strings.Builder1
import Derived.Shelf.Strings.Builder2
import Derived.Shelf.Strings.OnBuilder
import Derived.Shelf.Strings.BuilderF
import Derived.Shelf.Strings.BuilderK
import Derived.Shelf.Strings.Builder2Cap
import Derived.Shelf.Strconv.Itoa0
import Derived.Shelf.Strconv.Itoa1
import Derived.Shelf.LaysM
import Derived.Shelf.Strconv.Itoa2
import Derived.Shelf.Strconv.Itoa3
import Derived.Shelf.Slices.Turned
import Derived.Lib.LaidTab
import Derived.Lib.SmallJoins
set_option maxHeartbeats 8000000
set_option maxRecDepth 100000
section
namespace Go.Proofs.YtgflknmbnblpaaaDoor.P
open Go.RowKit Go.Proofs.Aa.gb Go.Proofs.Aa.Wc Go.Proofs.Aa.ze
set_option linter.unusedVariables false
set_option linter.unusedSimpArgs false
theorem Rp (g:Nat) (lb:Array Value) (p:Int→Bool) (eg:∀ args w,(callFunc g args).run Tryd.prog w = .ok (.enter g args) w) (A0:Option Addr) (c0:Nat) (l0:List Int) (w:World) (Yg:Kd.C (Kd.int .i64) w A0 l0.length l0) (hc0:l0.length ≤ c0)
  (hp:∀ (W:World) (x:Int),Below w.heap.size w W→Calls Tryd.prog g (#[(.int .i64 x)] ++ lb) W fun e w'=>e = .returned (.bool (p x))∧Below W.heap.size W w') :
  Calls Tryd.prog 56 #[.slice A0 l0.length c0,.func (.func g) #[] lb] w fun e w'=>(∃ i:Int,e = .returned (.int .i64 i)∧decide (0 ≤ i)=l0.any p)∧Below w.heap.size w w':=by
 have uH:=Yg.2.1;have Jr:=oa.mk Yg;have QA:=oa.mk hc0;have HP:=oa.mk hp;clear Yg hc0 hp;go_enter Tryd.func56,Tryd.ntmps56;go_wp2
 go_loopg [5,8] l0.length (fun gg _ s8 wr=>∃ kk:Nat,kk ≤ l0.length∧l0.length - kk ≤ gg∧s8 = .int .i64 kk∧oa (Below w.heap.size w wr)∧oa ((l0.take kk).any p=false))
 case atStart=>exact ⟨0,Nat.zero_le _,by omega,rfl,⟨Below.refl _ w⟩,⟨by simp⟩⟩
 case round =>
  (try clear BW);(try clear HA);obtain ⟨kk,hkk,hg,rfl,BW,HA⟩:=hrel
  by_cases hlt:kk < l0.length
  ·have p1:0 ≤ (kk:Int):=by omega
   have q1:(kk:Int) < (l0.length:Int):=by omega
   obtain ⟨ad,e1,hx0⟩:=Kd.Ch Jr.out (kk:Int) p1 q1;cases e1;simp only [Int.toNat_natCast] at hx0;replace hx0:=(BW.out.cell (World.block_lt_of_cell? w _ hx0)).trans hx0;have uk:=HP.out wr (rd l0 (kk:Int)) BW.out;cases hq:p (rd l0 (kk:Int)) with
   | true =>
    rw [hq] at uk;go_wp2_with (go_at_fn g;refine uk.mono ?_;rintro e w1 ⟨rfl,xp⟩);go_ret;exact ⟨⟨_,rfl,by rw [Ut (d:=0) hlt hq];simp⟩,BW.out.trans (xp.mono BW.out.size)⟩
   | false =>
    rw [hq] at uk;go_wp2_with (go_at_fn g;refine uk.mono ?_;rintro e w1 ⟨rfl,xp⟩)
    go_roundg (l0.length - (kk + 1))
    case measure=>omega
    case rel=>exact ⟨kk + 1,by omega,by omega,by go_num,⟨BW.out.trans (xp.mono BW.out.size)⟩,⟨any_take_succ (d:=0) hlt HA.out hq⟩⟩
  ·have vH:¬ (kk:Int) < (l0.length:Int):=by omega
   have he:kk=l0.length:=by omega
   subst he;go_wp2;go_ret;exact ⟨⟨_,rfl,by have h_:=HA.out;rw [List.take_length] at h_;rw [h_];simp⟩,BW.out⟩
theorem Fk (g:Nat) (lb:Array Value) (p:Int→Bool) (eg:∀ args w,(callFunc g args).run Tryd.prog w = .ok (.enter g args) w) (A0:Option Addr) (c0:Nat) (l0:List Int) (w:World) (Yg:Kd.C (Kd.int .i64) w A0 l0.length l0) (hc0:l0.length ≤ c0)
  (hp:∀ (W:World) (x:Int),Below w.heap.size w W→Calls Tryd.prog g (#[(.int .i64 x)] ++ lb) W fun e w'=>e = .returned (.bool (p x))∧Below W.heap.size W w') :
  Calls Tryd.prog 45 #[.slice A0 l0.length c0,.func (.func g) #[] lb] w fun e w'=>e = .returned (.bool (l0.any p))∧Below w.heap.size w w':=by
 have HI:=oa.mk (Rp g lb p eg A0 c0 l0 w Yg hc0 hp);clear Yg hc0 hp;go_enter Tryd.func45,Tryd.ntmps45;go_wp2_with (go_at_call 56;refine HI.out.mono ?_;rintro e w1 ⟨⟨i,rfl,hi⟩,xp⟩;have HD:=oa.mk hi;clear hi);go_ret;exact ⟨by rw [← HD.out];first|rfl|simp,xp⟩
def af (a b c:Int):Bool:=decide (b ≤ a) && decide (a ≤ c)
theorem Od (a b c:Int) (w:World):Calls Tryd.prog 37 #[.int .i64 a,.int .i64 b,.int .i64 c] w fun e w'=>e = .returned (.bool (af a b c))∧ec w w' :=
 ql.calls a b c (af a b c) w (by
  unfold ql.f af
  by_cases h:a ≥ b
  ·rw [if_pos h];have h':b ≤ a:=h;simp [h']
  ·rw [if_neg h];have h':¬ b ≤ a:=h
   simp [h'])
def Rl (l:List Int) (p v:Int):Bool:=af (l.length:Int) 1 4 && !(l.any fun n=>!af n 1 16) && af p 0 (if v < 6 then v else 6) && decide (v ≤ 20)
theorem Pp (W:World) (x:Int):Calls Tryd.prog 46 #[.int .i64 x] W fun e w'=>e = .returned (.bool (!af x 1 16))∧Below W.heap.size W w':=by
 have HC:=oa.mk (Od x 1 16);generalize af x 1 16=b at HC ⊢;go_enter Tryd.func46,Tryd.ntmps46;go_wp2_with (go_at_call 37;refine (HC.out _).mono ?_;rintro e w1 ⟨rfl,xp⟩;have HD:=oa.mk xp.below;clear xp);go_ret;exact ⟨rfl,HD.out⟩
theorem Zo (p0 p1 p2 p3:Value) (A:Option Addr) (c:Nat) (w:World) :
  Calls Tryd.prog 47 #[.agg #[p0,p1,p2,p3],.slice A 0 c,.int .i64 0] w fun e w'=>e = .returned (.bool true)∧Below w.heap.size w w':=by
 go_enter Tryd.func47,Tryd.ntmps47;go_wp2
 go_loop [25] (fun i=>i = .int .i64 0) (fun _=>0)
 case atStart=>exact rfl
 case round =>
  obtain rfl:=hrel;go_wp2;go_ret;exact ⟨rfl,ia (ia (Below.refl _ _) _) _⟩
theorem Cm (A0 A3:Option Addr) (c0 c3:Nat) (l0:List Int) (a1 a2:Int) (w:World) (Yg:Kd.C (Kd.int .i64) w A0 l0.length l0) (hc0:l0.length ≤ c0) :
  Calls Tryd.prog 36 #[.agg #[.slice A0 l0.length c0,.int .i64 a1,.int .i64 a2,.slice A3 0 c3]] w fun e w'=>e = .returned (.bool (Rl l0 a1 a2))∧Below w.heap.size w w':=by
 have eg:=enters_of Tryd.func46 (by kernel_rfl) rfl;have uH:=Yg.2.1;have UK:=oa.mk (Od (l0.length:Int) 1 4);have TK:=oa.mk (Od a1 0 (if a2 < 6 then a2 else 6));have HF:=oa.mk (fun (W:World) (hb:Below w.heap.size w W)=>Fk 46 #[] (fun n=>!af n 1 16) eg A0 c0 l0 W (Kd.Sb Yg hb) hc0 (fun W x _=>Pp W x));clear Yg hc0;unfold Rl
 by_cases h6:a2 < 6
 all_goals
  have hmin:min 6 a2=if a2 < 6 then a2 else 6:=by split <;> omega
  first|rw [if_pos h6] at TK hmin ⊢|rw [if_neg h6] at TK hmin ⊢
  cases xp:af (l0.length:Int) 1 4 with
  | false =>
   go_enter Tryd.func36,Tryd.ntmps36;go_wp2_with (first|(go_at_call 37;refine (Od _ _ _ _).mono ?_;rintro e w1 ⟨rfl,⟨n,rfl⟩⟩));go_ret;exact ⟨rfl,aa (ia (Below.refl _ _) _) _⟩
  | true =>
   cases hb2:(l0.any fun n=>!af n 1 16) with
   | true =>
    rw [hb2] at HF;go_enter Tryd.func36,Tryd.ntmps36;go_wp2_with (first|(go_at_call 37;refine (Od _ _ _ _).mono ?_;rintro e w1 ⟨rfl,⟨n,rfl⟩⟩)|(go_at_call 45;refine (HF.out _ (aa (ia (Below.refl _ _) _) _)).mono ?_;rintro e w1 ⟨rfl,hb⟩;have HB:=oa.mk (Ta (aa (ia (Below.refl _ _) _) _) hb);clear hb));go_ret;exact ⟨rfl,HB.out⟩
   | false =>
    rw [hb2] at HF;go_enter Tryd.func36,Tryd.ntmps36;go_wp2_with (first|(go_at_call 37;(with_reducible refine (Od _ _ _ _).mono ?_);rintro e w1 ⟨rfl,⟨n,rfl⟩⟩)|(go_at_call 45;(with_reducible refine (HF.out _ (aa (ia (Below.refl _ _) _) _)).mono ?_);rintro e w1 ⟨rfl,hb⟩;have HB:=oa.mk (Ta (aa (ia (Below.refl _ _) _) _) hb);obtain ⟨SA,GJ⟩:=Cv hb;have gB:=hb.size;simp at gB;clear hb)|(go_at_call 47;(with_reducible refine (Zo _ _ _ _ _ _ _).mono ?_);rintro e w2 ⟨rfl,hb⟩;have ZL:=oa.mk (Ta (aa HB.out _) hb);clear hb))
    all_goals
     go_ret
     first
      | exact ⟨by simp [*],ZL.out⟩
      | exact ⟨by simp [*],aa HB.out _⟩
def Im (n:Int) (has:Bool):Bool:=af n 0 15 && (has || n == 0)
def uc (v most r:Int) (hr:Bool) (a:Int) (ha:Bool) (b:Int) (hb:Bool):Bool:=af v 0 most && Im r hr && Im a ha && Im b hb
def qf (ns:Int) (slots:Int) (nc:Int) (o r a b v:Int):Bool :=
 if o=0 then uc 0 0 r true a false b false
 else if o=1 then uc v (wrap64 (slots - 1)) r true a false b false
 else if o=2 then uc v (wrap64 (slots - 1)) r true a false b false
 else if o=3 then uc v 5 r true a true b true
 else if o=4 then uc v (ns - 1) r true a true b false
 else if o=5 then uc v (ns - 1) r true a true b false
 else if o=6 then uc v 0 r true a false b false
 else if o=7 then uc v 0 r true a false b false
 else if o=8 then uc v (nc - 1) r false a false b false
 else if o=9 then uc v (nc - 1) r true a false b false
 else if o=10 then uc v 0 r true a false b false
 else if o=11 then uc v 0 r true a true b false
 else false
theorem Je (n:Int) (has:Bool) (w:World):Calls Tryd.prog 49 #[.int .i64 n,.bool has] w fun e w'=>e = .returned (.bool (Im n has))∧ec w w':=by
 unfold Im;cases has <;> cases h2:(n == 0)
 all_goals
  go_enter Tryd.func49,Tryd.ntmps49;go_wp2_with (first|(go_at_call 37;(with_reducible refine (Od _ _ _ _).mono ?_);rintro e w1 ⟨rfl,⟨m,rfl⟩⟩))
  all_goals
   go_ret
   first
    | exact ⟨by simp [*],⟨⟨m,rfl⟩⟩⟩
theorem Lq (A0 A3:Option Addr) (c0 c3 n0 n3:Nat) (p1 slots r a b v:Int) (w:World) (hn0:n0 ≤ 9223372036854775807) (Bk:n3 ≤ 9223372036854775807) :
  Calls Tryd.prog 40 #[.agg #[.slice A0 n0 c0,.int .i64 p1,.int .i64 slots,.slice A3 n3 c3],.agg #[.int .i64 0,.int .i64 r,.int .i64 a,.int .i64 b,.int .i64 v]] w fun e w'=>e = .returned (.bool (uc 0 0 r true a false b false))∧Below w.heap.size w w':=by
 go_enter Tryd.func40,Tryd.ntmps40;go_wp2_with (first|(go_at_call 37;(with_reducible refine (Od _ _ _ _).mono ?_);rintro e w1 ⟨rfl,⟨n,rfl⟩⟩)|(go_at_call 49;(with_reducible refine (Je _ _ _).mono ?_);rintro e w1 ⟨rfl,⟨n,rfl⟩⟩))
 all_goals
  go_ret;exact ⟨by simp [uc, *],by repeat (first|exact Below.refl _ _|apply aa|apply ia)⟩
theorem Kq (A0 A3:Option Addr) (c0 c3 n0 n3:Nat) (p1 slots r a b v:Int) (w:World) (hn0:n0 ≤ 9223372036854775807) (Bk:n3 ≤ 9223372036854775807) :
  Calls Tryd.prog 40 #[.agg #[.slice A0 n0 c0,.int .i64 p1,.int .i64 slots,.slice A3 n3 c3],.agg #[.int .i64 1,.int .i64 r,.int .i64 a,.int .i64 b,.int .i64 v]] w fun e w'=>e = .returned (.bool (uc v (wrap64 (slots - 1)) r true a false b false))∧Below w.heap.size w w':=by
 go_enter Tryd.func40,Tryd.ntmps40;go_wp2_with (first|(go_at_call 37;(with_reducible refine (Od _ _ _ _).mono ?_);rintro e w1 ⟨rfl,⟨n,rfl⟩⟩)|(go_at_call 49;(with_reducible refine (Je _ _ _).mono ?_);rintro e w1 ⟨rfl,⟨n,rfl⟩⟩))
 all_goals
  go_ret;exact ⟨by simp [uc, *],by repeat (first|exact Below.refl _ _|apply aa|apply ia)⟩
theorem Jq (A0 A3:Option Addr) (c0 c3 n0 n3:Nat) (p1 slots r a b v:Int) (w:World) (hn0:n0 ≤ 9223372036854775807) (Bk:n3 ≤ 9223372036854775807) :
  Calls Tryd.prog 40 #[.agg #[.slice A0 n0 c0,.int .i64 p1,.int .i64 slots,.slice A3 n3 c3],.agg #[.int .i64 2,.int .i64 r,.int .i64 a,.int .i64 b,.int .i64 v]] w fun e w'=>e = .returned (.bool (uc v (wrap64 (slots - 1)) r true a false b false))∧Below w.heap.size w w':=by
 go_enter Tryd.func40,Tryd.ntmps40;go_wp2_with (first|(go_at_call 37;(with_reducible refine (Od _ _ _ _).mono ?_);rintro e w1 ⟨rfl,⟨n,rfl⟩⟩)|(go_at_call 49;(with_reducible refine (Je _ _ _).mono ?_);rintro e w1 ⟨rfl,⟨n,rfl⟩⟩))
 all_goals
  go_ret;exact ⟨by simp [uc, *],by repeat (first|exact Below.refl _ _|apply aa|apply ia)⟩
theorem Iq (A0 A3:Option Addr) (c0 c3 n0 n3:Nat) (p1 slots r a b v:Int) (w:World) (hn0:n0 ≤ 9223372036854775807) (Bk:n3 ≤ 9223372036854775807) :
  Calls Tryd.prog 40 #[.agg #[.slice A0 n0 c0,.int .i64 p1,.int .i64 slots,.slice A3 n3 c3],.agg #[.int .i64 3,.int .i64 r,.int .i64 a,.int .i64 b,.int .i64 v]] w fun e w'=>e = .returned (.bool (uc v 5 r true a true b true))∧Below w.heap.size w w':=by
 go_enter Tryd.func40,Tryd.ntmps40;go_wp2_with (first|(go_at_call 37;(with_reducible refine (Od _ _ _ _).mono ?_);rintro e w1 ⟨rfl,⟨n,rfl⟩⟩)|(go_at_call 49;(with_reducible refine (Je _ _ _).mono ?_);rintro e w1 ⟨rfl,⟨n,rfl⟩⟩))
 all_goals
  go_ret;exact ⟨by simp [uc, *],by repeat (first|exact Below.refl _ _|apply aa|apply ia)⟩
theorem Hq (A0 A3:Option Addr) (c0 c3 n0 n3:Nat) (p1 slots r a b v:Int) (w:World) (hn0:n0 ≤ 9223372036854775807) (Bk:n3 ≤ 9223372036854775807) :
  Calls Tryd.prog 40 #[.agg #[.slice A0 n0 c0,.int .i64 p1,.int .i64 slots,.slice A3 n3 c3],.agg #[.int .i64 4,.int .i64 r,.int .i64 a,.int .i64 b,.int .i64 v]] w fun e w'=>e = .returned (.bool (uc v ((n0:Int) - 1) r true a true b false))∧Below w.heap.size w w':=by
 go_enter Tryd.func40,Tryd.ntmps40;go_wp2_with (first|(go_at_call 37;(with_reducible refine (Od _ _ _ _).mono ?_);rintro e w1 ⟨rfl,⟨n,rfl⟩⟩)|(go_at_call 49;(with_reducible refine (Je _ _ _).mono ?_);rintro e w1 ⟨rfl,⟨n,rfl⟩⟩))
 all_goals
  go_ret;exact ⟨by simp [uc, *],by repeat (first|exact Below.refl _ _|apply aa|apply ia)⟩
theorem Gq (A0 A3:Option Addr) (c0 c3 n0 n3:Nat) (p1 slots r a b v:Int) (w:World) (hn0:n0 ≤ 9223372036854775807) (Bk:n3 ≤ 9223372036854775807) :
  Calls Tryd.prog 40 #[.agg #[.slice A0 n0 c0,.int .i64 p1,.int .i64 slots,.slice A3 n3 c3],.agg #[.int .i64 5,.int .i64 r,.int .i64 a,.int .i64 b,.int .i64 v]] w fun e w'=>e = .returned (.bool (uc v ((n0:Int) - 1) r true a true b false))∧Below w.heap.size w w':=by
 go_enter Tryd.func40,Tryd.ntmps40;go_wp2_with (first|(go_at_call 37;(with_reducible refine (Od _ _ _ _).mono ?_);rintro e w1 ⟨rfl,⟨n,rfl⟩⟩)|(go_at_call 49;(with_reducible refine (Je _ _ _).mono ?_);rintro e w1 ⟨rfl,⟨n,rfl⟩⟩))
 all_goals
  go_ret;exact ⟨by simp [uc, *],by repeat (first|exact Below.refl _ _|apply aa|apply ia)⟩
theorem Fq (A0 A3:Option Addr) (c0 c3 n0 n3:Nat) (p1 slots r a b v:Int) (w:World) (hn0:n0 ≤ 9223372036854775807) (Bk:n3 ≤ 9223372036854775807) :
  Calls Tryd.prog 40 #[.agg #[.slice A0 n0 c0,.int .i64 p1,.int .i64 slots,.slice A3 n3 c3],.agg #[.int .i64 6,.int .i64 r,.int .i64 a,.int .i64 b,.int .i64 v]] w fun e w'=>e = .returned (.bool (uc v 0 r true a false b false))∧Below w.heap.size w w':=by
 go_enter Tryd.func40,Tryd.ntmps40;go_wp2_with (first|(go_at_call 37;(with_reducible refine (Od _ _ _ _).mono ?_);rintro e w1 ⟨rfl,⟨n,rfl⟩⟩)|(go_at_call 49;(with_reducible refine (Je _ _ _).mono ?_);rintro e w1 ⟨rfl,⟨n,rfl⟩⟩))
 all_goals
  go_ret;exact ⟨by simp [uc, *],by repeat (first|exact Below.refl _ _|apply aa|apply ia)⟩
theorem Dq (A0 A3:Option Addr) (c0 c3 n0 n3:Nat) (p1 slots r a b v:Int) (w:World) (hn0:n0 ≤ 9223372036854775807) (Bk:n3 ≤ 9223372036854775807) :
  Calls Tryd.prog 40 #[.agg #[.slice A0 n0 c0,.int .i64 p1,.int .i64 slots,.slice A3 n3 c3],.agg #[.int .i64 7,.int .i64 r,.int .i64 a,.int .i64 b,.int .i64 v]] w fun e w'=>e = .returned (.bool (uc v 0 r true a false b false))∧Below w.heap.size w w':=by
 go_enter Tryd.func40,Tryd.ntmps40;go_wp2_with (first|(go_at_call 37;(with_reducible refine (Od _ _ _ _).mono ?_);rintro e w1 ⟨rfl,⟨n,rfl⟩⟩)|(go_at_call 49;(with_reducible refine (Je _ _ _).mono ?_);rintro e w1 ⟨rfl,⟨n,rfl⟩⟩))
 all_goals
  go_ret;exact ⟨by simp [uc, *],by repeat (first|exact Below.refl _ _|apply aa|apply ia)⟩
theorem Cq (A0 A3:Option Addr) (c0 c3 n0 n3:Nat) (p1 slots r a b v:Int) (w:World) (hn0:n0 ≤ 9223372036854775807) (Bk:n3 ≤ 9223372036854775807) :
  Calls Tryd.prog 40 #[.agg #[.slice A0 n0 c0,.int .i64 p1,.int .i64 slots,.slice A3 n3 c3],.agg #[.int .i64 8,.int .i64 r,.int .i64 a,.int .i64 b,.int .i64 v]] w fun e w'=>e = .returned (.bool (uc v ((n3:Int) - 1) r false a false b false))∧Below w.heap.size w w':=by
 go_enter Tryd.func40,Tryd.ntmps40;go_wp2_with (first|(go_at_call 37;(with_reducible refine (Od _ _ _ _).mono ?_);rintro e w1 ⟨rfl,⟨n,rfl⟩⟩)|(go_at_call 49;(with_reducible refine (Je _ _ _).mono ?_);rintro e w1 ⟨rfl,⟨n,rfl⟩⟩))
 all_goals
  go_ret;exact ⟨by simp [uc, *],by repeat (first|exact Below.refl _ _|apply aa|apply ia)⟩
theorem Bq (A0 A3:Option Addr) (c0 c3 n0 n3:Nat) (p1 slots r a b v:Int) (w:World) (hn0:n0 ≤ 9223372036854775807) (Bk:n3 ≤ 9223372036854775807) :
  Calls Tryd.prog 40 #[.agg #[.slice A0 n0 c0,.int .i64 p1,.int .i64 slots,.slice A3 n3 c3],.agg #[.int .i64 9,.int .i64 r,.int .i64 a,.int .i64 b,.int .i64 v]] w fun e w'=>e = .returned (.bool (uc v ((n3:Int) - 1) r true a false b false))∧Below w.heap.size w w':=by
 go_enter Tryd.func40,Tryd.ntmps40;go_wp2_with (first|(go_at_call 37;(with_reducible refine (Od _ _ _ _).mono ?_);rintro e w1 ⟨rfl,⟨n,rfl⟩⟩)|(go_at_call 49;(with_reducible refine (Je _ _ _).mono ?_);rintro e w1 ⟨rfl,⟨n,rfl⟩⟩))
 all_goals
  go_ret;exact ⟨by simp [uc, *],by repeat (first|exact Below.refl _ _|apply aa|apply ia)⟩
theorem Np (A0 A3:Option Addr) (c0 c3 n0 n3:Nat) (p1 slots r a b v:Int) (w:World) (hn0:n0 ≤ 9223372036854775807) (Bk:n3 ≤ 9223372036854775807) :
  Calls Tryd.prog 40 #[.agg #[.slice A0 n0 c0,.int .i64 p1,.int .i64 slots,.slice A3 n3 c3],.agg #[.int .i64 10,.int .i64 r,.int .i64 a,.int .i64 b,.int .i64 v]] w fun e w'=>e = .returned (.bool (uc v 0 r true a false b false))∧Below w.heap.size w w':=by
 go_enter Tryd.func40,Tryd.ntmps40;go_wp2_with (first|(go_at_call 37;(with_reducible refine (Od _ _ _ _).mono ?_);rintro e w1 ⟨rfl,⟨n,rfl⟩⟩)|(go_at_call 49;(with_reducible refine (Je _ _ _).mono ?_);rintro e w1 ⟨rfl,⟨n,rfl⟩⟩))
 all_goals
  go_ret;exact ⟨by simp [uc, *],by repeat (first|exact Below.refl _ _|apply aa|apply ia)⟩
theorem Mp (A0 A3:Option Addr) (c0 c3 n0 n3:Nat) (p1 slots r a b v:Int) (w:World) (hn0:n0 ≤ 9223372036854775807) (Bk:n3 ≤ 9223372036854775807) :
  Calls Tryd.prog 40 #[.agg #[.slice A0 n0 c0,.int .i64 p1,.int .i64 slots,.slice A3 n3 c3],.agg #[.int .i64 11,.int .i64 r,.int .i64 a,.int .i64 b,.int .i64 v]] w fun e w'=>e = .returned (.bool (uc v 0 r true a true b false))∧Below w.heap.size w w':=by
 go_enter Tryd.func40,Tryd.ntmps40;go_wp2_with (first|(go_at_call 37;(with_reducible refine (Od _ _ _ _).mono ?_);rintro e w1 ⟨rfl,⟨n,rfl⟩⟩)|(go_at_call 49;(with_reducible refine (Je _ _ _).mono ?_);rintro e w1 ⟨rfl,⟨n,rfl⟩⟩))
 all_goals
  go_ret;exact ⟨by simp [uc, *],by repeat (first|exact Below.refl _ _|apply aa|apply ia)⟩
theorem Lp (A0 A3:Option Addr) (c0 c3 n0 n3:Nat) (p1 slots r a b v:Int) (w:World) (hn0:n0 ≤ 9223372036854775807) (Bk:n3 ≤ 9223372036854775807) (o:Int) (h0:(o == 0)=false) (h1:(o == 1)=false) (h2:(o == 2)=false) (h3:(o == 3)=false) (h4:(o == 4)=false) (h5:(o == 5)=false) (h6:(o == 6)=false) (h7:(o == 7)=false) (h8:(o == 8)=false) (h9:(o == 9)=false) (h10:(o == 10)=false) (h11:(o == 11)=false) :
  Calls Tryd.prog 40 #[.agg #[.slice A0 n0 c0,.int .i64 p1,.int .i64 slots,.slice A3 n3 c3],.agg #[.int .i64 o,.int .i64 r,.int .i64 a,.int .i64 b,.int .i64 v]] w fun e w'=>e = .returned (.bool false)∧Below w.heap.size w w':=by
 go_enter Tryd.func40,Tryd.ntmps40;go_wp2_with (first|(go_at_call 37;(with_reducible refine (Od _ _ _ _).mono ?_);rintro e w1 ⟨rfl,⟨n,rfl⟩⟩)|(go_at_call 49;(with_reducible refine (Je _ _ _).mono ?_);rintro e w1 ⟨rfl,⟨n,rfl⟩⟩));go_ret;exact ⟨rfl,by repeat (first|exact Below.refl _ _|apply aa|apply ia)⟩
theorem Cn (A0 A3:Option Addr) (c0 c3 n0 n3:Nat) (p1 slots r a b v:Int) (w:World) (hn0:n0 ≤ 9223372036854775807) (Bk:n3 ≤ 9223372036854775807) (o:Int) :
  Calls Tryd.prog 40 #[.agg #[.slice A0 n0 c0,.int .i64 p1,.int .i64 slots,.slice A3 n3 c3],.agg #[.int .i64 o,.int .i64 r,.int .i64 a,.int .i64 b,.int .i64 v]] w fun e w'=>e = .returned (.bool (qf n0 slots n3 o r a b v))∧Below w.heap.size w w':=by
 unfold qf
 by_cases h0:o=0
 ·rw [if_pos h0,h0];exact Lq A0 A3 c0 c3 n0 n3 p1 slots r a b v w hn0 Bk
 rw [if_neg h0]
 by_cases h1:o=1
 ·rw [if_pos h1,h1];exact Kq A0 A3 c0 c3 n0 n3 p1 slots r a b v w hn0 Bk
 rw [if_neg h1]
 by_cases h2:o=2
 ·rw [if_pos h2,h2];exact Jq A0 A3 c0 c3 n0 n3 p1 slots r a b v w hn0 Bk
 rw [if_neg h2]
 by_cases h3:o=3
 ·rw [if_pos h3,h3];exact Iq A0 A3 c0 c3 n0 n3 p1 slots r a b v w hn0 Bk
 rw [if_neg h3]
 by_cases h4:o=4
 ·rw [if_pos h4,h4];exact Hq A0 A3 c0 c3 n0 n3 p1 slots r a b v w hn0 Bk
 rw [if_neg h4]
 by_cases h5:o=5
 ·rw [if_pos h5,h5];exact Gq A0 A3 c0 c3 n0 n3 p1 slots r a b v w hn0 Bk
 rw [if_neg h5]
 by_cases h6:o=6
 ·rw [if_pos h6,h6];exact Fq A0 A3 c0 c3 n0 n3 p1 slots r a b v w hn0 Bk
 rw [if_neg h6]
 by_cases h7:o=7
 ·rw [if_pos h7,h7];exact Dq A0 A3 c0 c3 n0 n3 p1 slots r a b v w hn0 Bk
 rw [if_neg h7]
 by_cases h8:o=8
 ·rw [if_pos h8,h8];exact Cq A0 A3 c0 c3 n0 n3 p1 slots r a b v w hn0 Bk
 rw [if_neg h8]
 by_cases h9:o=9
 ·rw [if_pos h9,h9];exact Bq A0 A3 c0 c3 n0 n3 p1 slots r a b v w hn0 Bk
 rw [if_neg h9]
 by_cases h10:o=10
 ·rw [if_pos h10,h10];exact Np A0 A3 c0 c3 n0 n3 p1 slots r a b v w hn0 Bk
 rw [if_neg h10]
 by_cases h11:o=11
 ·rw [if_pos h11,h11];exact Mp A0 A3 c0 c3 n0 n3 p1 slots r a b v w hn0 Bk
 rw [if_neg h11];exact Lp A0 A3 c0 c3 n0 n3 p1 slots r a b v w hn0 Bk o (beq_eq_false_iff_ne.mpr h0) (beq_eq_false_iff_ne.mpr h1) (beq_eq_false_iff_ne.mpr h2) (beq_eq_false_iff_ne.mpr h3) (beq_eq_false_iff_ne.mpr h4) (beq_eq_false_iff_ne.mpr h5) (beq_eq_false_iff_ne.mpr h6) (beq_eq_false_iff_ne.mpr h7) (beq_eq_false_iff_ne.mpr h8) (beq_eq_false_iff_ne.mpr h9) (beq_eq_false_iff_ne.mpr h10) (beq_eq_false_iff_ne.mpr h11)
def Eg (l0:List Int) (p s:Int) (l3:List Pd):Bool :=
 Rl l0 0 0 && af p 0 6 && af s p 1000 && af (l3.length:Int) 1 6000 && (((za l3 ((l3.length:Int) - 1)).f0 == 10) || ((za l3 ((l3.length:Int) - 1)).f0 == 8)) &&
  !(l3.any fun x=>!qf (l0.length:Int) s (l3.length:Int) x.f0 x.f1 x.f2 x.f3 x.f4)
theorem iu (B:Nat) (A0 A3:Option Addr) (c0 c3 n0 n3:Nat) (p1 slots:Int) (hn0:n0 ≤ 9223372036854775807) (Bk:n3 ≤ 9223372036854775807) (W:World) (x:Pd)
  (hb0:W.cell? ⟨B,0,none⟩=some (.slice A0 n0 c0)) (xp:W.cell? ⟨B,1,none⟩=some (.int .i64 p1)) (hb2:W.cell? ⟨B,2,none⟩=some (.int .i64 slots)) (JJ:W.cell? ⟨B,3,none⟩=some (.slice A3 n3 c3)) (hB:B < W.heap.size) :
  Calls Tryd.prog 39 #[.agg #[.int .i64 x.f0,.int .i64 x.f1,.int .i64 x.f2,.int .i64 x.f3,.int .i64 x.f4],.pointer (some ⟨B,0,none⟩)] W
   fun e w'=>e = .returned (.bool (!qf (n0:Int) slots (n3:Int) x.f0 x.f1 x.f2 x.f3 x.f4))∧Below W.heap.size W w':=by
 have hne:B ≠ W.heap.size:=by omega
 have HC:=oa.mk (fun W'=>Cn A0 A3 c0 c3 n0 n3 p1 slots x.f1 x.f2 x.f3 x.f4 W' hn0 Bk x.f0);generalize qf (n0:Int) slots (n3:Int) x.f0 x.f1 x.f2 x.f3 x.f4=b at HC ⊢;go_enter Tryd.func39,Tryd.ntmps39;go_wp2_with (go_at_call 40;(with_reducible refine (HC.out _).mono ?_);rintro e w1 ⟨rfl,hb⟩;have HD:=oa.mk (Ta (ia (Below.refl _ _) _) hb);clear hb);go_ret;exact ⟨rfl,HD.out⟩
theorem Qp (yb Db:Option Addr) (xb zb:Nat) (l0:List Int) (p s:Int) (l3:List (Pd)) (w:World) (Yg:Kd.C (Kd.int .i64) w yb l0.length l0) (hc0:l0.length ≤ xb) (rD:Kd.C Si w Db l3.length l3) (IJ:l3.length ≤ zb) :
  Calls Tryd.prog 26 #[.agg #[.slice yb l0.length xb,.int .i64 p,.int .i64 s,.slice Db l3.length zb]] w fun e w'=>e = .returned (.bool (Eg l0 p s l3))∧Below w.heap.size w w':=by
 have eg:=enters_of Tryd.func39 (by kernel_rfl) rfl;have hm0:=Yg.2.1;have BL:=rD.2.1;have HP:=oa.mk (fun (W:World) (hb:Below w.heap.size w W)=>Cm yb none xb 0 l0 0 0 W (Kd.Sb Yg hb) hc0)
 have HF:=oa.mk (fun (W:World) (hb:Below w.heap.size w W) (h0:w.heap.size < W.heap.size) (hb0:W.cell? ⟨w.heap.size,0,none⟩=some (.slice yb l0.length xb)) (xp:W.cell? ⟨w.heap.size,1,none⟩=some (.int .i64 p)) (hb2:W.cell? ⟨w.heap.size,2,none⟩=some (.int .i64 s)) (JJ:W.cell? ⟨w.heap.size,3,none⟩=some (.slice Db l3.length zb)) =>
  vk 39 #[.pointer (some ⟨w.heap.size,0,none⟩)] (fun x=>!qf (l0.length:Int) s (l3.length:Int) x.f0 x.f1 x.f2 x.f3 x.f4) eg Db zb l3 W (Kd.Sb rD hb) IJ
   (fun W2 x hb'=>iu w.heap.size yb Db xb zb l0.length l3.length p s hm0 BL W2 x ((hb'.cell (p:=⟨w.heap.size,0,none⟩) h0).trans hb0) ((hb'.cell (p:=⟨w.heap.size,1,none⟩) h0).trans xp) ((hb'.cell (p:=⟨w.heap.size,2,none⟩) h0).trans hb2) ((hb'.cell (p:=⟨w.heap.size,3,none⟩) h0).trans JJ) (Nat.lt_of_lt_of_le h0 hb'.size)))
 unfold Eg;have WL:=oa.mk rD;clear Yg hc0 rD IJ;cases EI:Rl l0 0 0 with
 | false =>
  rw [EI] at HP;go_enter Tryd.func26,Tryd.ntmps26;go_wp2_with (first|(go_at_call 36;(with_reducible refine (HP.out _ (ia (Below.refl _ _) _)).mono ?_);rintro e w1 ⟨rfl,hb⟩;have HB:=oa.mk (Ta (ia (Below.refl _ _) _) hb);clear hb));go_ret;exact ⟨by simp,HB.out⟩
 | true =>
  rw [EI] at HP;cases hl:af (l3.length:Int) 1 6000 with
  | false =>
   go_enter Tryd.func26,Tryd.ntmps26;go_wp2_with (first|(go_at_call 36;(with_reducible refine (HP.out _ (ia (Below.refl _ _) _)).mono ?_);rintro e w1 ⟨rfl,hb⟩;have HB:=oa.mk (Ta (ia (Below.refl _ _) _) hb);obtain ⟨SA,GJ⟩:=Cv hb;have gB:=hb.size;simp at gB;clear hb)|(go_at_call 37;(with_reducible refine (Od _ _ _ _).mono ?_);rintro e w2 ⟨rfl,⟨n,rfl⟩⟩))
   all_goals
    go_ret;exact ⟨by simp [*],by repeat (first|exact HB.out|apply aa|apply ia)⟩
  | true =>
   have hl1:1 ≤ l3.length:=by
    unfold af at hl;simp at hl;omega
   have q1:0 ≤ (l3.length:Int) - 1:=by omega
   have q2:(l3.length:Int) - 1 < (l3.length:Int):=by omega
   obtain ⟨ad,e1,hx0,_⟩:=Df WL.out ((l3.length:Int) - 1) q1 q2;cases e1;rw [show ((l3.length:Int) - 1).toNat=l3.length - 1 from by omega] at hx0;generalize (za l3 ((l3.length:Int) - 1)).f0=o at hx0 ⊢;go_enter Tryd.func26,Tryd.ntmps26;go_wp2_with (first|(go_at_call 36;(with_reducible refine (HP.out _ (ia (Below.refl _ _) _)).mono ?_);rintro e w1 ⟨rfl,hb⟩;have HB:=oa.mk (Ta (ia (Below.refl _ _) _) hb);obtain ⟨SA,GJ⟩:=Cv hb;have gB:=hb.size;simp at gB;have hx1:=Ra HB.out hx0;clear hb)|(go_at_call 37;(with_reducible refine (Od _ _ _ _).mono ?_);rintro e w2 ⟨rfl,⟨n,rfl⟩⟩)|(go_at_call 38;(with_reducible refine (HF.out _ ?s1 ?s2 ?s3 ?s4 ?s5 ?s6).mono ?_);(case s1=>repeat (first|exact HB.out|apply aa));(case s2=>simp;omega);(case s3=>simp [SA]);(case s4=>simp [SA]);(case s5=>simp [SA]);(case s6=>simp [SA]);rintro e w3 ⟨rfl,hb⟩;have YL:=oa.mk (Ta (show Below w.heap.size w _ from by repeat (first|exact HB.out|apply aa)) hb);clear hb))
   all_goals
    go_ret
    first
     | exact ⟨by simp [*],YL.out⟩
     | exact ⟨by simp [*],by repeat (first|exact HB.out|apply aa|apply ia)⟩
def Ud.f (Qa:List Int) (Oa:Int) (Pa:Int) (Ba:List (Pd)):Option Bool:=some (Eg Qa Oa Pa Ba)
theorem Ud.calls (yb:Option Addr) (xb:Nat) (Qa:List Int) (Oa:Int) (Pa:Int) (Db:Option Addr) (zb:Nat) (Ba:List (Pd)) (r:Bool) (w:World) (xe:Kd.C (Kd.int .i64) w yb Qa.length Qa) (je:Qa.length ≤ xb) (we:Kd.C Si w Db Ba.length Ba) (ie:Ba.length ≤ zb) (h:Ud.f Qa Oa Pa Ba=some r) :
  Calls Tryd.prog 26 #[.agg #[.slice yb Qa.length xb,.int .i64 Oa,.int .i64 Pa,.slice Db Ba.length zb]] w fun e w'=>e = .returned (.bool r)∧Below w.heap.size w w':=by
 injection h with h
 subst h;exact Qp yb Db xb zb Qa Oa Pa Ba w xe je we ie
end Go.Proofs.YtgflknmbnblpaaaDoor.P
end
section
namespace Go.Proofs.YtgflknmbnblpaaaDoor.P
open Go.RowKit Go.Proofs.Aa.gb Go.Proofs.Aa.Wc Go.Proofs.Aa.ze
set_option linter.unusedVariables false
set_option linter.unusedSimpArgs false
open Go.Shelf
def Wi:Go.Shelf.Ren:=⟨fun | 171=>18 | 243=>29 | 246=>42 | 283=>50 | 284=>51 | 285=>52 | 286=>53 | 129=>62 | 317=>61 | 318=>63 | 319=>64 | 320=>65 | 337=>69 | 338=>70|n=>n,fun | 3=>3 | 9=>9 | 2=>2 | 4=>4 | 171=>86 | 0=>0 | 53=>87 | 37=>59 | 5=>5 | 173=>90 | 212=>107 | 51=>108 | 20=>20 | 213=>109 | 46=>110 | 232=>116 | 233=>117|n=>n,fun | 17=>0 | 18=>2 | 19=>3|n=>n⟩
theorem Ml:Go.Proofs.LaysM.n171 Tryd.prog Wi:={
 mixed:=by kernel_rfl
 f129:=Tryd.func62.trans (congrArg some (by kernel_rfl))
 f171:=Tryd.func18.trans (congrArg some (by kernel_rfl))
 f243:=Tryd.func29.trans (congrArg some (by kernel_rfl))
 f246:=Tryd.func42.trans (congrArg some (by kernel_rfl))
 f283:=Tryd.func50.trans (congrArg some (by kernel_rfl))
 f284:=Tryd.func51.trans (congrArg some (by kernel_rfl))
 f285:=Tryd.func52.trans (congrArg some (by kernel_rfl))
 f286:=Tryd.func53.trans (congrArg some (by kernel_rfl))
 f317:=Tryd.func61.trans (congrArg some (by kernel_rfl))
 f318:=Tryd.func63.trans (congrArg some (by kernel_rfl))
 f319:=Tryd.func64.trans (congrArg some (by kernel_rfl))
 f320:=Tryd.func65.trans (congrArg some (by kernel_rfl))
 f337:=Tryd.func69.trans (congrArg some (by kernel_rfl))
 f338:=Tryd.func70.trans (congrArg some (by kernel_rfl))
 t0:=Tryd.underlying0
 a0:=Tryd.isAgg0
 z0:=Tryd.sizeOf0
 v0:=Tryd.zeroValue0
 t2:=Tryd.underlying2
 a2:=Tryd.isAgg2
 z2:=Tryd.sizeOf2
 v2:=Tryd.zeroValue2
 t3:=Tryd.underlying3
 a3:=Tryd.isAgg3
 z3:=Tryd.sizeOf3
 v3:=Tryd.zeroValue3
 t4:=Tryd.underlying4
 a4:=Tryd.isAgg4
 z4:=Tryd.sizeOf4
 v4:=Tryd.zeroValue4
 t5:=Tryd.underlying5
 a5:=Tryd.isAgg5
 z5:=Tryd.sizeOf5
 v5:=Tryd.zeroValue5
 t9:=Tryd.underlying9
 a9:=Tryd.isAgg9
 z9:=Tryd.sizeOf9
 v9:=Tryd.zeroValue9
 t20:=Tryd.underlying20
 a20:=Tryd.isAgg20
 z20:=Tryd.sizeOf20
 v20:=Tryd.zeroValue20
 t37:=Tryd.underlying59
 a37:=Tryd.isAgg59
 z37:=Tryd.sizeOf59
 v37:=Tryd.zeroValue59
 t46:=Tryd.underlying110
 a46:=Tryd.isAgg110
 z46:=Tryd.sizeOf110
 v46:=Tryd.zeroValue110
 t51:=Tryd.underlying108
 a51:=Tryd.isAgg108
 z51:=Tryd.sizeOf108
 v51:=Tryd.zeroValue108
 t53:=Tryd.underlying87
 a53:=Tryd.isAgg87
 z53:=Tryd.sizeOf87
 v53:=Tryd.zeroValue87
 t171:=Tryd.underlying86
 a171:=Tryd.isAgg86
 z171:=Tryd.sizeOf86
 v171:=Tryd.zeroValue86
 t173:=Tryd.underlying90
 a173:=Tryd.isAgg90
 z173:=Tryd.sizeOf90
 v173:=Tryd.zeroValue90
 t212:=Tryd.underlying107
 a212:=Tryd.isAgg107
 z212:=Tryd.sizeOf107
 v212:=Tryd.zeroValue107
 t213:=Tryd.underlying109
 a213:=Tryd.isAgg109
 z213:=Tryd.sizeOf109
 t232:=Tryd.underlying116
 a232:=Tryd.isAgg116
 z232:=Tryd.sizeOf116
 v232:=Tryd.zeroValue116
 t233:=Tryd.underlying117
 a233:=Tryd.isAgg117
 z233:=Tryd.sizeOf117
 v233:=Tryd.zeroValue117
 g17:=by kernel_rfl
 g18:=by kernel_rfl
 g19:=by kernel_rfl
 i0:=by kernel_rfl
 i2:=by kernel_rfl
 i3:=by kernel_rfl
 i4:=by kernel_rfl
 i5:=by kernel_rfl
 i9:=by kernel_rfl
 i20:=by kernel_rfl
 i37:=by kernel_rfl
 i46:=by kernel_rfl
 i51:=by kernel_rfl
 i53:=by kernel_rfl
 i171:=by kernel_rfl
 i173:=by kernel_rfl
 i212:=by kernel_rfl
 i232:=by kernel_rfl
 i233:=by kernel_rfl
 m17:=by kernel_rfl
 m18:=by kernel_rfl
 m19:=by kernel_rfl }
open Go.RowKit Go.Sort Go.Lib in
theorem Vi (n:Int) (h0:-9223372036854775808 ≤ n) (h1:n ≤ 9223372036854775807) (w:World) (htab:Lib.TabIs Tryd.prog w "internal/strconv.uint64pow10" .u64 Lib.pow10Tab) :
  Calls Tryd.prog 18 #[.int .i64 n] w fun e w'=>e = .returned (.string ⟨(Lib.itoa n).toArray⟩)∧∃ k os,w' = grow (w.drewN k) os:=Any.strconv_Itoa Ml n h0 h1 w htab
end Go.Proofs.YtgflknmbnblpaaaDoor.P
end
section
namespace Go.Proofs.YtgflknmbnblpaaaDoor.P
open Go.RowKit Go.Proofs.Aa.gb Go.Proofs.Aa.Wc Go.Proofs.Aa.ze
set_option linter.unusedVariables false
set_option linter.unusedSimpArgs false
def rm (w:World):Prop:=Lib.TabIs Tryd.prog w "internal/strconv.uint64pow10" .u64 Lib.pow10Tab
theorem rm.stays {w w':World} {B:Nat} (h:rm w) (hb:Below B w w') (hB:w.heap.size ≤ B):rm w':=by
 unfold rm at h ⊢
 obtain ⟨g,hg⟩:∃ g,Tryd.prog.globalNamed "internal/strconv.uint64pow10" = some g:=by
  unfold Lib.TabIs World.var? at h;cases hg:Tryd.prog.globalNamed "internal/strconv.uint64pow10" with
  | none=>rw [hg] at h;cases h
  | some g=>exact ⟨g,rfl⟩
 exact Go.Joins.tab_stays hg h hb hB
def Yc.f (a0:Int):Option ByteArray:=if -9223372036854775808 ≤ a0∧a0 ≤ 9223372036854775807 then some ⟨(Lib.itoa a0).toArray⟩ else none
theorem Yc.calls (a0:Int) (r:ByteArray) (w:World) (h:Yc.f a0=some r) (htab:rm w:=by exact rm.stays ry.out (by repeat (first|(with_reducible first|exact HB.out|apply ia|apply aa|apply qa|refine ua ?_ (oa.out (by assumption)))|exact HB.out)) (Nat.le_refl _)) :
  Calls Tryd.prog 18 #[.int .i64 a0] w fun e w'=>e = .returned (.string r)∧Below w.heap.size w w':=by
 unfold Yc.f at h
 by_cases hb:-9223372036854775808 ≤ a0∧a0 ≤ 9223372036854775807
 case neg=>rw [if_neg hb] at h;cases h
 rw [if_pos hb] at h;cases h;refine (Vi a0 hb.1 hb.2 w htab).mono ?_;rintro e w' ⟨rfl,k,os,rfl⟩;refine ⟨rfl,?_⟩;have h1:=aa (Below.refl w.heap.size w) k;refine ⟨h1.os,h1.tape,h1.output,?_,fun i hi=>?_⟩
 ·have:=h1.size;rw [Go.Sort.size_grow];omega
 ·rw [Go.Sort.heap_grow_old _ _ (Nat.lt_of_lt_of_le hi h1.size)];exact h1.block i hi
attribute [local go_sem] Nh Lh qj nj Ng Mg Mh Kh
mutual
def Xa.l0:Nat→List ByteArray→ByteArray→List (Pd)→Int→Int→Option (ByteArray)
 | 0,_,_,_,_,_=>none
 | k + 1,x3,x4,Mr,XA,sn=>if sn < XA then (if 0 ≤ sn then (if sn < (Mr.length:Int) then ((Yc.f sn).bind fun t108=>(if t108.size + 2 ≤ 9223372036854775807 then (if 0 ≤ ((za Mr sn).f0) then (if ((za Mr sn).f0) < (x3.length:Int) then (if (t108 ++ (⟨#[58,32]⟩:ByteArray)).size + (Ob ByteArray.empty x3 ((za Mr sn).f0)).size ≤ 9223372036854775807 then (if x4.size + ((t108 ++ (⟨#[58,32]⟩:ByteArray)) ++ (Ob ByteArray.empty x3 ((za Mr sn).f0))).size ≤ 9223372036854775807 then ((some (([(za Mr sn).f1,(za Mr sn).f2,(za Mr sn).f3,(za Mr sn).f4]:List Int):List Int)).bind fun Ff=>(Xa.l1 k x3 (x4 ++ ((t108 ++ (⟨#[58,32]⟩:ByteArray)) ++ (Ob ByteArray.empty x3 ((za Mr sn).f0)))) Mr XA sn Ff (Ff.length:Int) 0)) else (none)) else (none)) else (none)) else (none)) else (none))) else (none)) else (none)) else (some x4)
def Xa.l1:Nat→List ByteArray→ByteArray→List (Pd)→Int→Int→List Int→Int→Int→Option (ByteArray)
 | 0,_,_,_,_,_,_,_,_=>none
 | k + 1,x3,x4,Mr,XA,sn,eH,sI,WA=>if WA < sI then (if 0 ≤ WA then (if WA < (eH.length:Int) then ((Yc.f (rd eH WA)).bind fun t114=>(if 1 + t114.size ≤ 9223372036854775807 then (if x4.size + ((⟨#[32]⟩:ByteArray) ++ t114).size ≤ 9223372036854775807 then (Xa.l1 k x3 (x4 ++ ((⟨#[32]⟩:ByteArray) ++ t114)) Mr XA sn eH sI (wrap64 (WA + 1))) else (none)) else (none))) else (none)) else (none)) else (if x4.size + 1 ≤ 9223372036854775807 then (Xa.l0 k x3 (x4 ++ (⟨#[10]⟩:ByteArray)) Mr XA (wrap64 (sn + 1))) else (none))
end
def Xa.f (k:Nat) (Qa:List Int) (Oa:Int) (Pa:Int) (Ba:List (Pd)):Option (ByteArray):=(Ud.f Qa Oa Pa Ba).bind fun t102=>(if t102=true then (Xa.l0 k (([(⟨#[108,105]⟩:ByteArray),(⟨#[108,100]⟩:ByteArray),(⟨#[115,100]⟩:ByteArray),(⟨#[97,108,117]⟩:ByteArray),(⟨#[108,120]⟩:ByteArray),(⟨#[115,120]⟩:ByteArray),(⟨#[105,110]⟩:ByteArray),(⟨#[111,117,116]⟩:ByteArray),(⟨#[106,109,112]⟩:ByteArray),(⟨#[106,122]⟩:ByteArray),(⟨#[114,101,116]⟩:ByteArray),(⟨#[109,118]⟩:ByteArray)]:List ByteArray)) (⟨#[]⟩:ByteArray) Ba (Ba.length:Int) 0) else (some (⟨#[]⟩:ByteArray)))
def Xa.T8:Bool × List (List Nat × List Nat):=(true,[([],[]),([],[]),([1],[1]),([2],[2]),([],[]),([],[]),([5],[5]),([4,6],[4,6]),([7],[7]),([3,8],[3,8]),([0,9],[0,9]),([10,2,0,1,2,3,4,5,6,7,8,9,10],[0,10])])
def Xa.B8:List Nat:=[0,0,2,6,0,0,32,112,240,510,1023,2047]
theorem Xa.jH:Pf .any (opsOf Tryd.f13 8)=Xa.T8:=by kernel_rfl
theorem Xa.xC:Bg Xa.T8.2 Xa.B8=true:=by kernel_rfl
theorem Xa.calls (k:Nat) (yb:Option Addr) (xb:Nat) (Qa:List Int) (Oa:Int) (Pa:Int) (Db:Option Addr) (zb:Nat) (Ba:List (Pd)) (r:ByteArray) (w:World) (xe:Kd.C (Kd.int .i64) w yb Qa.length Qa) (je:Qa.length ≤ xb) (we:Kd.C Si w Db Ba.length Ba) (ie:Ba.length ≤ zb) (h:Xa.f k Qa Oa Pa Ba=some r) (htab:rm w:=by exact rm.stays ry.out (by repeat (first|(with_reducible first|exact HB.out|apply ia|apply aa|apply qa|refine ua ?_ (oa.out (by assumption)))|exact HB.out)) (Nat.le_refl _)) :
  Calls Tryd.prog 13 #[.agg #[.slice yb Qa.length xb,.int .i64 Oa,.int .i64 Pa,.slice Db Ba.length zb]] w fun e w'=>e = .returned (.string r)∧Below w.heap.size w w':=by
 have ju:=Tryd.underlying37;have Mq:=Tryd.underlying53;have Xd:=oa.mk xe;have qe:=oa.mk je;clear xe je;have Vd:=oa.mk we;have Qe:=oa.mk ie;clear we ie;have ry:=oa.mk htab;clear htab;have HB:=oa.mk (Below.refl w.heap.size w);have H:((Ud.f Qa Oa Pa Ba).bind fun t102=>(if t102=true then (Xa.l0 k (([(⟨#[108,105]⟩:ByteArray),(⟨#[108,100]⟩:ByteArray),(⟨#[115,100]⟩:ByteArray),(⟨#[97,108,117]⟩:ByteArray),(⟨#[108,120]⟩:ByteArray),(⟨#[115,120]⟩:ByteArray),(⟨#[105,110]⟩:ByteArray),(⟨#[111,117,116]⟩:ByteArray),(⟨#[106,109,112]⟩:ByteArray),(⟨#[106,122]⟩:ByteArray),(⟨#[114,101,116]⟩:ByteArray),(⟨#[109,118]⟩:ByteArray)]:List ByteArray)) (⟨#[]⟩:ByteArray) Ba (Ba.length:Int) 0) else (some (⟨#[]⟩:ByteArray))))=some r:=h;clear h;replace H:=Option.bind_eq_some_iff.mp H;obtain ⟨t102,Bz,H⟩:=H;replace H:(if t102=true then (Xa.l0 k (([(⟨#[108,105]⟩:ByteArray),(⟨#[108,100]⟩:ByteArray),(⟨#[115,100]⟩:ByteArray),(⟨#[97,108,117]⟩:ByteArray),(⟨#[108,120]⟩:ByteArray),(⟨#[115,120]⟩:ByteArray),(⟨#[105,110]⟩:ByteArray),(⟨#[111,117,116]⟩:ByteArray),(⟨#[106,109,112]⟩:ByteArray),(⟨#[106,122]⟩:ByteArray),(⟨#[114,101,116]⟩:ByteArray),(⟨#[109,118]⟩:ByteArray)]:List ByteArray)) (⟨#[]⟩:ByteArray) Ba (Ba.length:Int) 0) else (some (⟨#[]⟩:ByteArray)))=some r:=H;have A2:=oa.mk Bz;clear Bz
 by_cases c3:t102=true
 ·subst c3;have H1:(Xa.l0 k (([(⟨#[108,105]⟩:ByteArray),(⟨#[108,100]⟩:ByteArray),(⟨#[115,100]⟩:ByteArray),(⟨#[97,108,117]⟩:ByteArray),(⟨#[108,120]⟩:ByteArray),(⟨#[115,120]⟩:ByteArray),(⟨#[105,110]⟩:ByteArray),(⟨#[111,117,116]⟩:ByteArray),(⟨#[106,109,112]⟩:ByteArray),(⟨#[106,122]⟩:ByteArray),(⟨#[114,101,116]⟩:ByteArray),(⟨#[109,118]⟩:ByteArray)]:List ByteArray)) (⟨#[]⟩:ByteArray) Ba (Ba.length:Int) 0)=some r:=by rw [if_pos rfl] at H;exact H
  clear H;have H:=H1;clear H1;obtain ⟨Bf,Tp⟩:∃ y_:List ByteArray,y_=(([(⟨#[108,105]⟩:ByteArray),(⟨#[108,100]⟩:ByteArray),(⟨#[115,100]⟩:ByteArray),(⟨#[97,108,117]⟩:ByteArray),(⟨#[108,120]⟩:ByteArray),(⟨#[115,120]⟩:ByteArray),(⟨#[105,110]⟩:ByteArray),(⟨#[111,117,116]⟩:ByteArray),(⟨#[106,109,112]⟩:ByteArray),(⟨#[106,122]⟩:ByteArray),(⟨#[114,101,116]⟩:ByteArray),(⟨#[109,118]⟩:ByteArray)]:List ByteArray)):=⟨_,rfl⟩;replace H:(Xa.l0 k Bf (⟨#[]⟩:ByteArray) Ba (Ba.length:Int) 0)=some r:=by first|(rw [Tp];with_reducible exact H)|(have Ok:=(Option.bind_some _ _).symm.trans H;rw [Tp];with_reducible exact Ok)|(have Ok:=(Option.bind_some _ _).symm.trans H;with_reducible exact Ok)|with_reducible exact H|(rw [Tp];exact H)|exact H
  have uz:=oa.mk Tp;clear Tp;have H':=oa.mk H;clear H;go_enter Tryd.func13,Tryd.ntmps13;go_wp2_with (first|((with_reducible refine Nb (N:=1) rfl ?_);refine Jb ?hg (N:=1) ?hd (cs:=#[.slice yb Qa.length xb,.int .i64 Oa,.int .i64 Pa,.slice Db Ba.length zb]) (t:=37) ?hr ?_;(case hd=>rfl);(case hg=>rfl);(case hr=>first|(go_simp;done)|(go_simp;rfl));intro Fa hg w4 Rb hb;have Tb:=oa.mk (Ta (by repeat (first|(with_reducible first|exact HB.out|apply ia|apply aa|apply qa)|exact HB.out)) hb);have Xb:=oa.mk (Rb);have tc:=oa.mk ((by rw [hg];exact (Ka (by repeat (first|(with_reducible first|exact HB.out|apply ia|apply aa|apply qa)|exact HB.out))):w.heap.size ≤ Fa));have Ec:=oa.mk ((by rw [hg];exact (Ka (by repeat (first|(with_reducible first|exact HB.out|apply ia|apply aa|apply qa)|exact HB.out))):w.heap.size ≤ Fa));clear HB;have HB:=Tb;have ya:=Xb;have Re:=tc;have Ua:=Ec;clear Tb Xb tc Ec hb Rb hg;have jr:w4.cell? ⟨Fa,0,none⟩=some (.slice yb Qa.length xb):=(ja ya.out 0).trans rfl;have ir:w4.cell? ⟨Fa,1,none⟩=some (.int .i64 Oa):=(ja ya.out 1).trans rfl;have gr:w4.cell? ⟨Fa,2,none⟩=some (.int .i64 Pa):=(ja ya.out 2).trans rfl;have cr:w4.cell? ⟨Fa,3,none⟩=some (.slice Db Ba.length zb):=(ja ya.out 3).trans rfl;have Vq:=ga ya.out 0;have Uq:=ga ya.out 1;have Tq:=ga ya.out 2;have Sq:=ga ya.out 3)|((with_reducible refine Lb (f:=26) rfl ?_);refine Xc (some 10) rfl rfl Tryd.func26 (by kernel_rfl) rfl #[.agg #[.slice yb Qa.length xb,.int .i64 Oa,.int .i64 Pa,.slice Db Ba.length zb]] rfl (by (try simp only [List.map_toArray,List.map_cons,List.map_nil]);first|done|rfl|(simp only [List.length_drop,List.length_take];rfl)) ?_;(with_reducible refine (Ud.calls _ _ Qa Oa Pa _ _ Ba true _ ?Jc ?Ic ?ld ?jd A2.out).mono ?_);(case Jc=>repeat (first|exact (Kd.Sb Xd.out HB.out)|(with_reducible refine Kd.Wb ?_ _)|(with_reducible refine Kd.Vb ?_ _)|(with_reducible refine Kd.Bc ?_)));(case Ic=>exact qe.out);(case ld=>repeat (first|exact (Kd.Sb Vd.out HB.out)|(with_reducible refine Kd.Wb ?_ _)|(with_reducible refine Kd.Vb ?_ _)|(with_reducible refine Kd.Bc ?_)));(case jd=>exact Qe.out);rintro e w6 ⟨rfl,hb⟩;refine ⟨_,rfl,?_⟩;have Tb:=oa.mk (jb (g:=Fa) (o:=.cells #[.slice yb Qa.length xb,.int .i64 Oa,.int .i64 Pa,.slice Db Ba.length zb] 37 (0,0)) (by (with_reducible repeat (first|refine Ca ?_ _|refine Ea ?_|refine Da ?_ _));exact ya.out) hb);have Xb:=oa.mk (Ta (by repeat (first|(with_reducible first|exact HB.out|apply ia|apply aa|apply qa|refine ua ?_ Ua.out)|exact HB.out)) hb);clear ya HB;have ya:=Tb;have HB:=Xb;clear Tb Xb;(try clear hb);(try clear hb2);(try clear hk);(try clear hi))|((with_reducible refine Nb (N:=12) rfl ?_);refine Kd.Wt Kd.string _ 9 ?hg (N:=12) ?hd (xs:=([(⟨#[108,105]⟩:ByteArray),(⟨#[108,100]⟩:ByteArray),(⟨#[115,100]⟩:ByteArray),(⟨#[97,108,117]⟩:ByteArray),(⟨#[108,120]⟩:ByteArray),(⟨#[115,120]⟩:ByteArray),(⟨#[105,110]⟩:ByteArray),(⟨#[111,117,116]⟩:ByteArray),(⟨#[106,109,112]⟩:ByteArray),(⟨#[106,122]⟩:ByteArray),(⟨#[114,101,116]⟩:ByteArray),(⟨#[109,118]⟩:ByteArray)]:List ByteArray)) (inner:=[.string (⟨#[108,105]⟩:ByteArray),.string (⟨#[108,100]⟩:ByteArray),.string (⟨#[115,100]⟩:ByteArray),.string (⟨#[97,108,117]⟩:ByteArray),.string (⟨#[108,120]⟩:ByteArray),.string (⟨#[115,120]⟩:ByteArray),.string (⟨#[105,110]⟩:ByteArray),.string (⟨#[111,117,116]⟩:ByteArray),.string (⟨#[106,109,112]⟩:ByteArray),.string (⟨#[106,122]⟩:ByteArray),.string (⟨#[114,101,116]⟩:ByteArray),.string (⟨#[109,118]⟩:ByteArray)]) (ok:=fun _=>True) (Bm:=fun _=>True) ?hr ?hp (fun _ hk=>hk) trivial (Below.refl _ _) (Nat.le_refl _) (by simp) ?_;(case hd=>rfl);(case hg=>rfl);(case hr=>first|(go_simp;done)|(go_simp;rfl));(case hp=>exact (Fc.one (show Kd.M Kd.string _ _ _ (⟨#[108,105]⟩:ByteArray) [.string (⟨#[108,105]⟩:ByteArray)] from rfl) (Fc.one (show Kd.M Kd.string _ _ _ (⟨#[108,100]⟩:ByteArray) [.string (⟨#[108,100]⟩:ByteArray)] from rfl) (Fc.one (show Kd.M Kd.string _ _ _ (⟨#[115,100]⟩:ByteArray) [.string (⟨#[115,100]⟩:ByteArray)] from rfl) (Fc.one (show Kd.M Kd.string _ _ _ (⟨#[97,108,117]⟩:ByteArray) [.string (⟨#[97,108,117]⟩:ByteArray)] from rfl) (Fc.one (show Kd.M Kd.string _ _ _ (⟨#[108,120]⟩:ByteArray) [.string (⟨#[108,120]⟩:ByteArray)] from rfl) (Fc.one (show Kd.M Kd.string _ _ _ (⟨#[115,120]⟩:ByteArray) [.string (⟨#[115,120]⟩:ByteArray)] from rfl) (Fc.one (show Kd.M Kd.string _ _ _ (⟨#[105,110]⟩:ByteArray) [.string (⟨#[105,110]⟩:ByteArray)] from rfl) (Fc.one (show Kd.M Kd.string _ _ _ (⟨#[111,117,116]⟩:ByteArray) [.string (⟨#[111,117,116]⟩:ByteArray)] from rfl) (Fc.one (show Kd.M Kd.string _ _ _ (⟨#[106,109,112]⟩:ByteArray) [.string (⟨#[106,109,112]⟩:ByteArray)] from rfl) (Fc.one (show Kd.M Kd.string _ _ _ (⟨#[106,122]⟩:ByteArray) [.string (⟨#[106,122]⟩:ByteArray)] from rfl) (Fc.one (show Kd.M Kd.string _ _ _ (⟨#[114,101,116]⟩:ByteArray) [.string (⟨#[114,101,116]⟩:ByteArray)] from rfl) (Fc.one (show Kd.M Kd.string _ _ _ (⟨#[109,118]⟩:ByteArray) [.string (⟨#[109,118]⟩:ByteArray)] from rfl) (Fc.none _ _))))))))))))));intro Gz w7 mB hb cw Pj;clear cw Pj;(first|rw [← uz.out] at mB|(simp only [Int.reduceToNat] at mB;rw [← uz.out] at mB));have Tb:=oa.mk (Kd.Be mB (Ka (by repeat (first|(with_reducible first|exact HB.out|apply ia|apply aa|apply qa|refine ua ?_ Ua.out)|exact HB.out))));have Xb:=oa.mk (jb (g:=Fa) (o:=.cells #[.slice yb Qa.length xb,.int .i64 Oa,.int .i64 Pa,.slice Db Ba.length zb] 37 (0,0)) (by (with_reducible repeat (first|refine Ca ?_ _|refine Ea ?_|refine Da ?_ _));exact ya.out) hb);have tc:=oa.mk (Ta (by repeat (first|(with_reducible first|exact HB.out|apply ia|apply aa|apply qa|refine ua ?_ Ua.out)|exact HB.out)) hb);clear ya HB;have Wd:=Tb;have ya:=Xb;have HB:=tc;clear Tb Xb tc hb mB;have uh:w7.cell? ⟨Fa,0,none⟩=some (.slice yb Qa.length xb):=(ja ya.out 0).trans rfl;have qh:w7.cell? ⟨Fa,1,none⟩=some (.int .i64 Oa):=(ja ya.out 1).trans rfl;have oh:w7.cell? ⟨Fa,2,none⟩=some (.int .i64 Pa):=(ja ya.out 2).trans rfl;have nh:w7.cell? ⟨Fa,3,none⟩=some (.slice Db Ba.length zb):=(ja ya.out 3).trans rfl;have dh:=ga ya.out 0;have bh:=ga ya.out 1;have ah:=ga ya.out 2;have Zg:=ga ya.out 3))
  go_loopg [4,16] k (fun kq v4 iH w'=>∃ (dc:ByteArray) (Za:Int),v4 = .string dc∧iH = .int .i64 Za∧oa (Xa.l0 kq Bf dc Ba (Ba.length:Int) Za=some r)∧oa (kq ≤ k)∧oa (Kd.R Kd.string 9 w' w.heap.size (fun _=>True) Gz Bf)∧oa (w'.heap[Fa]? = some (.cells #[(.slice yb Qa.length xb),.int .i64 Oa,.int .i64 Pa,(.slice Db Ba.length zb)] 37 (0,0)))∧oa (Below w.heap.size w w'))
  case atStart=>exact ⟨((⟨#[]⟩:ByteArray)),(0),(by first|rfl|(simp;done)|(simp [*];done)),(by first|rfl|(simp;done)|(simp [*];done)),H',⟨Nat.le_refl _⟩,⟨by (with_reducible repeat (first|apply Kd.Fb|apply Kd.Eb|apply Kd.Qb));exact Wd.out⟩,⟨by (with_reducible repeat (first|refine Ca ?_ _|refine Ea ?_|refine Da ?_ _));exact ya.out⟩,⟨by repeat (first|(with_reducible first|exact HB.out|apply ia|apply aa|apply qa|refine ua ?_ Ua.out)|exact HB.out)⟩⟩
  case round =>
   clear H'
   try clear c1
   try clear c2
   try clear p2
   try clear c3
   try clear jr
   try clear ir
   try clear gr
   try clear cr
   try clear uh
   try clear qh
   try clear oh
   try clear nh
   try clear Vq
   try clear Uq
   try clear Tq
   try clear Sq
   try clear dh
   try clear bh
   try clear ah
   try clear Zg
   (try clear HA);(try clear Lg);(try clear Dd);(try clear ya);(try clear HB);obtain ⟨dc,Za,rfl,rfl,HA,Lg,Dd,ya,HB⟩:=hrel;cases gk with
   | zero=>exact absurd HA.out (by simp [Xa.l0])
   | succ k1 =>
    have H:=HA.out;clear HA;simp only [Xa.l0] at H
    by_cases c10:Za < (Ba.length:Int)
    ·rw [if_pos c10] at H;have Qg:decide (Za < (Ba.length:Int))=true:=decide_eq_true c10;clear c10
     by_cases c11:0 ≤ Za
     ·rw [if_pos c11] at H;have Av:decide (0 ≤ Za)=true:=decide_eq_true c11;clear c11
      by_cases c12:Za < (Ba.length:Int)
      ·rw [if_pos c12] at H;have pz:decide (Za < (Ba.length:Int))=true:=decide_eq_true c12;clear c12;replace H:=Option.bind_eq_some_iff.mp H;obtain ⟨t108,qq,H⟩:=H;replace H:(if t108.size + 2 ≤ 9223372036854775807 then (if 0 ≤ ((za Ba Za).f0) then (if ((za Ba Za).f0) < (Bf.length:Int) then (if (t108 ++ (⟨#[58,32]⟩:ByteArray)).size + (Ob ByteArray.empty Bf ((za Ba Za).f0)).size ≤ 9223372036854775807 then (if dc.size + ((t108 ++ (⟨#[58,32]⟩:ByteArray)) ++ (Ob ByteArray.empty Bf ((za Ba Za).f0))).size ≤ 9223372036854775807 then ((some (([(za Ba Za).f1,(za Ba Za).f2,(za Ba Za).f3,(za Ba Za).f4]:List Int):List Int)).bind fun Ff=>(Xa.l1 k1 Bf (dc ++ ((t108 ++ (⟨#[58,32]⟩:ByteArray)) ++ (Ob ByteArray.empty Bf ((za Ba Za).f0)))) Ba (Ba.length:Int) Za Ff (Ff.length:Int) 0)) else (none)) else (none)) else (none)) else (none)) else (none))=some r:=H;have RA:=oa.mk qq;clear qq
       by_cases c14:t108.size + 2 ≤ 9223372036854775807
       ·rw [if_pos c14] at H;have oz:=eq_true c14;have mz:decide (t108.size + 2 ≤ 9223372036854775807)=true:=decide_eq_true c14
        try have uC:(9223372036854775807 < t108.size + 2)=False:=eq_false (Nat.not_lt.2 c14)
        by_cases c15:0 ≤ ((za Ba Za).f0)
        ·rw [if_pos c15] at H;have Uk:decide (0 ≤ ((za Ba Za).f0))=true:=decide_eq_true c15;clear c15
         by_cases c16:((za Ba Za).f0) < (Bf.length:Int)
         ·rw [if_pos c16] at H;have wv:decide (((za Ba Za).f0) < (Bf.length:Int))=true:=decide_eq_true c16;clear c16
          by_cases Dr:(t108 ++ (⟨#[58,32]⟩:ByteArray)).size + (Ob ByteArray.empty Bf ((za Ba Za).f0)).size ≤ 9223372036854775807
          ·rw [if_pos Dr] at H;have kz:=eq_true Dr;have rC:decide ((t108 ++ (⟨#[58,32]⟩:ByteArray)).size + (Ob ByteArray.empty Bf ((za Ba Za).f0)).size ≤ 9223372036854775807)=true:=decide_eq_true Dr
           try have qC:(9223372036854775807 < (t108 ++ (⟨#[58,32]⟩:ByteArray)).size + (Ob ByteArray.empty Bf ((za Ba Za).f0)).size)=False:=eq_false (Nat.not_lt.2 Dr)
           try have JK:(9223372036854775807 < (t108.size + 2) + (Ob ByteArray.empty Bf ((za Ba Za).f0)).size)=False:=by have h_:=Dr;simp only [ByteArray.size_append] at h_;exact eq_false (Nat.not_lt.2 h_)
           by_cases Bu:dc.size + ((t108 ++ (⟨#[58,32]⟩:ByteArray)) ++ (Ob ByteArray.empty Bf ((za Ba Za).f0))).size ≤ 9223372036854775807
           ·rw [if_pos Bu] at H;have jz:=eq_true Bu;have oC:decide (dc.size + ((t108 ++ (⟨#[58,32]⟩:ByteArray)) ++ (Ob ByteArray.empty Bf ((za Ba Za).f0))).size ≤ 9223372036854775807)=true:=decide_eq_true Bu
            try have nC:(9223372036854775807 < dc.size + ((t108 ++ (⟨#[58,32]⟩:ByteArray)) ++ (Ob ByteArray.empty Bf ((za Ba Za).f0))).size)=False:=eq_false (Nat.not_lt.2 Bu)
            try have IK:(9223372036854775807 < dc.size + ((t108.size + 2) + (Ob ByteArray.empty Bf ((za Ba Za).f0)).size))=False:=by have h_:=Bu;simp only [ByteArray.size_append] at h_;exact eq_false (Nat.not_lt.2 h_)
            obtain ⟨Ff,Oh⟩:∃ y_:List Int,y_=(([(za Ba Za).f1,(za Ba Za).f2,(za Ba Za).f3,(za Ba Za).f4]:List Int)):=⟨_,rfl⟩;replace H:(Xa.l1 k1 Bf (dc ++ ((t108 ++ (⟨#[58,32]⟩:ByteArray)) ++ (Ob ByteArray.empty Bf ((za Ba Za).f0)))) Ba (Ba.length:Int) Za Ff (Ff.length:Int) 0)=some r:=by first|(rw [Oh];with_reducible exact H)|(have Ok:=(Option.bind_some _ _).symm.trans H;rw [Oh];with_reducible exact Ok)|(have Ok:=(Option.bind_some _ _).symm.trans H;with_reducible exact Ok)|with_reducible exact H|(rw [Oh];exact H)|exact H
            have Xt:=oa.mk Oh;clear Oh;have H':=oa.mk H;clear H;have Gp:0 ≤ (Za:Int):=of_decide_eq_true (by first|(with_reducible assumption)|assumption);have Ep:Za < (Ba.length:Int):=of_decide_eq_true (by first|(with_reducible assumption)|assumption);obtain ⟨Rg,uA,ai,Zh,Yh,Xh,Wh⟩:=Df Vd.out Za Gp Ep;cases uA;replace ai:=Ra HB.out ai;replace Zh:=Ra HB.out Zh;replace Yh:=Ra HB.out Yh;replace Xh:=Ra HB.out Xh;replace Wh:=Ra HB.out Wh;replace Gp:=eq_true Gp;replace Ep:=eq_true Ep
            try go_wp2_with (first|((with_reducible refine Nb (N:=6) rfl ?_);refine Jb ?hg (N:=6) ?hd (cs:=#[.int .i64 0,.int .i64 0,.int .i64 0,.int .i64 0,.int .i64 0]) (t:=53) ?hr ?_;(case hd=>rfl);(case hg=>rfl);(case hr=>first|(go_simp;done)|(go_simp;rfl));intro Gb hg wm Rb hb;have Tb:=oa.mk (Kd.Pc (by (with_reducible repeat (first|apply Kd.Fb|apply Kd.Eb|apply Kd.Qb));exact Dd.out) hb);have Xb:=oa.mk (jb (g:=Fa) (o:=.cells #[.slice yb Qa.length xb,.int .i64 Oa,.int .i64 Pa,.slice (some Rg) Ba.length zb] 37 (0,0)) (by (with_reducible repeat (first|refine Ca ?_ _|refine Ea ?_|refine Da ?_ _));exact ya.out) hb);have tc:=oa.mk (Ta (by repeat (first|(with_reducible first|exact HB.out|apply ia|apply aa|apply qa|refine ua ?_ Ua.out)|exact HB.out)) hb);have Ec:=oa.mk (Rb);have fe:=oa.mk ((by rw [hg];exact (Ka (by repeat (first|(with_reducible first|exact HB.out|apply ia|apply aa|apply qa|refine ua ?_ Ua.out)|exact HB.out))):w.heap.size ≤ Gb));have Ae:=oa.mk ((by rw [hg];exact (Ka (by repeat (first|(with_reducible first|exact HB.out|apply ia|apply aa|apply qa|refine ua ?_ Ua.out)|exact HB.out))):w.heap.size ≤ Gb));have Me:=oa.mk ((by rw [hg];exact Nat.ne_of_lt (Dc (g:=Fa) (o:=.cells #[.slice yb Qa.length xb,.int .i64 Oa,.int .i64 Pa,.slice (some Rg) Ba.length zb] 37 (0,0)) (by (with_reducible repeat (first|refine Ca ?_ _|refine Ea ?_|refine Da ?_ _));exact ya.out)):Fa ≠ Gb));have Mm:=oa.mk ((by rw [hg];exact Nat.ne_of_gt (Dc (g:=Fa) (o:=.cells #[.slice yb Qa.length xb,.int .i64 Oa,.int .i64 Pa,.slice (some Rg) Ba.length zb] 37 (0,0)) (by (with_reducible repeat (first|refine Ca ?_ _|refine Ea ?_|refine Da ?_ _));exact ya.out)):Gb ≠ Fa));clear Dd ya HB;have Dd:=Tb;have ya:=Xb;have HB:=tc;have Ib:=Ec;have NC:=fe;have Qh:=Ae;have Jd:=Me;have Kk:=Mm;clear Tb Xb tc Ec fe Ae Me Mm hb Rb hg;have wB:=Kk.out;have rB:=Jd.out;have ek:wm.cell? ⟨Gb,0,none⟩=some (.int .i64 0):=(ja Ib.out 0).trans rfl;have ck:wm.cell? ⟨Gb,1,none⟩=some (.int .i64 0):=(ja Ib.out 1).trans rfl;have ak:wm.cell? ⟨Gb,2,none⟩=some (.int .i64 0):=(ja Ib.out 2).trans rfl;have Zj:wm.cell? ⟨Gb,3,none⟩=some (.int .i64 0):=(ja Ib.out 3).trans rfl;have Mt:wm.cell? ⟨Gb,4,none⟩=some (.int .i64 0):=(ja Ib.out 4).trans rfl;have Tj:=ga Ib.out 0;have Sj:=ga Ib.out 1;have Rj:=ga Ib.out 2;have Qj:=ga Ib.out 3;have ct:=ga Ib.out 4))
            have Tb:oa (Kd.R Kd.string 9 (((((wm.setCell ⟨Gb,0,none⟩ (.int .i64 ((za Ba Za).f0))).setCell ⟨Gb,1,none⟩ (.int .i64 ((za Ba Za).f1))).setCell ⟨Gb,2,none⟩ (.int .i64 ((za Ba Za).f2))).setCell ⟨Gb,3,none⟩ (.int .i64 ((za Ba Za).f3))).setCell ⟨Gb,4,none⟩ (.int .i64 ((za Ba Za).f4))) w.heap.size (fun _=>True) Gz Bf):=⟨by (with_reducible repeat (first|apply Kd.Fb|apply Kd.Eb|apply Kd.Qb));exact Kd.Te (Kd.Qc (p:=⟨Gb,4,none⟩) (Kd.Qc (p:=⟨Gb,3,none⟩) (Kd.Qc (p:=⟨Gb,2,none⟩) (Kd.Qc (p:=⟨Gb,1,none⟩) (Kd.Qc (p:=⟨Gb,0,none⟩) (Kd.Ke Dd.out Ib.out (by decide)) (fun _ hk=>hk.2) (.int .i64 ((za Ba Za).f0))) (fun _ hk=>hk.2) (.int .i64 ((za Ba Za).f1))) (fun _ hk=>hk.2) (.int .i64 ((za Ba Za).f2))) (fun _ hk=>hk.2) (.int .i64 ((za Ba Za).f3))) (fun _ hk=>hk.2) (.int .i64 ((za Ba Za).f4))) (fun _ hk=>trivial)⟩;have Xb:oa ((((((wm.setCell ⟨Gb,0,none⟩ (.int .i64 ((za Ba Za).f0))).setCell ⟨Gb,1,none⟩ (.int .i64 ((za Ba Za).f1))).setCell ⟨Gb,2,none⟩ (.int .i64 ((za Ba Za).f2))).setCell ⟨Gb,3,none⟩ (.int .i64 ((za Ba Za).f3))).setCell ⟨Gb,4,none⟩ (.int .i64 ((za Ba Za).f4))).heap[Fa]? = some (.cells #[.slice yb Qa.length xb,.int .i64 Oa,.int .i64 Pa,.slice (some Rg) Ba.length zb] 37 (0,0))):=⟨by (with_reducible repeat (first|refine Ca ?_ _|refine Ea ?_|refine Da ?_ _));refine Vc ?_ Jd.out _;(with_reducible repeat (first|refine Ca ?_ _|refine Ea ?_|refine Da ?_ _));refine Vc ?_ Jd.out _;(with_reducible repeat (first|refine Ca ?_ _|refine Ea ?_|refine Da ?_ _));refine Vc ?_ Jd.out _;(with_reducible repeat (first|refine Ca ?_ _|refine Ea ?_|refine Da ?_ _));refine Vc ?_ Jd.out _;(with_reducible repeat (first|refine Ca ?_ _|refine Ea ?_|refine Da ?_ _));refine Vc ?_ Jd.out _;(with_reducible repeat (first|refine Ca ?_ _|refine Ea ?_|refine Da ?_ _));exact ya.out⟩;have tc:oa ((((((wm.setCell ⟨Gb,0,none⟩ (.int .i64 ((za Ba Za).f0))).setCell ⟨Gb,1,none⟩ (.int .i64 ((za Ba Za).f1))).setCell ⟨Gb,2,none⟩ (.int .i64 ((za Ba Za).f2))).setCell ⟨Gb,3,none⟩ (.int .i64 ((za Ba Za).f3))).setCell ⟨Gb,4,none⟩ (.int .i64 ((za Ba Za).f4))).heap[Gb]? = some (.cells #[.int .i64 ((za Ba Za).f0),.int .i64 ((za Ba Za).f1),.int .i64 ((za Ba Za).f2),.int .i64 ((za Ba Za).f3),.int .i64 ((za Ba Za).f4)] 53 (0,0))):=⟨by (with_reducible repeat (first|refine Ca ?_ _|refine Ea ?_|refine Da ?_ _));refine Uc (cs:=#[.int .i64 ((za Ba Za).f0),.int .i64 ((za Ba Za).f1),.int .i64 ((za Ba Za).f2),.int .i64 ((za Ba Za).f3),.int .i64 0]) ?_ 4 _ rfl;(with_reducible repeat (first|refine Ca ?_ _|refine Ea ?_|refine Da ?_ _));refine Uc (cs:=#[.int .i64 ((za Ba Za).f0),.int .i64 ((za Ba Za).f1),.int .i64 ((za Ba Za).f2),.int .i64 0,.int .i64 0]) ?_ 3 _ rfl;(with_reducible repeat (first|refine Ca ?_ _|refine Ea ?_|refine Da ?_ _));refine Uc (cs:=#[.int .i64 ((za Ba Za).f0),.int .i64 ((za Ba Za).f1),.int .i64 0,.int .i64 0,.int .i64 0]) ?_ 2 _ rfl;(with_reducible repeat (first|refine Ca ?_ _|refine Ea ?_|refine Da ?_ _));refine Uc (cs:=#[.int .i64 ((za Ba Za).f0),.int .i64 0,.int .i64 0,.int .i64 0,.int .i64 0]) ?_ 1 _ rfl;(with_reducible repeat (first|refine Ca ?_ _|refine Ea ?_|refine Da ?_ _));refine Uc (cs:=#[.int .i64 0,.int .i64 0,.int .i64 0,.int .i64 0,.int .i64 0]) ?_ 0 _ rfl;(with_reducible repeat (first|refine Ca ?_ _|refine Ea ?_|refine Da ?_ _));exact Ib.out⟩;have Ec:oa (Below w.heap.size w (((((wm.setCell ⟨Gb,0,none⟩ (.int .i64 ((za Ba Za).f0))).setCell ⟨Gb,1,none⟩ (.int .i64 ((za Ba Za).f1))).setCell ⟨Gb,2,none⟩ (.int .i64 ((za Ba Za).f2))).setCell ⟨Gb,3,none⟩ (.int .i64 ((za Ba Za).f3))).setCell ⟨Gb,4,none⟩ (.int .i64 ((za Ba Za).f4)))):=⟨by repeat (first|(with_reducible first|exact HB.out|apply ia|apply aa|apply qa|refine ua ?_ Ua.out|refine ua ?_ Qh.out)|exact HB.out)⟩;(try clear Dd);(try clear ya);(try clear Ib);(try clear HB);generalize (((((wm.setCell ⟨Gb,0,none⟩ (.int .i64 ((za Ba Za).f0))).setCell ⟨Gb,1,none⟩ (.int .i64 ((za Ba Za).f1))).setCell ⟨Gb,2,none⟩ (.int .i64 ((za Ba Za).f2))).setCell ⟨Gb,3,none⟩ (.int .i64 ((za Ba Za).f3))).setCell ⟨Gb,4,none⟩ (.int .i64 ((za Ba Za).f4)))=rq at Tb Xb tc Ec ⊢;have Dd:=Tb;have ya:=Xb;have Ib:=tc;have HB:=Ec;clear Tb Xb tc Ec;have Tb:=oa.mk (Kd.Qb Dd.out);have Xb:=oa.mk (Ea ya.out);have tc:=oa.mk (Ea Ib.out);have Ec:=oa.mk (qa HB.out);clear Dd ya Ib HB;have Dd:=Tb;have ya:=Xb;have Ib:=tc;have HB:=Ec;clear Tb Xb tc Ec;obtain ⟨eM,iI,PB⟩:=Kd.zf Dd.out;(first|subst PB|(injection PB with Yu nA Xu;have mA:=Yu.symm;have lA:=Xu.symm;clear Yu nA Xu;subst mA;subst lA));have Fp:0 ≤ (((za Ba Za).f0):Int):=of_decide_eq_true (by first|(with_reducible assumption)|assumption);have Dp:((za Ba Za).f0) < (Bf.length:Int):=of_decide_eq_true (by first|(with_reducible assumption)|assumption);obtain ⟨Vt,sA,Vh⟩:=Kd.Ym (Kd.Mc Dd.out).2.2 ((za Ba Za).f0) Fp Dp;cases sA;replace Fp:=eq_true Fp;replace Dp:=eq_true Dp;refine Ui (n:=12) (S:=fun w'=>w'.cell? ⟨Gb,0,none⟩=some (.int .i64 ((za Ba Za).f0))∧w'.cell? ⟨Gb,1,none⟩=some (.int .i64 ((za Ba Za).f1))∧w'.cell? ⟨Gb,2,none⟩=some (.int .i64 ((za Ba Za).f2))∧w'.cell? ⟨Gb,3,none⟩=some (.int .i64 ((za Ba Za).f3))∧w'.cell? ⟨Gb,4,none⟩=some (.int .i64 ((za Ba Za).f4))∧w'.cell? (Vt.add (((za Ba Za).f0)).toNat)=some (.string (Ob ByteArray.empty Bf ((za Ba Za).f0)))) (ds:=[]) #[false,false,false,false,false,false,false,false,false,false,false,false] (by kernel_rfl) rfl rfl ⟨(ja Ib.out 0).trans rfl,(ja Ib.out 1).trans rfl,(ja Ib.out 2).trans rfl,(ja Ib.out 3).trans rfl,(ja Ib.out 4).trans rfl,Vh⟩ (fun hHeld=>?_);refine ug Xa.jH Xa.xC (fun Md um=>?_);generalize rq.drew=fL at Dd ya Ib HB Vh hHeld ⊢;refine Gc (i:=0) (N:=some 21) (v:=?_) (a':=?_) #[true,false,false,false,false,false,false,false,false,false,false,false] rfl rfl (fc Md.out (by kernel_rfl)) (fun _ _ _ h=>h) (Or.inl ⟨by rfl,?_⟩) ?_ ?_;rotate_left
            ·intro w';go_simp;with_reducible rfl
            rotate_left
            ·simp only [Act.put,List.setIfInBounds_toArray,List.set_cons_zero,List.set_cons_succ,Kb,Mb]
             rfl
            refine Gc (i:=1) (N:=some 22) (v:=?_) (a':=?_) #[true,true,false,false,false,false,false,false,false,false,false,false] rfl rfl (fc Md.out (by kernel_rfl)) (fun _ _ _ h=>h) (Or.inl ⟨by rfl,?_⟩) ?_ ?_;rotate_left
            ·intro w';go_simp;with_reducible rfl
            rotate_left
            ·simp only [Act.put,List.setIfInBounds_toArray,List.set_cons_zero,List.set_cons_succ,Kb,Mb]
             rfl
            refine Gc (i:=4) (N:=some 25) (v:=?_) (a':=?_) #[true,true,false,false,true,false,false,false,false,false,false,false] rfl rfl (fc Md.out (by kernel_rfl)) (fun _ _ _ h=>h) (Or.inl ⟨by rfl,?_⟩) ?_ ?_;rotate_left
            ·intro w';go_simp;with_reducible rfl
            rotate_left
            ·simp only [Act.put,List.setIfInBounds_toArray,List.set_cons_zero,List.set_cons_succ,Kb,Mb]
             rfl
            refine Gc (i:=5) (N:=some 26) (v:=?_) (a':=?_) #[true,true,false,false,true,true,false,false,false,false,false,false] rfl rfl (fc Md.out (by kernel_rfl)) (fun _ _ _ h=>h) (Or.inl ⟨by rfl,?_⟩) ?_ ?_;rotate_left
            ·intro w';go_simp;with_reducible rfl
            rotate_left
            ·simp only [Act.put,List.setIfInBounds_toArray,List.set_cons_zero,List.set_cons_succ,Kb,Mb]
             rfl
            refine Le (i:=6) (N:=some 27) (v:=?_) (a':=?_) #[true,true,false,false,true,true,true,false,false,false,false,false] rfl rfl (ud Md.out um.out (by kernel_rfl)) (fun _ _ _ h=>h) (Or.inl ⟨by rfl,?_⟩) hHeld ?_ ?_;rotate_left
            ·rintro w' ⟨s0,s1,s2,s3,s4,s5⟩;go_simp;with_reducible rfl
            rotate_left
            ·simp only [Act.put,List.setIfInBounds_toArray,List.set_cons_zero,List.set_cons_succ,Kb,Mb]
             rfl
            refine Gc (i:=7) (N:=some 28) (v:=?_) (a':=?_) #[true,true,false,false,true,true,true,true,false,false,false,false] rfl rfl (fc Md.out (by kernel_rfl)) (fun _ _ _ h=>h) (Or.inl ⟨by rfl,?_⟩) ?_ ?_;rotate_left
            ·intro w';go_simp;with_reducible rfl
            rotate_left
            ·simp only [Act.put,List.setIfInBounds_toArray,List.set_cons_zero,List.set_cons_succ,Kb,Mb]
             rfl
            refine Le (i:=8) (N:=some 29) (v:=?_) (a':=?_) #[true,true,false,false,true,true,true,true,true,false,false,false] rfl rfl (ud Md.out um.out (by kernel_rfl)) (fun _ _ _ h=>h) (Or.inl ⟨by rfl,?_⟩) hHeld ?_ ?_;rotate_left
            ·rintro w' ⟨s0,s1,s2,s3,s4,s5⟩;go_simp;with_reducible rfl
            rotate_left
            ·simp only [Act.put,List.setIfInBounds_toArray,List.set_cons_zero,List.set_cons_succ,Kb,Mb]
             rfl
            refine Zk (i:=2) (N:=some 23) #[true,true,true,false,true,true,true,true,true,false,false,false] rfl rfl (Ig Md.out (by kernel_rfl)) (by decide) (fun K hK=>?_);refine Gh Tryd.func18 (by kernel_rfl) rfl #[.int .i64 Za] (by rfl) rfl rfl (by (try simp only [List.map_toArray,List.map_cons,List.map_nil]);first|done|rfl|(simp only [List.length_drop,List.length_take];rfl)) ?_;with_reducible refine (Yc.calls Za t108 _ RA.out).mono ?_
            rintro e Ov ⟨rfl,hb⟩;have mI:=(hb.cell (World.block_lt_of_cell? _ _ (hHeld.2.2.2.2.2))).trans (hHeld.2.2.2.2.2);refine ⟨_,rfl,?_⟩;have Tb:=oa.mk (Kd.Pc (by (with_reducible repeat (first|apply Kd.Fb|apply Kd.Eb|apply Kd.Qb));exact Dd.out) hb);have Xb:=oa.mk (jb (g:=Fa) (o:=.cells #[.slice yb Qa.length xb,.int .i64 Oa,.int .i64 Pa,.slice (some Rg) Ba.length zb] 37 (0,0)) (by (with_reducible repeat (first|refine Ca ?_ _|refine Ea ?_|refine Da ?_ _));exact ya.out) hb);have tc:=oa.mk (jb (g:=Gb) (o:=.cells #[.int .i64 ((za Ba Za).f0),.int .i64 ((za Ba Za).f1),.int .i64 ((za Ba Za).f2),.int .i64 ((za Ba Za).f3),.int .i64 ((za Ba Za).f4)] 53 (0,0)) (by (with_reducible repeat (first|refine Ca ?_ _|refine Ea ?_|refine Da ?_ _));exact Ib.out) hb);have Ec:=oa.mk (Ta (by repeat (first|(with_reducible first|exact HB.out|apply ia|apply aa|apply qa|refine ua ?_ Ua.out|refine ua ?_ Qh.out)|exact HB.out)) hb);clear Dd ya Ib HB;have Dd:=Tb;have ya:=Xb;have Ib:=tc;have HB:=Ec;clear Tb Xb tc Ec;(try clear hb);(try clear hb2);(try clear hk);(try clear hi);refine hK.out _ _ ⟨(ja Ib.out 0).trans rfl,(ja Ib.out 1).trans rfl,(ja Ib.out 2).trans rfl,(ja Ib.out 3).trans rfl,(ja Ib.out 4).trans rfl,mI⟩ (fun hHeld=>?_);clear hK K;refine Fh (a':=?_) ?_ ?_;rotate_left
            ·show Act.put _ (some 23) _=_
             simp only [Act.put,List.setIfInBounds_toArray,List.set_cons_zero,List.set_cons_succ,Kb,Mb]
             rfl
            refine Gc (i:=3) (N:=some 24) (v:=?_) (a':=?_) #[true,true,true,true,true,true,true,true,true,false,false,false] rfl rfl (fc Md.out (by kernel_rfl)) (fun _ _ _ h=>h) (Or.inl ⟨by rfl,?_⟩) ?_ ?_;rotate_left
            ·intro w';go_simp;with_reducible rfl
            rotate_left
            ·simp only [Act.put,List.setIfInBounds_toArray,List.set_cons_zero,List.set_cons_succ,Kb,Mb]
             rfl
            refine Gc (i:=9) (N:=some 30) (v:=?_) (a':=?_) #[true,true,true,true,true,true,true,true,true,true,false,false] rfl rfl (fc Md.out (by kernel_rfl)) (fun _ _ _ h=>h) (Or.inl ⟨by rfl,?_⟩) ?_ ?_;rotate_left
            ·intro w';go_simp;with_reducible rfl
            rotate_left
            ·simp only [Act.put,List.setIfInBounds_toArray,List.set_cons_zero,List.set_cons_succ,Kb,Mb]
             rfl
            refine Gc (i:=10) (N:=some 31) (v:=?_) (a':=?_) #[true,true,true,true,true,true,true,true,true,true,true,false] rfl rfl (fc Md.out (by kernel_rfl)) (fun _ _ _ h=>h) (Or.inl ⟨by rfl,?_⟩) ?_ ?_;rotate_left
            ·intro w';go_simp;with_reducible rfl
            rotate_left
            ·simp only [Act.put,List.setIfInBounds_toArray,List.set_cons_zero,List.set_cons_succ,Kb,Mb]
             rfl
            refine Gc (i:=11) (N:=some 4) (v:=?_) (a':=?_) #[true,true,true,true,true,true,true,true,true,true,true,true] rfl rfl (fc Md.out (by kernel_rfl)) (fun _ _ _ h=>h) (Or.inl ⟨by rfl,?_⟩) ?_ ?_;rotate_left
            ·intro w';go_simp;with_reducible rfl
            rotate_left
            ·simp only [Act.put,List.setIfInBounds_toArray,List.set_cons_zero,List.set_cons_succ,Kb,Mb]
             rfl
            refine gm (Ji Md.out (by kernel_rfl)) ?_;have Lt:Ov.cell? ⟨Gb,0,none⟩=some (.int .i64 ((za Ba Za).f0)):=(ja Ib.out 0).trans rfl;have Kt:Ov.cell? ⟨Gb,1,none⟩=some (.int .i64 ((za Ba Za).f1)):=(ja Ib.out 1).trans rfl;have Jt:Ov.cell? ⟨Gb,2,none⟩=some (.int .i64 ((za Ba Za).f2)):=(ja Ib.out 2).trans rfl;have Ht:Ov.cell? ⟨Gb,3,none⟩=some (.int .i64 ((za Ba Za).f3)):=(ja Ib.out 3).trans rfl;have Gt:Ov.cell? ⟨Gb,4,none⟩=some (.int .i64 ((za Ba Za).f4)):=(ja Ib.out 4).trans rfl;have bt:=ga Ib.out 0;have Zs:=ga Ib.out 1;have Ws:=ga Ib.out 2;have Vs:=ga Ib.out 3;have Us:=ga Ib.out 4
            try go_wp2_with (first|((with_reducible refine Nb (N:=40) rfl ?_);refine Kd.Wt (Kd.int .i64) _ 3 ?hg (N:=40) ?hd (xs:=([(za Ba Za).f1,(za Ba Za).f2,(za Ba Za).f3,(za Ba Za).f4]:List Int)) (inner:=[.int .i64 ((za Ba Za).f1),.int .i64 ((za Ba Za).f2),.int .i64 ((za Ba Za).f3),.int .i64 ((za Ba Za).f4)]) (ok:=fun _=>True) (Bm:=fun _=>True) ?hr ?hp (fun _ hk=>hk) trivial (Below.refl _ _) (Nat.le_refl _) (by simp) ?_;(case hd=>rfl);(case hg=>rfl);(case hr=>first|(go_simp;done)|(go_simp;rfl));(case hp=>exact (Fc.one (show Kd.M (Kd.int .i64) _ _ _ ((za Ba Za).f1) [.int .i64 ((za Ba Za).f1)] from rfl) (Fc.one (show Kd.M (Kd.int .i64) _ _ _ ((za Ba Za).f2) [.int .i64 ((za Ba Za).f2)] from rfl) (Fc.one (show Kd.M (Kd.int .i64) _ _ _ ((za Ba Za).f3) [.int .i64 ((za Ba Za).f3)] from rfl) (Fc.one (show Kd.M (Kd.int .i64) _ _ _ ((za Ba Za).f4) [.int .i64 ((za Ba Za).f4)] from rfl) (Fc.none _ _))))));intro pL Rv Vu hb cw Pj;clear cw Pj;(first|rw [← Xt.out] at Vu|(simp only [Int.reduceToNat] at Vu;rw [← Xt.out] at Vu));have Tb:=oa.mk (Kd.Pc (by (with_reducible repeat (first|apply Kd.Fb|apply Kd.Eb|apply Kd.Qb));exact Dd.out) hb);have Xb:=oa.mk (Kd.Be Vu (Ka (by repeat (first|(with_reducible first|exact HB.out|apply ia|apply aa|apply qa|refine ua ?_ Ua.out|refine ua ?_ Qh.out)|exact HB.out))));have tc:=oa.mk (jb (g:=Fa) (o:=.cells #[.slice yb Qa.length xb,.int .i64 Oa,.int .i64 Pa,.slice (some Rg) Ba.length zb] 37 (0,0)) (by (with_reducible repeat (first|refine Ca ?_ _|refine Ea ?_|refine Da ?_ _));exact ya.out) hb);have Ec:=oa.mk (jb (g:=Gb) (o:=.cells #[.int .i64 ((za Ba Za).f0),.int .i64 ((za Ba Za).f1),.int .i64 ((za Ba Za).f2),.int .i64 ((za Ba Za).f3),.int .i64 ((za Ba Za).f4)] 53 (0,0)) (by (with_reducible repeat (first|refine Ca ?_ _|refine Ea ?_|refine Da ?_ _));exact Ib.out) hb);have fe:=oa.mk (Ta (by repeat (first|(with_reducible first|exact HB.out|apply ia|apply aa|apply qa|refine ua ?_ Ua.out|refine ua ?_ Qh.out)|exact HB.out)) hb);clear Dd ya Ib HB;have Dd:=Tb;have xz:=Xb;have ya:=tc;have Ib:=Ec;have HB:=fe;clear Tb Xb tc Ec fe hb Vu;obtain ⟨Ak,Zi,qA⟩:=Kd.zf xz.out;subst qA))
            go_loopg [4,42] k1 (fun kq v4 jL w'=>∃ (cj:ByteArray) (Gf:Int),v4 = .string cj∧jL = .int .i64 Gf∧oa (Xa.l1 kq Bf cj Ba (Ba.length:Int) Za Ff (Ff.length:Int) Gf=some r)∧oa (kq ≤ k1)∧oa (Kd.R Kd.string 9 w' w.heap.size (fun _=>True) (.slice (some Vt) Bf.length iI) Bf)∧oa (Kd.R (Kd.int .i64) 3 w' w.heap.size (fun _=>True) (.slice Ak Ff.length Zi) Ff)∧oa (w'.heap[Fa]? = some (.cells #[(.slice yb Qa.length xb),.int .i64 Oa,.int .i64 Pa,(.slice (some Rg) Ba.length zb)] 37 (0,0)))∧oa (w'.heap[Gb]? = some (.cells #[.int .i64 ((za Ba Za).f0),.int .i64 ((za Ba Za).f1),.int .i64 ((za Ba Za).f2),.int .i64 ((za Ba Za).f3),.int .i64 ((za Ba Za).f4)] 53 (0,0)))∧oa (Below w.heap.size w w'))
            case atStart=>exact ⟨(dc ++ ((t108 ++ (⟨#[58,32]⟩:ByteArray)) ++ (Ob ByteArray.empty Bf ((za Ba Za).f0)))),(0),(by first|rfl|(simp;done)|(simp [*];done)),(by first|rfl|(simp;done)|(simp [*];done)),H',⟨Nat.le_refl _⟩,⟨by (with_reducible repeat (first|apply Kd.Fb|apply Kd.Eb|apply Kd.Qb));exact Dd.out⟩,⟨by (with_reducible repeat (first|apply Kd.Fb|apply Kd.Eb|apply Kd.Qb));exact xz.out⟩,⟨by (with_reducible repeat (first|refine Ca ?_ _|refine Ea ?_|refine Da ?_ _));exact ya.out⟩,⟨by (with_reducible repeat (first|refine Ca ?_ _|refine Ea ?_|refine Da ?_ _));exact Ib.out⟩,⟨by repeat (first|(with_reducible first|exact HB.out|apply ia|apply aa|apply qa|refine ua ?_ Ua.out|refine ua ?_ Qh.out)|exact HB.out)⟩⟩
            case round =>
             clear H'
             try clear c1
             try clear p1
             try clear q1
             try clear hx1
             try clear c2
             try clear p2
             try clear c3
             try clear c10
             try clear Qg
             try clear Rz
             try clear Oz
             try clear iB
             try clear c11
             try clear Av
             try clear c12
             try clear pz
             try clear c13
             try clear c14
             try clear oz
             try clear mz
             try clear uC
             try clear c15
             try clear Uk
             try clear c16
             try clear wv
             try clear Dr
             try clear kz
             try clear rC
             try clear qC
             try clear Bu
             try clear jz
             try clear oC
             try clear nC
             try clear CA
             try clear Rt
             try clear ek
             try clear ck
             try clear ak
             try clear Zj
             try clear Mt
             try clear Lt
             try clear Kt
             try clear Jt
             try clear Ht
             try clear Gt
             try clear jr
             try clear ir
             try clear gr
             try clear cr
             try clear uh
             try clear qh
             try clear oh
             try clear nh
             try clear Tj
             try clear Sj
             try clear Rj
             try clear Qj
             try clear ct
             try clear bt
             try clear Zs
             try clear Ws
             try clear Vs
             try clear Us
             try clear Vq
             try clear Uq
             try clear Tq
             try clear Sq
             try clear dh
             try clear bh
             try clear ah
             try clear Zg
             try clear ai
             try clear Zh
             try clear Yh
             try clear Xh
             try clear Wh
             try clear Vh
             try clear Gp
             try clear Fp
             try clear p2
             try clear Ep
             try clear Dp
             (try clear HA);(try clear LC);(try clear Dd);(try clear bn);(try clear ya);(try clear Ib);(try clear HB);obtain ⟨cj,Gf,rfl,rfl,HA,LC,Dd,bn,ya,Ib,HB⟩:=hrel;cases gk with
             | zero=>exact absurd HA.out (by simp [Xa.l1])
             | succ k2 =>
              have H:=HA.out;clear HA;simp only [Xa.l1] at H
              by_cases UA:Gf < (Ff.length:Int)
              ·rw [if_pos UA] at H;have lC:decide (Gf < (Ff.length:Int))=true:=decide_eq_true UA;clear UA
               by_cases uv:0 ≤ Gf
               ·rw [if_pos uv] at H;have kC:decide (0 ≤ Gf)=true:=decide_eq_true uv;clear uv
                by_cases Gm:Gf < (Ff.length:Int)
                ·rw [if_pos Gm] at H;have gq:decide (Gf < (Ff.length:Int))=true:=decide_eq_true Gm;clear Gm;replace H:=Option.bind_eq_some_iff.mp H;obtain ⟨t114,XC,H⟩:=H;replace H:(if 1 + t114.size ≤ 9223372036854775807 then (if cj.size + ((⟨#[32]⟩:ByteArray) ++ t114).size ≤ 9223372036854775807 then (Xa.l1 k2 Bf (cj ++ ((⟨#[32]⟩:ByteArray) ++ t114)) Ba (Ba.length:Int) Za Ff (Ff.length:Int) (wrap64 (Gf + 1))) else (none)) else (none))=some r:=H;have kM:=oa.mk XC;clear XC
                 by_cases fq:1 + t114.size ≤ 9223372036854775807
                 ·rw [if_pos fq] at H;have jC:=eq_true fq;have VJ:decide (1 + t114.size ≤ 9223372036854775807)=true:=decide_eq_true fq
                  try have UJ:(9223372036854775807 < 1 + t114.size)=False:=eq_false (Nat.not_lt.2 fq)
                  by_cases Pt:cj.size + ((⟨#[32]⟩:ByteArray) ++ t114).size ≤ 9223372036854775807
                  ·rw [if_pos Pt] at H;have ez:=eq_true Pt;have dz:decide (cj.size + ((⟨#[32]⟩:ByteArray) ++ t114).size ≤ 9223372036854775807)=true:=decide_eq_true Pt
                   try have TJ:(9223372036854775807 < cj.size + ((⟨#[32]⟩:ByteArray) ++ t114).size)=False:=eq_false (Nat.not_lt.2 Pt)
                   try have SJ:(9223372036854775807 < cj.size + (1 + t114.size))=False:=by have h_:=Pt;simp only [ByteArray.size_append] at h_;exact eq_false (Nat.not_lt.2 h_)
                   have H':=oa.mk H;clear H;have Pz:0 ≤ (Gf:Int):=of_decide_eq_true (by first|(with_reducible assumption)|assumption);have Mz:Gf < (Ff.length:Int):=of_decide_eq_true (by first|(with_reducible assumption)|assumption);obtain ⟨PK,dI,qD⟩:=Kd.Ch (Kd.Mc bn.out).2.2 Gf Pz Mz;cases dI;replace Pz:=eq_true Pz;replace Mz:=eq_true Mz;go_wp2_with (first|((with_reducible refine Lb (f:=18) rfl ?_);refine Xc (some 48) rfl rfl Tryd.func18 (by kernel_rfl) rfl #[.int .i64 (rd Ff Gf)] rfl (by (try simp only [List.map_toArray,List.map_cons,List.map_nil]);first|done|rfl|(simp only [List.length_drop,List.length_take];rfl)) ?_;(with_reducible refine (Yc.calls (rd Ff Gf) t114 _ kM.out).mono ?_);rintro e uM ⟨rfl,hb⟩;refine ⟨_,rfl,?_⟩;have Tb:=oa.mk (Kd.Pc (by (with_reducible repeat (first|apply Kd.Fb|apply Kd.Eb|apply Kd.Qb));exact Dd.out) hb);have Xb:=oa.mk (Kd.Pc (by (with_reducible repeat (first|apply Kd.Fb|apply Kd.Eb|apply Kd.Qb));exact bn.out) hb);have tc:=oa.mk (jb (g:=Fa) (o:=.cells #[.slice yb Qa.length xb,.int .i64 Oa,.int .i64 Pa,.slice (some Rg) Ba.length zb] 37 (0,0)) (by (with_reducible repeat (first|refine Ca ?_ _|refine Ea ?_|refine Da ?_ _));exact ya.out) hb);have Ec:=oa.mk (jb (g:=Gb) (o:=.cells #[.int .i64 ((za Ba Za).f0),.int .i64 ((za Ba Za).f1),.int .i64 ((za Ba Za).f2),.int .i64 ((za Ba Za).f3),.int .i64 ((za Ba Za).f4)] 53 (0,0)) (by (with_reducible repeat (first|refine Ca ?_ _|refine Ea ?_|refine Da ?_ _));exact Ib.out) hb);have fe:=oa.mk (Ta (by repeat (first|(with_reducible first|exact HB.out|apply ia|apply aa|apply qa|refine ua ?_ Ua.out|refine ua ?_ Qh.out)|exact HB.out)) hb);clear Dd bn ya Ib HB;have Dd:=Tb;have bn:=Xb;have ya:=tc;have Ib:=Ec;have HB:=fe;clear Tb Xb tc Ec fe;(try clear hb);(try clear hb2);(try clear hk);(try clear hi)))
                   go_roundg k2
                   case measure=>have:=Lg.out;have:=LC.out;omega
                   case rel=>exact ⟨(cj ++ ((⟨#[32]⟩:ByteArray) ++ t114)),(wrap64 (Gf + 1)),(by first|rfl|(simp;done)|(simp [*];done)),(by first|rfl|(simp;done)|(simp [*];done)),H',⟨by have:=Lg.out;have:=LC.out;omega⟩,⟨by (with_reducible repeat (first|apply Kd.Fb|apply Kd.Eb|apply Kd.Qb));exact Dd.out⟩,⟨by (with_reducible repeat (first|apply Kd.Fb|apply Kd.Eb|apply Kd.Qb));exact bn.out⟩,⟨by (with_reducible repeat (first|refine Ca ?_ _|refine Ea ?_|refine Da ?_ _));exact ya.out⟩,⟨by (with_reducible repeat (first|refine Ca ?_ _|refine Ea ?_|refine Da ?_ _));exact Ib.out⟩,⟨by repeat (first|(with_reducible first|exact HB.out|apply ia|apply aa|apply qa|refine ua ?_ Ua.out|refine ua ?_ Qh.out)|exact HB.out)⟩⟩
                  ·rw [if_neg Pt] at H;exact absurd H (by simp)
                 ·rw [if_neg fq] at H;exact absurd H (by simp)
                ·rw [if_neg Gm] at H;exact absurd H (by simp)
               ·rw [if_neg uv] at H;exact absurd H (by simp)
              ·rw [if_neg UA] at H;have lC:decide (Gf < (Ff.length:Int))=false:=decide_eq_false UA;clear UA
               by_cases iC:cj.size + 1 ≤ 9223372036854775807
               ·rw [if_pos iC] at H;have RJ:=eq_true iC;have QJ:decide (cj.size + 1 ≤ 9223372036854775807)=true:=decide_eq_true iC
                try have PJ:(9223372036854775807 < cj.size + 1)=False:=eq_false (Nat.not_lt.2 iC)
                have H':=oa.mk H;clear H;go_wp2
                go_roundg k2
                case measure=>have:=Lg.out;have:=LC.out;omega
                case rel=>exact ⟨(cj ++ (⟨#[10]⟩:ByteArray)),(wrap64 (Za + 1)),(by first|rfl|(simp;done)|(simp [*];done)),(by first|rfl|(simp;done)|(simp [*];done)),H',⟨by have:=Lg.out;have:=LC.out;omega⟩,⟨by (with_reducible repeat (first|apply Kd.Fb|apply Kd.Eb|apply Kd.Qb));exact Dd.out⟩,⟨by (with_reducible repeat (first|refine Ca ?_ _|refine Ea ?_|refine Da ?_ _));exact ya.out⟩,⟨by repeat (first|(with_reducible first|exact HB.out|apply ia|apply aa|apply qa|refine ua ?_ Ua.out|refine ua ?_ Qh.out)|exact HB.out)⟩⟩
               ·rw [if_neg iC] at H;exact absurd H (by simp)
           ·rw [if_neg Bu] at H;exact absurd H (by simp)
          ·rw [if_neg Dr] at H;exact absurd H (by simp)
         ·rw [if_neg c16] at H;exact absurd H (by simp)
        ·rw [if_neg c15] at H;exact absurd H (by simp)
       ·rw [if_neg c14] at H;exact absurd H (by simp)
      ·rw [if_neg c12] at H;exact absurd H (by simp)
     ·rw [if_neg c11] at H;exact absurd H (by simp)
    ·rw [if_neg c10] at H;have Qg:decide (Za < (Ba.length:Int))=false:=decide_eq_false c10;clear c10;obtain rfl:=Option.some.inj H;go_wp2;go_ret;exact ⟨by first|rfl|(simp [Ja,Ia] <;> rfl)|(simp [*,Ja,Ia] <;> rfl),by repeat (first|(with_reducible first|exact HB.out|apply ia|apply aa|apply qa|refine ua ?_ Ua.out)|exact HB.out)⟩
 ·replace c3:=Bool.eq_false_iff.mpr c3;subst c3;have H1:(some (⟨#[]⟩:ByteArray))=some r:=by rw [if_neg (show ¬ (false=true) by decide)] at H;exact H
  clear H;have H:=H1;clear H1;obtain rfl:=Option.some.inj H;go_enter Tryd.func13,Tryd.ntmps13;go_wp2_with (first|((with_reducible refine Nb (N:=1) rfl ?_);refine Jb ?hg (N:=1) ?hd (cs:=#[.slice yb Qa.length xb,.int .i64 Oa,.int .i64 Pa,.slice Db Ba.length zb]) (t:=37) ?hr ?_;(case hd=>rfl);(case hg=>rfl);(case hr=>first|(go_simp;done)|(go_simp;rfl));intro Fa hg YA Rb hb;have Tb:=oa.mk (Ta (by repeat (first|(with_reducible first|exact HB.out|apply ia|apply aa|apply qa)|exact HB.out)) hb);have Xb:=oa.mk (Rb);have tc:=oa.mk ((by rw [hg];exact (Ka (by repeat (first|(with_reducible first|exact HB.out|apply ia|apply aa|apply qa)|exact HB.out))):w.heap.size ≤ Fa));have Ec:=oa.mk ((by rw [hg];exact (Ka (by repeat (first|(with_reducible first|exact HB.out|apply ia|apply aa|apply qa)|exact HB.out))):w.heap.size ≤ Fa));clear HB;have HB:=Tb;have ya:=Xb;have Re:=tc;have Ua:=Ec;clear Tb Xb tc Ec hb Rb hg;have zo:YA.cell? ⟨Fa,0,none⟩=some (.slice yb Qa.length xb):=(ja ya.out 0).trans rfl;have yo:YA.cell? ⟨Fa,1,none⟩=some (.int .i64 Oa):=(ja ya.out 1).trans rfl;have xo:YA.cell? ⟨Fa,2,none⟩=some (.int .i64 Pa):=(ja ya.out 2).trans rfl;have wo:YA.cell? ⟨Fa,3,none⟩=some (.slice Db Ba.length zb):=(ja ya.out 3).trans rfl;have Pn:=ga ya.out 0;have Nn:=ga ya.out 1;have Mn:=ga ya.out 2;have Ln:=ga ya.out 3)|((with_reducible refine Lb (f:=26) rfl ?_);refine Xc (some 10) rfl rfl Tryd.func26 (by kernel_rfl) rfl #[.agg #[.slice yb Qa.length xb,.int .i64 Oa,.int .i64 Pa,.slice Db Ba.length zb]] rfl (by (try simp only [List.map_toArray,List.map_cons,List.map_nil]);first|done|rfl|(simp only [List.length_drop,List.length_take];rfl)) ?_;(with_reducible refine (Ud.calls _ _ Qa Oa Pa _ _ Ba false _ ?Jc ?Ic ?ld ?jd A2.out).mono ?_);(case Jc=>repeat (first|exact (Kd.Sb Xd.out HB.out)|(with_reducible refine Kd.Wb ?_ _)|(with_reducible refine Kd.Vb ?_ _)|(with_reducible refine Kd.Bc ?_)));(case Ic=>exact qe.out);(case ld=>repeat (first|exact (Kd.Sb Vd.out HB.out)|(with_reducible refine Kd.Wb ?_ _)|(with_reducible refine Kd.Vb ?_ _)|(with_reducible refine Kd.Bc ?_)));(case jd=>exact Qe.out);rintro e tM ⟨rfl,hb⟩;refine ⟨_,rfl,?_⟩;have Tb:=oa.mk (jb (g:=Fa) (o:=.cells #[.slice yb Qa.length xb,.int .i64 Oa,.int .i64 Pa,.slice Db Ba.length zb] 37 (0,0)) (by (with_reducible repeat (first|refine Ca ?_ _|refine Ea ?_|refine Da ?_ _));exact ya.out) hb);have Xb:=oa.mk (Ta (by repeat (first|(with_reducible first|exact HB.out|apply ia|apply aa|apply qa|refine ua ?_ Ua.out)|exact HB.out)) hb);clear ya HB;have ya:=Tb;have HB:=Xb;clear Tb Xb;(try clear hb);(try clear hb2);(try clear hk);(try clear hi)));go_ret;exact ⟨by first|rfl|(simp [Ja,Ia] <;> rfl)|(simp [*,Ja,Ia] <;> rfl),by repeat (first|(with_reducible first|exact HB.out|apply ia|apply aa|apply qa|refine ua ?_ Ua.out)|exact HB.out)⟩
def Sd.f (l0:List Int) (a1:Int):Option (Int):=if (wrap64 (a1 - (l0.length:Int))) < 0 then (some (-1)) else (some (wrap64 (a1 - (l0.length:Int))))
theorem Sd.calls (A0:Option Addr) (c0:Nat) (l0:List Int) (a1:Int) (r:Int) (w:World) (Yg:Kd.C (Kd.int .i64) w A0 l0.length l0) (hc0:l0.length ≤ c0) (h:Sd.f l0 a1=some r) :
  Calls Tryd.prog 21 #[.slice A0 l0.length c0,.int .i64 a1] w fun e w'=>e = .returned (.int .i64 r)∧ec w w':=by
 have Jr:=oa.mk Yg;have QA:=oa.mk hc0;clear Yg hc0;have H:(if (wrap64 (a1 - (l0.length:Int))) < 0 then (some (-1)) else (some (wrap64 (a1 - (l0.length:Int)))))=some r:=h;clear h
 by_cases c3:(wrap64 (a1 - (l0.length:Int))) < 0
 ·rw [if_pos c3] at H;have Ag:decide ((wrap64 (a1 - (l0.length:Int))) < 0)=true:=decide_eq_true c3;clear c3;obtain rfl:=Option.some.inj H;go_enter Tryd.func21,Tryd.ntmps21;go_wp2;go_ret;exact ⟨by first|rfl|(simp;done)|(simp [*];done),by repeat (first|exact ec.refl _|apply ec.step)⟩
 ·rw [if_neg c3] at H;have Ag:decide ((wrap64 (a1 - (l0.length:Int))) < 0)=false:=decide_eq_false c3;clear c3;obtain rfl:=Option.some.inj H;go_enter Tryd.func21,Tryd.ntmps21;go_wp2;go_ret;exact ⟨by first|rfl|(simp;done)|(simp [*];done),by repeat (first|exact ec.refl _|apply ec.step)⟩
def Ed.f (l0:List (gl)) (a1:Int):Option (Int):=if (wrap64 (a1 - (l0.length:Int))) < 0 then (some (-1)) else (some (wrap64 (a1 - (l0.length:Int))))
theorem Ed.calls (A0:Option Addr) (c0:Nat) (l0:List (gl)) (a1:Int) (r:Int) (w:World) (Yg:Kd.C Qu w A0 l0.length l0) (hc0:l0.length ≤ c0) (h:Ed.f l0 a1=some r) :
  Calls Tryd.prog 22 #[.slice A0 l0.length c0,.int .i64 a1] w fun e w'=>e = .returned (.int .i64 r)∧ec w w':=by
 have Jr:=oa.mk Yg;have QA:=oa.mk hc0;clear Yg hc0;have H:(if (wrap64 (a1 - (l0.length:Int))) < 0 then (some (-1)) else (some (wrap64 (a1 - (l0.length:Int)))))=some r:=h;clear h
 by_cases c3:(wrap64 (a1 - (l0.length:Int))) < 0
 ·rw [if_pos c3] at H;have Ag:decide ((wrap64 (a1 - (l0.length:Int))) < 0)=true:=decide_eq_true c3;clear c3;obtain rfl:=Option.some.inj H;go_enter Tryd.func22,Tryd.ntmps22;go_wp2;go_ret;exact ⟨by first|rfl|(simp;done)|(simp [*];done),by repeat (first|exact ec.refl _|apply ec.step)⟩
 ·rw [if_neg c3] at H;have Ag:decide ((wrap64 (a1 - (l0.length:Int))) < 0)=false:=decide_eq_false c3;clear c3;obtain rfl:=Option.some.inj H;go_enter Tryd.func22,Tryd.ntmps22;go_wp2;go_ret;exact ⟨by first|rfl|(simp;done)|(simp [*];done),by repeat (first|exact ec.refl _|apply ec.step)⟩
def Td.f (Qa:List Int) (Oa:Int) (Pa:Int) (Ba:List (gl)) (a1:Int):Option (Int):=(Sd.f Qa a1).bind fun t102=>(if t102 < 0 then (some (-1)) else ((Ed.f Ba t102).bind fun t103=>(if t103 < 0 then (some (-1)) else (some t103))))
theorem Td.calls (yb:Option Addr) (xb:Nat) (Qa:List Int) (Oa:Int) (Pa:Int) (Db:Option Addr) (zb:Nat) (Ba:List (gl)) (a1:Int) (r:Int) (w:World) (xe:Kd.C (Kd.int .i64) w yb Qa.length Qa) (je:Qa.length ≤ xb) (we:Kd.C Qu w Db Ba.length Ba) (ie:Ba.length ≤ zb) (h:Td.f Qa Oa Pa Ba a1=some r) :
  Calls Tryd.prog 10 #[.agg #[.slice yb Qa.length xb,.int .i64 Oa,.int .i64 Pa,.slice Db Ba.length zb],.int .i64 a1] w fun e w'=>e = .returned (.int .i64 r)∧Below w.heap.size w w':=by
 have jB:=Tryd.underlying32;have Xd:=oa.mk xe;have qe:=oa.mk je;clear xe je;have Vd:=oa.mk we;have Qe:=oa.mk ie;clear we ie;have HB:=oa.mk (Below.refl w.heap.size w);have H:((Sd.f Qa a1).bind fun t102=>(if t102 < 0 then (some (-1)) else ((Ed.f Ba t102).bind fun t103=>(if t103 < 0 then (some (-1)) else (some t103)))))=some r:=h;clear h;replace H:=Option.bind_eq_some_iff.mp H;obtain ⟨t102,zu,H⟩:=H;replace H:(if t102 < 0 then (some (-1)) else ((Ed.f Ba t102).bind fun t103=>(if t103 < 0 then (some (-1)) else (some t103))))=some r:=H;have A3:=oa.mk zu;clear zu
 by_cases c4:t102 < 0
 ·rw [if_pos c4] at H;have Li:decide (t102 < 0)=true:=decide_eq_true c4;clear c4;obtain rfl:=Option.some.inj H;go_enter Tryd.func10,Tryd.ntmps10;go_wp2_with (first|((with_reducible refine Nb (N:=2) rfl ?_);refine Jb ?hg (N:=2) ?hd (cs:=#[.slice yb Qa.length xb,.int .i64 Oa,.int .i64 Pa,.slice Db Ba.length zb]) (t:=32) ?hr ?_;(case hd=>rfl);(case hg=>rfl);(case hr=>first|(go_simp;done)|(go_simp;rfl));intro Fa hg w5 Rb hb;have Tb:=oa.mk (Ta (by repeat (first|(with_reducible first|exact HB.out|apply ia|apply aa|apply qa)|exact HB.out)) hb);have Xb:=oa.mk (Rb);have tc:=oa.mk ((by rw [hg];exact (Ka (by repeat (first|(with_reducible first|exact HB.out|apply ia|apply aa|apply qa)|exact HB.out))):w.heap.size ≤ Fa));have Ec:=oa.mk ((by rw [hg];exact (Ka (by repeat (first|(with_reducible first|exact HB.out|apply ia|apply aa|apply qa)|exact HB.out))):w.heap.size ≤ Fa));clear HB;have HB:=Tb;have ya:=Xb;have Re:=tc;have Ua:=Ec;clear Tb Xb tc Ec hb Rb hg;have QH:w5.cell? ⟨Fa,0,none⟩=some (.slice yb Qa.length xb):=(ja ya.out 0).trans rfl;have OH:w5.cell? ⟨Fa,1,none⟩=some (.int .i64 Oa):=(ja ya.out 1).trans rfl;have NH:w5.cell? ⟨Fa,2,none⟩=some (.int .i64 Pa):=(ja ya.out 2).trans rfl;have MH:w5.cell? ⟨Fa,3,none⟩=some (.slice Db Ba.length zb):=(ja ya.out 3).trans rfl;have DH:=ga ya.out 0;have CH:=ga ya.out 1;have BH:=ga ya.out 2;have AH:=ga ya.out 3)|((with_reducible refine Lb (f:=21) rfl ?_);refine Xc (some 8) rfl rfl Tryd.func21 (by kernel_rfl) rfl #[.slice yb Qa.length xb,.int .i64 a1] rfl (by (try simp only [List.map_toArray,List.map_cons,List.map_nil]);first|done|rfl|(simp only [List.length_drop,List.length_take];rfl)) ?_;(with_reducible refine (Sd.calls _ _ Qa a1 t102 _ ?Jc ?Ic A3.out).mono ?_);(case Jc=>repeat (first|exact (Kd.Sb Xd.out HB.out)|(with_reducible refine Kd.Wb ?_ _)|(with_reducible refine Kd.Vb ?_ _)|(with_reducible refine Kd.Bc ?_)));(case Ic=>exact qe.out);rintro e w' ⟨rfl,⟨nd,rfl⟩⟩;refine ⟨_,rfl,?_⟩));go_ret;exact ⟨by first|rfl|(simp [Ja,Ia] <;> rfl)|(simp [*,Ja,Ia] <;> rfl),by repeat (first|(with_reducible first|exact HB.out|apply ia|apply aa|apply qa|refine ua ?_ Ua.out)|exact HB.out)⟩
 ·rw [if_neg c4] at H;have Li:decide (t102 < 0)=false:=decide_eq_false c4;clear c4;replace H:=Option.bind_eq_some_iff.mp H;obtain ⟨t103,Yt,H⟩:=H;replace H:(if t103 < 0 then (some (-1)) else (some t103))=some r:=H;have A7:=oa.mk Yt;clear Yt
  by_cases c8:t103 < 0
  ·rw [if_pos c8] at H;have wA:decide (t103 < 0)=true:=decide_eq_true c8;clear c8;obtain rfl:=Option.some.inj H;go_enter Tryd.func10,Tryd.ntmps10;go_wp2_with (first|((with_reducible refine Nb (N:=2) rfl ?_);refine Jb ?hg (N:=2) ?hd (cs:=#[.slice yb Qa.length xb,.int .i64 Oa,.int .i64 Pa,.slice Db Ba.length zb]) (t:=32) ?hr ?_;(case hd=>rfl);(case hg=>rfl);(case hr=>first|(go_simp;done)|(go_simp;rfl));intro Fa hg w9 Rb hb;have Tb:=oa.mk (Ta (by repeat (first|(with_reducible first|exact HB.out|apply ia|apply aa|apply qa)|exact HB.out)) hb);have Xb:=oa.mk (Rb);have tc:=oa.mk ((by rw [hg];exact (Ka (by repeat (first|(with_reducible first|exact HB.out|apply ia|apply aa|apply qa)|exact HB.out))):w.heap.size ≤ Fa));have Ec:=oa.mk ((by rw [hg];exact (Ka (by repeat (first|(with_reducible first|exact HB.out|apply ia|apply aa|apply qa)|exact HB.out))):w.heap.size ≤ Fa));clear HB;have HB:=Tb;have ya:=Xb;have Re:=tc;have Ua:=Ec;clear Tb Xb tc Ec hb Rb hg;have Hi:w9.cell? ⟨Fa,0,none⟩=some (.slice yb Qa.length xb):=(ja ya.out 0).trans rfl;have Gi:w9.cell? ⟨Fa,1,none⟩=some (.int .i64 Oa):=(ja ya.out 1).trans rfl;have Fi:w9.cell? ⟨Fa,2,none⟩=some (.int .i64 Pa):=(ja ya.out 2).trans rfl;have Ei:w9.cell? ⟨Fa,3,none⟩=some (.slice Db Ba.length zb):=(ja ya.out 3).trans rfl;have zi:=ga ya.out 0;have si:=ga ya.out 1;have qi:=ga ya.out 2;have ni:=ga ya.out 3)|((with_reducible refine Lb (f:=21) rfl ?_);refine Xc (some 8) rfl rfl Tryd.func21 (by kernel_rfl) rfl #[.slice yb Qa.length xb,.int .i64 a1] rfl (by (try simp only [List.map_toArray,List.map_cons,List.map_nil]);first|done|rfl|(simp only [List.length_drop,List.length_take];rfl)) ?_;(with_reducible refine (Sd.calls _ _ Qa a1 t102 _ ?Jc ?Ic A3.out).mono ?_);(case Jc=>repeat (first|exact (Kd.Sb Xd.out HB.out)|(with_reducible refine Kd.Wb ?_ _)|(with_reducible refine Kd.Vb ?_ _)|(with_reducible refine Kd.Bc ?_)));(case Ic=>exact qe.out);rintro e w' ⟨rfl,⟨nd,rfl⟩⟩;refine ⟨_,rfl,?_⟩)|((with_reducible refine Lb (f:=22) rfl ?_);refine Xc (some 14) rfl rfl Tryd.func22 (by kernel_rfl) rfl #[.slice Db Ba.length zb,.int .i64 t102] rfl (by (try simp only [List.map_toArray,List.map_cons,List.map_nil]);first|done|rfl|(simp only [List.length_drop,List.length_take];rfl)) ?_;(with_reducible refine (Ed.calls _ _ Ba t102 t103 _ ?Jc ?Ic A7.out).mono ?_);(case Jc=>repeat (first|exact (Kd.Sb Vd.out (by repeat (first|(with_reducible first|exact HB.out|apply ia|apply aa|apply qa|refine ua ?_ Ua.out)|exact HB.out)))|(with_reducible refine Kd.Wb ?_ _)|(with_reducible refine Kd.Vb ?_ _)|(with_reducible refine Kd.Bc ?_)));(case Ic=>exact Qe.out);rintro e w' ⟨rfl,⟨nd,rfl⟩⟩;refine ⟨_,rfl,?_⟩));go_ret;exact ⟨by first|rfl|(simp [Ja,Ia] <;> rfl)|(simp [*,Ja,Ia] <;> rfl),by repeat (first|(with_reducible first|exact HB.out|apply ia|apply aa|apply qa|refine ua ?_ Ua.out)|exact HB.out)⟩
  ·rw [if_neg c8] at H;have wA:decide (t103 < 0)=false:=decide_eq_false c8;clear c8;obtain rfl:=Option.some.inj H;go_enter Tryd.func10,Tryd.ntmps10;go_wp2_with (first|((with_reducible refine Nb (N:=2) rfl ?_);refine Jb ?hg (N:=2) ?hd (cs:=#[.slice yb Qa.length xb,.int .i64 Oa,.int .i64 Pa,.slice Db Ba.length zb]) (t:=32) ?hr ?_;(case hd=>rfl);(case hg=>rfl);(case hr=>first|(go_simp;done)|(go_simp;rfl));intro Fa hg Ll Rb hb;have Tb:=oa.mk (Ta (by repeat (first|(with_reducible first|exact HB.out|apply ia|apply aa|apply qa)|exact HB.out)) hb);have Xb:=oa.mk (Rb);have tc:=oa.mk ((by rw [hg];exact (Ka (by repeat (first|(with_reducible first|exact HB.out|apply ia|apply aa|apply qa)|exact HB.out))):w.heap.size ≤ Fa));have Ec:=oa.mk ((by rw [hg];exact (Ka (by repeat (first|(with_reducible first|exact HB.out|apply ia|apply aa|apply qa)|exact HB.out))):w.heap.size ≤ Fa));clear HB;have HB:=Tb;have ya:=Xb;have Re:=tc;have Ua:=Ec;clear Tb Xb tc Ec hb Rb hg;have zh:Ll.cell? ⟨Fa,0,none⟩=some (.slice yb Qa.length xb):=(ja ya.out 0).trans rfl;have yh:Ll.cell? ⟨Fa,1,none⟩=some (.int .i64 Oa):=(ja ya.out 1).trans rfl;have xh:Ll.cell? ⟨Fa,2,none⟩=some (.int .i64 Pa):=(ja ya.out 2).trans rfl;have wh:Ll.cell? ⟨Fa,3,none⟩=some (.slice Db Ba.length zb):=(ja ya.out 3).trans rfl;have mh:=ga ya.out 0;have jh:=ga ya.out 1;have gh:=ga ya.out 2;have fh:=ga ya.out 3)|((with_reducible refine Lb (f:=21) rfl ?_);refine Xc (some 8) rfl rfl Tryd.func21 (by kernel_rfl) rfl #[.slice yb Qa.length xb,.int .i64 a1] rfl (by (try simp only [List.map_toArray,List.map_cons,List.map_nil]);first|done|rfl|(simp only [List.length_drop,List.length_take];rfl)) ?_;(with_reducible refine (Sd.calls _ _ Qa a1 t102 _ ?Jc ?Ic A3.out).mono ?_);(case Jc=>repeat (first|exact (Kd.Sb Xd.out HB.out)|(with_reducible refine Kd.Wb ?_ _)|(with_reducible refine Kd.Vb ?_ _)|(with_reducible refine Kd.Bc ?_)));(case Ic=>exact qe.out);rintro e w' ⟨rfl,⟨nd,rfl⟩⟩;refine ⟨_,rfl,?_⟩)|((with_reducible refine Lb (f:=22) rfl ?_);refine Xc (some 14) rfl rfl Tryd.func22 (by kernel_rfl) rfl #[.slice Db Ba.length zb,.int .i64 t102] rfl (by (try simp only [List.map_toArray,List.map_cons,List.map_nil]);first|done|rfl|(simp only [List.length_drop,List.length_take];rfl)) ?_;(with_reducible refine (Ed.calls _ _ Ba t102 t103 _ ?Jc ?Ic A7.out).mono ?_);(case Jc=>repeat (first|exact (Kd.Sb Vd.out (by repeat (first|(with_reducible first|exact HB.out|apply ia|apply aa|apply qa|refine ua ?_ Ua.out)|exact HB.out)))|(with_reducible refine Kd.Wb ?_ _)|(with_reducible refine Kd.Vb ?_ _)|(with_reducible refine Kd.Bc ?_)));(case Ic=>exact Qe.out);rintro e w' ⟨rfl,⟨nd,rfl⟩⟩;refine ⟨_,rfl,?_⟩));go_ret;exact ⟨by first|rfl|(simp [Ja,Ia] <;> rfl)|(simp [*,Ja,Ia] <;> rfl),by repeat (first|(with_reducible first|exact HB.out|apply ia|apply aa|apply qa|refine ua ?_ Ua.out)|exact HB.out)⟩
def yc.l0:Nat→List Int→List Int→Int→Option (List Int)
 | 0,_,_,_=>none
 | k + 1,x0,x3,x4=>if x4 < (x0.length:Int) then (if 0 ≤ x4 then (if x4 < (x3.length:Int) then (yc.l0 k x0 (x3.set (x4:Int).toNat (rd x0 x4)) (wrap64 (x4 + 1))) else (none)) else (none)) else (some x3)
def yc.f (k:Nat) (l0:List Int):Option (List Int):=if 0 ≤ (l0.length:Int) then (if ((l0.length:Int):Int).toNat ≤ 35184372088832 then (yc.l0 k l0 (List.replicate ((l0.length:Int):Int).toNat 0) 0) else (none)) else (none)
theorem yc.calls (k:Nat) (A0:Option Addr) (c0:Nat) (l0:List Int) (r:List Int) (w:World) (Yg:Kd.C (Kd.int .i64) w A0 l0.length l0) (hc0:l0.length ≤ c0) (h:yc.f k l0=some r) :
  Calls Tryd.prog 24 #[.slice A0 l0.length c0] w fun e w'=>∃ uy:Value,e = .returned (uy)∧Kd.R (Kd.int .i64) 3 w' w.heap.size (fun _=>True) uy r∧Below w.heap.size w w':=by
 have Jr:=oa.mk Yg;have QA:=oa.mk hc0;clear Yg hc0;have HB:=oa.mk (Below.refl w.heap.size w);have H:(if 0 ≤ (l0.length:Int) then (if ((l0.length:Int):Int).toNat ≤ 35184372088832 then (yc.l0 k l0 (List.replicate ((l0.length:Int):Int).toNat 0) 0) else (none)) else (none))=some r:=h;clear h
 by_cases c2:0 ≤ (l0.length:Int)
 ·rw [if_pos c2] at H;have uu:=eq_true c2;have tu:decide (0 ≤ (l0.length:Int))=true:=decide_eq_true c2;clear c2
  by_cases c3:((l0.length:Int):Int).toNat ≤ 35184372088832
  ·rw [if_pos c3] at H;have Ag:=eq_true c3;have Gk:decide (((l0.length:Int):Int).toNat ≤ 35184372088832)=true:=decide_eq_true c3;clear c3;obtain ⟨Cu,Ph⟩:∃ y_:List Int,y_=(List.replicate ((l0.length:Int):Int).toNat 0):=⟨_,rfl⟩;replace H:(yc.l0 k l0 Cu 0)=some r:=by first|(rw [Ph];with_reducible exact H)|(have Ok:=(Option.bind_some _ _).symm.trans H;rw [Ph];with_reducible exact Ok)|(have Ok:=(Option.bind_some _ _).symm.trans H;with_reducible exact Ok)|with_reducible exact H|(rw [Ph];exact H)|exact H
   have lq:=oa.mk Ph;clear Ph;have H':=oa.mk H;clear H;go_enter Tryd.func24,Tryd.ntmps24;go_wp2_with (first|((with_reducible refine Nb (N:=7) rfl ?_);refine Kd.Hv (Kd.int .i64) _ 3 rfl (N:=7) rfl 29 _ _ rfl (l0.length:Int) rfl rfl Tryd.underlying29 (.int .i64 0) 8 info3 rfl (by decide) (by omega) 0 (ok:=fun _=>True) (Bm:=fun _=>True) rfl (fun _ hk=>hk) trivial (of_decide_eq_true (by first|(with_reducible assumption)|assumption)) (Nat.le_trans (Nat.mul_le_mul_right _ (of_decide_eq_true (by first|(with_reducible assumption)|assumption):(l0.length:Int).toNat ≤ 35184372088832)) (by omega)) (Below.refl _ _) (Nat.le_refl _) ?_;intro Iz w4 Uu hb cw Pj;clear cw Pj;(first|rw [← lq.out] at Uu|(simp only [Int.reduceToNat] at Uu;rw [← lq.out] at Uu));have Tb:=oa.mk (Kd.Be Uu (Ka (by repeat (first|(with_reducible first|exact HB.out|apply ia|apply aa|apply qa)|exact HB.out))));have Xb:=oa.mk (Ta (by repeat (first|(with_reducible first|exact HB.out|apply ia|apply aa|apply qa)|exact HB.out)) hb);clear HB;have Kv:=Tb;have HB:=Xb;clear Tb Xb hb Uu))
   go_loopg [4] k (fun kq v4 w'=>∃ (mb:List Int) (dc:Int),v4 = .int .i64 dc∧oa (yc.l0 kq l0 mb dc=some r)∧oa (kq ≤ k)∧oa (Kd.R (Kd.int .i64) 3 w' w.heap.size (fun _=>True) Iz mb)∧oa (Below w.heap.size w w'))
   case atStart=>exact ⟨(Cu),(0),(by first|rfl|(simp;done)|(simp [*];done)),H',⟨Nat.le_refl _⟩,⟨by (with_reducible repeat (first|apply Kd.Fb|apply Kd.Eb|apply Kd.Qb));exact Kv.out⟩,⟨by repeat (first|(with_reducible first|exact HB.out|apply ia|apply aa|apply qa)|exact HB.out)⟩⟩
   case round =>
    clear H'
    try clear c2
    try clear uu
    try clear tu
    try clear p2
    try clear c3
    try clear Ag
    try clear Gk
    (try clear HA);(try clear Lg);(try clear Dd);(try clear HB);obtain ⟨mb,dc,rfl,HA,Lg,Dd,HB⟩:=hrel;cases gk with
    | zero=>exact absurd HA.out (by simp [yc.l0])
    | succ k1 =>
     have H:=HA.out;clear HA;simp only [yc.l0] at H
     by_cases c6:dc < (l0.length:Int)
     ·rw [if_pos c6] at H;have Ah:decide (dc < (l0.length:Int))=true:=decide_eq_true c6;clear c6
      by_cases c7:0 ≤ dc
      ·rw [if_pos c7] at H;have nv:decide (0 ≤ dc)=true:=decide_eq_true c7;clear c7
       by_cases c8:dc < (mb.length:Int)
       ·rw [if_pos c8] at H;have wA:decide (dc < (mb.length:Int))=true:=decide_eq_true c8;clear c8;obtain ⟨Cz,Sp⟩:∃ y_:List Int,y_=(mb.set (dc:Int).toNat (rd l0 dc)):=⟨_,rfl⟩;replace H:(yc.l0 k1 l0 Cz (wrap64 (dc + 1)))=some r:=by first|(rw [Sp];with_reducible exact H)|(have Ok:=(Option.bind_some _ _).symm.trans H;rw [Sp];with_reducible exact Ok)|(have Ok:=(Option.bind_some _ _).symm.trans H;with_reducible exact Ok)|with_reducible exact H|(rw [Sp];exact H)|exact H
        have GC:=oa.mk Sp;clear Sp;have H':=oa.mk H;clear H;have zq:0 ≤ (dc:Int):=of_decide_eq_true (by first|(with_reducible assumption)|assumption);have wq:dc < (l0.length:Int):=of_decide_eq_true (by first|(with_reducible assumption)|assumption);obtain ⟨CC,vA,zj⟩:=Kd.Ch Jr.out dc zq wq;cases vA;replace zj:=Ra HB.out zj;replace zq:=eq_true zq;replace wq:=eq_true wq;have p9:0 ≤ (dc:Int):=of_decide_eq_true (by first|(with_reducible assumption)|assumption);have q9:(dc:Int) < ((mb.length:Int):Int):=of_decide_eq_true (by first|(with_reducible assumption)|assumption);obtain ⟨TH,LL,OJ,NJ,JL,LM,SK⟩:=Kd.Iv Dd.out (by omega);(first|cases OJ|(injection OJ with ey bI cI;(first|subst ey|(injection ey with ey;subst ey));subst cI;clear bI));have bM:=oa.mk NJ;have QM:=oa.mk SK;clear NJ JL SK;obtain ⟨CI,HJ⟩:=Kd.oy 0 Dd.out (dc:Int) p9 q9;replace p9:=eq_true p9;replace q9:=eq_true q9;have KA:=Kd.FA Dd.out (dc:Int) (rd l0 dc);go_wp2_with (first|((with_reducible refine Zl (t:=3) (p:=20) rfl ?_);refine Pk (t:=3) (p:=20) (v:=?gH) (w1:=(wr.setCell ⟨TH,(dc:Int).toNat,none⟩ (.int .i64 (rd l0 dc)))) ?hg ?ho ?hn ?hr ?_;(case ho=>rfl);(case hg=>rfl);(case hn=>rfl);(case hr=>first|(go_simp;done)|(go_simp;rfl));intro Ll hw;have hg:wr.grownBy Ll (some TH):=(by rw [hw];exact KA.2);have lB:Kd.R (Kd.int .i64) 3 Ll w.heap.size (fun _=>True) (.slice (some ⟨TH,0,none⟩) mb.length LL) Cz:=(by rw [hw,GC.out];exact KA.1);clear KA;have Tb:=oa.mk (lB);have Xb:=oa.mk ((by rw [hw];exact ua (HB.out) bM.out:Below w.heap.size w Ll));clear Dd HB;have Dd:=Tb;have HB:=Xb;clear Tb Xb hg hw lB))
        go_roundg k1
        case measure=>have:=Lg.out;omega
        case rel=>exact ⟨(Cz),(wrap64 (dc + 1)),(by first|rfl|(simp;done)|(simp [*];done)),H',⟨by have:=Lg.out;omega⟩,⟨by (with_reducible repeat (first|apply Kd.Fb|apply Kd.Eb|apply Kd.Qb));exact Dd.out⟩,⟨by repeat (first|(with_reducible first|exact HB.out|apply ia|apply aa|apply qa)|exact HB.out)⟩⟩
       ·rw [if_neg c8] at H;exact absurd H (by simp)
      ·rw [if_neg c7] at H;exact absurd H (by simp)
     ·rw [if_neg c6] at H;have Ah:decide (dc < (l0.length:Int))=false:=decide_eq_false c6;clear c6;obtain rfl:=Option.some.inj H;go_wp2;go_ret;exact ⟨_,by first|rfl|(simp [Ja,Ia] <;> rfl)|(simp [*,Ja,Ia] <;> rfl),by (with_reducible repeat (first|apply Kd.Fb|apply Kd.Eb|apply Kd.Qb));exact Dd.out,by repeat (first|(with_reducible first|exact HB.out|apply ia|apply aa|apply qa)|exact HB.out)⟩
  ·rw [if_neg c3] at H;exact absurd H (by simp)
 ·rw [if_neg c2] at H;exact absurd H (by simp)
def Jf.f (qd:Int) (Oa:Int) (Pa:Int) (xd:Int) (yd:Int):Option (Int × Int × Int × Int × Int):=some (qd,Oa,Pa,xd,yd)
theorem Jf.calls (qd:Int) (Oa:Int) (Pa:Int) (xd:Int) (yd:Int) (r1:Int) (r2:Int) (r3:Int) (r4:Int) (r5:Int) (w:World) (h:Jf.f qd Oa Pa xd yd=some (r1,r2,r3,r4,r5)) :
  Calls Tryd.prog 35 #[.agg #[.int .i64 qd,.int .i64 Oa,.int .i64 Pa,.int .i64 xd,.int .i64 yd]] w fun e w'=>e = .returned (.agg #[.int .i64 r1,.int .i64 r2,.int .i64 r3,.int .i64 r4,.int .i64 r5])∧Below w.heap.size w w':=by
 have rH:=Tryd.underlying71;have Mq:=Tryd.underlying53;have HB:=oa.mk (Below.refl w.heap.size w);have H:(some (qd,Oa,Pa,xd,yd))=some (r1,r2,r3,r4,r5):=h;clear h;simp only [Option.some.injEq,Prod.mk.injEq] at H;obtain ⟨rfl,rfl,rfl,rfl,rfl⟩:=H;go_enter Tryd.func35,Tryd.ntmps35;go_wp2_with (first|((with_reducible refine Nb (N:=1) rfl ?_);refine Jb ?hg (N:=1) ?hd (cs:=#[.int .i64 qd,.int .i64 Oa,.int .i64 Pa,.int .i64 xd,.int .i64 yd]) (t:=71) ?hr ?_;(case hd=>rfl);(case hg=>rfl);(case hr=>first|(go_simp;done)|(go_simp;rfl));intro Fa hg w2 Rb hb;have Tb:=oa.mk (Ta (by repeat (first|(with_reducible first|exact HB.out|apply ia|apply aa|apply qa)|exact HB.out)) hb);have Xb:=oa.mk (Rb);have tc:=oa.mk ((by rw [hg];exact (Ka (by repeat (first|(with_reducible first|exact HB.out|apply ia|apply aa|apply qa)|exact HB.out))):w.heap.size ≤ Fa));have Ec:=oa.mk ((by rw [hg];exact (Ka (by repeat (first|(with_reducible first|exact HB.out|apply ia|apply aa|apply qa)|exact HB.out))):w.heap.size ≤ Fa));clear HB;have HB:=Tb;have ya:=Xb;have Re:=tc;have Ua:=Ec;clear Tb Xb tc Ec hb Rb hg)|((with_reducible refine Nb (N:=2) rfl ?_);refine Jb ?hg (N:=2) ?hd (cs:=#[.int .i64 0,.int .i64 0,.int .i64 0,.int .i64 0,.int .i64 0]) (t:=53) ?hr ?_;(case hd=>rfl);(case hg=>rfl);(case hr=>first|(go_simp;done)|(go_simp;rfl));intro La hg w3 Rb hb;have Tb:=oa.mk (jb (g:=Fa) (o:=.cells #[.int .i64 qd,.int .i64 Oa,.int .i64 Pa,.int .i64 xd,.int .i64 yd] 71 (0,0)) (by (with_reducible repeat (first|refine Ca ?_ _|refine Ea ?_|refine Da ?_ _));exact ya.out) hb);have Xb:=oa.mk (Ta (by repeat (first|(with_reducible first|exact HB.out|apply ia|apply aa|apply qa|refine ua ?_ Ua.out)|exact HB.out)) hb);have tc:=oa.mk (Rb);have Ec:=oa.mk ((by rw [hg];exact (Ka (by repeat (first|(with_reducible first|exact HB.out|apply ia|apply aa|apply qa|refine ua ?_ Ua.out)|exact HB.out))):w.heap.size ≤ La));have fe:=oa.mk ((by rw [hg];exact (Ka (by repeat (first|(with_reducible first|exact HB.out|apply ia|apply aa|apply qa|refine ua ?_ Ua.out)|exact HB.out))):w.heap.size ≤ La));have Ae:=oa.mk ((by rw [hg];exact Nat.ne_of_lt (Dc (g:=Fa) (o:=.cells #[.int .i64 qd,.int .i64 Oa,.int .i64 Pa,.int .i64 xd,.int .i64 yd] 71 (0,0)) (by (with_reducible repeat (first|refine Ca ?_ _|refine Ea ?_|refine Da ?_ _));exact ya.out)):Fa ≠ La));have Me:=oa.mk ((by rw [hg];exact Nat.ne_of_gt (Dc (g:=Fa) (o:=.cells #[.int .i64 qd,.int .i64 Oa,.int .i64 Pa,.int .i64 xd,.int .i64 yd] 71 (0,0)) (by (with_reducible repeat (first|refine Ca ?_ _|refine Ea ?_|refine Da ?_ _));exact ya.out)):La ≠ Fa));clear ya HB;have ya:=Tb;have HB:=Xb;have Ga:=tc;have Xg:=Ec;have Ub:=fe;have Cb:=Ae;have Bb:=Me;clear Tb Xb tc Ec fe Ae Me hb Rb hg)|((with_reducible refine Nb (N:=3) rfl ?_);refine Jb ?hg (N:=3) ?hd (cs:=#[.int .i64 0,.int .i64 0,.int .i64 0,.int .i64 0,.int .i64 0]) (t:=53) ?hr ?_;(case hd=>rfl);(case hg=>rfl);(case hr=>first|(go_simp;done)|(go_simp;rfl));intro Cd hg w4 Rb hb;have Tb:=oa.mk (jb (g:=Fa) (o:=.cells #[.int .i64 qd,.int .i64 Oa,.int .i64 Pa,.int .i64 xd,.int .i64 yd] 71 (0,0)) (by (with_reducible repeat (first|refine Ca ?_ _|refine Ea ?_|refine Da ?_ _));exact ya.out) hb);have Xb:=oa.mk (jb (g:=La) (o:=.cells #[.int .i64 0,.int .i64 0,.int .i64 0,.int .i64 0,.int .i64 0] 53 (0,0)) (by (with_reducible repeat (first|refine Ca ?_ _|refine Ea ?_|refine Da ?_ _));exact Ga.out) hb);have tc:=oa.mk (Ta (by repeat (first|(with_reducible first|exact HB.out|apply ia|apply aa|apply qa|refine ua ?_ Ua.out|refine ua ?_ Ub.out)|exact HB.out)) hb);have Ec:=oa.mk (Rb);have fe:=oa.mk ((by rw [hg];exact (Ka (by repeat (first|(with_reducible first|exact HB.out|apply ia|apply aa|apply qa|refine ua ?_ Ua.out|refine ua ?_ Ub.out)|exact HB.out))):w.heap.size ≤ Cd));have Ae:=oa.mk ((by rw [hg];exact (Ka (by repeat (first|(with_reducible first|exact HB.out|apply ia|apply aa|apply qa|refine ua ?_ Ua.out|refine ua ?_ Ub.out)|exact HB.out))):w.heap.size ≤ Cd));have Me:=oa.mk ((by rw [hg];exact Nat.ne_of_lt (Dc (g:=Fa) (o:=.cells #[.int .i64 qd,.int .i64 Oa,.int .i64 Pa,.int .i64 xd,.int .i64 yd] 71 (0,0)) (by (with_reducible repeat (first|refine Ca ?_ _|refine Ea ?_|refine Da ?_ _));exact ya.out)):Fa ≠ Cd));have Mm:=oa.mk ((by rw [hg];exact Nat.ne_of_gt (Dc (g:=Fa) (o:=.cells #[.int .i64 qd,.int .i64 Oa,.int .i64 Pa,.int .i64 xd,.int .i64 yd] 71 (0,0)) (by (with_reducible repeat (first|refine Ca ?_ _|refine Ea ?_|refine Da ?_ _));exact ya.out)):Cd ≠ Fa));have Sr:=oa.mk ((by rw [hg];exact Nat.ne_of_lt (Dc (g:=La) (o:=.cells #[.int .i64 0,.int .i64 0,.int .i64 0,.int .i64 0,.int .i64 0] 53 (0,0)) (by (with_reducible repeat (first|refine Ca ?_ _|refine Ea ?_|refine Da ?_ _));exact Ga.out)):La ≠ Cd));have Dy:=oa.mk ((by rw [hg];exact Nat.ne_of_gt (Dc (g:=La) (o:=.cells #[.int .i64 0,.int .i64 0,.int .i64 0,.int .i64 0,.int .i64 0] 53 (0,0)) (by (with_reducible repeat (first|refine Ca ?_ _|refine Ea ?_|refine Da ?_ _));exact Ga.out)):Cd ≠ La));clear ya Ga HB;have ya:=Tb;have Ga:=Xb;have HB:=tc;have Ad:=Ec;have OC:=fe;have Vk:=Ae;have wg:=Me;have Nk:=Mm;have Qd:=Sr;have Mk:=Dy;clear Tb Xb tc Ec fe Ae Me Mm Sr Dy hb Rb hg;have AL:=Cb.out;have wL:=Bb.out;have zL:=wg.out;have vL:=Nk.out;have br:w4.cell? ⟨Fa,0,none⟩=some (.int .i64 qd):=(ja ya.out 0).trans rfl;have Zq:w4.cell? ⟨Fa,1,none⟩=some (.int .i64 Oa):=(ja ya.out 1).trans rfl;have Yq:w4.cell? ⟨Fa,2,none⟩=some (.int .i64 Pa):=(ja ya.out 2).trans rfl;have Xq:w4.cell? ⟨Fa,3,none⟩=some (.int .i64 xd):=(ja ya.out 3).trans rfl;have LH:w4.cell? ⟨Fa,4,none⟩=some (.int .i64 yd):=(ja ya.out 4).trans rfl;have Rq:=ga ya.out 0;have Qq:=ga ya.out 1;have Pq:=ga ya.out 2;have Oq:=ga ya.out 3;have zH:=ga ya.out 4;have uB:=Mk.out;have oB:=Qd.out;have uh:w4.cell? ⟨Cd,0,none⟩=some (.int .i64 0):=(ja Ad.out 0).trans rfl;have qh:w4.cell? ⟨Cd,1,none⟩=some (.int .i64 0):=(ja Ad.out 1).trans rfl;have oh:w4.cell? ⟨Cd,2,none⟩=some (.int .i64 0):=(ja Ad.out 2).trans rfl;have nh:w4.cell? ⟨Cd,3,none⟩=some (.int .i64 0):=(ja Ad.out 3).trans rfl;have Wl:w4.cell? ⟨Cd,4,none⟩=some (.int .i64 0):=(ja Ad.out 4).trans rfl;have dh:=ga Ad.out 0;have bh:=ga Ad.out 1;have ah:=ga Ad.out 2;have Zg:=ga Ad.out 3;have Vl:=ga Ad.out 4;have Hi:w4.cell? ⟨La,0,none⟩=some (.int .i64 0):=(ja Ga.out 0).trans rfl;have Gi:w4.cell? ⟨La,1,none⟩=some (.int .i64 0):=(ja Ga.out 1).trans rfl;have Fi:w4.cell? ⟨La,2,none⟩=some (.int .i64 0):=(ja Ga.out 2).trans rfl;have Ei:w4.cell? ⟨La,3,none⟩=some (.int .i64 0):=(ja Ga.out 3).trans rfl;have WG:w4.cell? ⟨La,4,none⟩=some (.int .i64 0):=(ja Ga.out 4).trans rfl;have zi:=ga Ga.out 0;have si:=ga Ga.out 1;have qi:=ga Ga.out 2;have ni:=ga Ga.out 3;have kF:=ga Ga.out 4));refine bodyPost_ret (results_cell_row rfl _ _ La 53 #[.int .i64 qd,.int .i64 Oa,.int .i64 Pa,.int .i64 xd,.int .i64 yd] (0,0) _ rfl (by (with_reducible repeat (first|refine Ca ?_ _|refine Ea ?_|refine Da ?_ _));refine Uc (cs:=#[.int .i64 qd,.int .i64 Oa,.int .i64 Pa,.int .i64 xd,.int .i64 0]) ?_ 4 _ rfl;(with_reducible repeat (first|refine Ca ?_ _|refine Ea ?_|refine Da ?_ _));refine Uc (cs:=#[.int .i64 qd,.int .i64 Oa,.int .i64 Pa,.int .i64 0,.int .i64 0]) ?_ 3 _ rfl;(with_reducible repeat (first|refine Ca ?_ _|refine Ea ?_|refine Da ?_ _));refine Uc (cs:=#[.int .i64 qd,.int .i64 Oa,.int .i64 0,.int .i64 0,.int .i64 0]) ?_ 2 _ rfl;(with_reducible repeat (first|refine Ca ?_ _|refine Ea ?_|refine Da ?_ _));refine Uc (cs:=#[.int .i64 qd,.int .i64 0,.int .i64 0,.int .i64 0,.int .i64 0]) ?_ 1 _ rfl;(with_reducible repeat (first|refine Ca ?_ _|refine Ea ?_|refine Da ?_ _));refine Uc (cs:=#[.int .i64 0,.int .i64 0,.int .i64 0,.int .i64 0,.int .i64 0]) ?_ 0 _ rfl;(with_reducible repeat (first|refine Ca ?_ _|refine Ea ?_|refine Da ?_ _));refine Vc ?_ Qd.out _;(with_reducible repeat (first|refine Ca ?_ _|refine Ea ?_|refine Da ?_ _));refine Vc ?_ Qd.out _;(with_reducible repeat (first|refine Ca ?_ _|refine Ea ?_|refine Da ?_ _));refine Vc ?_ Qd.out _;(with_reducible repeat (first|refine Ca ?_ _|refine Ea ?_|refine Da ?_ _));refine Vc ?_ Qd.out _;(with_reducible repeat (first|refine Ca ?_ _|refine Ea ?_|refine Da ?_ _));refine Vc ?_ Qd.out _;(with_reducible repeat (first|refine Ca ?_ _|refine Ea ?_|refine Da ?_ _));exact Ga.out) Tryd.underlying53 rfl (by kernel_rfl)) rfl ?_;exact ⟨by first|rfl|(simp [Ja,Ia] <;> rfl)|(simp [*,Ja,Ia] <;> rfl),by repeat (first|(with_reducible first|exact HB.out|apply ia|apply aa|apply qa|refine ua ?_ Ua.out|refine ua ?_ Ub.out|refine ua ?_ Vk.out)|exact HB.out)⟩
def Yb.l0:Nat→List (gl)→List (Pd)→Int→Option ((List (Pd)))
 | 0,_,_,_=>none
 | k + 1,x0,x3,x4=>if x4 < (x0.length:Int) then (if 0 ≤ x4 then ((Jf.f ((Nd x0 x4).f0) ((Nd x0 x4).f1) ((Nd x0 x4).f2) ((Nd x0 x4).f3) ((Nd x0 x4).f4)).bind fun iq=>(if x4 < (x3.length:Int) then (Yb.l0 k x0 (x3.set (x4:Int).toNat (⟨iq.1,iq.2.1,iq.2.2.1,iq.2.2.2.1,iq.2.2.2.2⟩:Pd)) (wrap64 (x4 + 1))) else (none))) else (none)) else (some x3)
def Yb.f (k:Nat) (l0:List (gl)):Option ((List (Pd))):=if 0 ≤ (l0.length:Int) then (if ((l0.length:Int):Int).toNat ≤ 7036874417766 then (Yb.l0 k l0 (List.replicate ((l0.length:Int):Int).toNat z53) 0) else (none)) else (none)
theorem Yb.calls (k:Nat) (A0:Option Addr) (c0:Nat) (l0:List (gl)) (r:List (Pd)) (w:World) (Yg:Kd.C Qu w A0 l0.length l0) (hc0:l0.length ≤ c0) (h:Yb.f k l0=some r) :
  Calls Tryd.prog 25 #[.slice A0 l0.length c0] w fun e w'=>∃ uy:Value,e = .returned (uy)∧Kd.R Si 53 w' w.heap.size (fun _=>True) uy r∧Below w.heap.size w w':=by
 have rH:=Tryd.underlying71;have Mq:=Tryd.underlying53;have Jr:=oa.mk Yg;have QA:=oa.mk hc0;clear Yg hc0;have HB:=oa.mk (Below.refl w.heap.size w);have H:(if 0 ≤ (l0.length:Int) then (if ((l0.length:Int):Int).toNat ≤ 7036874417766 then (Yb.l0 k l0 (List.replicate ((l0.length:Int):Int).toNat z53) 0) else (none)) else (none))=some r:=h;clear h
 by_cases c2:0 ≤ (l0.length:Int)
 ·rw [if_pos c2] at H;have uu:=eq_true c2;have tu:decide (0 ≤ (l0.length:Int))=true:=decide_eq_true c2;clear c2
  by_cases c3:((l0.length:Int):Int).toNat ≤ 7036874417766
  ·rw [if_pos c3] at H;have Ag:=eq_true c3;have Gk:decide (((l0.length:Int):Int).toNat ≤ 7036874417766)=true:=decide_eq_true c3;clear c3;obtain ⟨Cu,Ph⟩:∃ y_:List (Pd),y_=(List.replicate ((l0.length:Int):Int).toNat z53):=⟨_,rfl⟩;replace H:(Yb.l0 k l0 Cu 0)=some r:=by first|(rw [Ph];with_reducible exact H)|(have Ok:=(Option.bind_some _ _).symm.trans H;rw [Ph];with_reducible exact Ok)|(have Ok:=(Option.bind_some _ _).symm.trans H;with_reducible exact Ok)|with_reducible exact H|(rw [Ph];exact H)|exact H
   have lq:=oa.mk Ph;clear Ph;have H':=oa.mk H;clear H;go_enter Tryd.func25,Tryd.ntmps25;go_wp2_with (first|((with_reducible refine Nb (N:=7) rfl ?_);refine Kd.Hv Si _ 53 rfl (N:=7) rfl 35 _ _ rfl (l0.length:Int) rfl rfl Tryd.underlying35 (.agg #[(.int .i64 0),(.int .i64 0),(.int .i64 0),(.int .i64 0),(.int .i64 0)]) 40 Uz rfl (by decide) (by omega) z53 (ok:=fun _=>True) (Bm:=fun _=>True) (Wr _ _ _ z53 ) (fun _ hk=>hk) trivial (of_decide_eq_true (by first|(with_reducible assumption)|assumption)) (Nat.le_trans (Nat.mul_le_mul_right _ (of_decide_eq_true (by first|(with_reducible assumption)|assumption):(l0.length:Int).toNat ≤ 7036874417766)) (by omega)) (Below.refl _ _) (Nat.le_refl _) ?_;intro Iz w4 Uu hb cw Pj;clear cw Pj;(first|rw [← lq.out] at Uu|(simp only [Int.reduceToNat] at Uu;rw [← lq.out] at Uu));have Tb:=oa.mk (Kd.Be Uu (Ka (by repeat (first|(with_reducible first|exact HB.out|apply ia|apply aa|apply qa)|exact HB.out))));have Xb:=oa.mk (Ta (by repeat (first|(with_reducible first|exact HB.out|apply ia|apply aa|apply qa)|exact HB.out)) hb);clear HB;have Kv:=Tb;have HB:=Xb;clear Tb Xb hb Uu))
   go_loopg [4] k (fun kq v4 w'=>∃ (mb:List (Pd)) (dc:Int),v4 = .int .i64 dc∧oa (Yb.l0 kq l0 mb dc=some r)∧oa (kq ≤ k)∧oa (Kd.R Si 53 w' w.heap.size (fun _=>True) Iz mb)∧oa (Below w.heap.size w w'))
   case atStart=>exact ⟨(Cu),(0),(by first|rfl|(simp;done)|(simp [*];done)),H',⟨Nat.le_refl _⟩,⟨by (with_reducible repeat (first|apply Kd.Fb|apply Kd.Eb|apply Kd.Qb));exact Kv.out⟩,⟨by repeat (first|(with_reducible first|exact HB.out|apply ia|apply aa|apply qa)|exact HB.out)⟩⟩
   case round =>
    clear H'
    try clear c2
    try clear uu
    try clear tu
    try clear p2
    try clear c3
    try clear Ag
    try clear Gk
    (try clear HA);(try clear Lg);(try clear Dd);(try clear HB);obtain ⟨mb,dc,rfl,HA,Lg,Dd,HB⟩:=hrel;cases gk with
    | zero=>exact absurd HA.out (by simp [Yb.l0])
    | succ k1 =>
     have H:=HA.out;clear HA;simp only [Yb.l0] at H
     by_cases c6:dc < (l0.length:Int)
     ·rw [if_pos c6] at H;have Ah:decide (dc < (l0.length:Int))=true:=decide_eq_true c6;clear c6
      by_cases c7:0 ≤ dc
      ·rw [if_pos c7] at H;have nv:decide (0 ≤ dc)=true:=decide_eq_true c7;clear c7;replace H:=Option.bind_eq_some_iff.mp H;obtain ⟨⟨t105,t106,t107,t108,t109⟩,SC,H⟩:=H;replace H:(if dc < (mb.length:Int) then (Yb.l0 k1 l0 (mb.set (dc:Int).toNat (⟨t105,t106,t107,t108,t109⟩:Pd)) (wrap64 (dc + 1))) else (none))=some r:=H;have A8:=oa.mk SC;clear SC
       by_cases c9:dc < (mb.length:Int)
       ·rw [if_pos c9] at H;have jI:decide (dc < (mb.length:Int))=true:=decide_eq_true c9;clear c9;obtain ⟨Ff,Oh⟩:∃ y_:List (Pd),y_=(mb.set (dc:Int).toNat (⟨t105,t106,t107,t108,t109⟩:Pd)):=⟨_,rfl⟩;replace H:(Yb.l0 k1 l0 Ff (wrap64 (dc + 1)))=some r:=by first|(rw [Oh];with_reducible exact H)|(have Ok:=(Option.bind_some _ _).symm.trans H;rw [Oh];with_reducible exact Ok)|(have Ok:=(Option.bind_some _ _).symm.trans H;with_reducible exact Ok)|with_reducible exact H|(rw [Oh];exact H)|exact H
        have Xt:=oa.mk Oh;clear Oh;have H':=oa.mk H;clear H;have zq:0 ≤ (dc:Int):=of_decide_eq_true (by first|(with_reducible assumption)|assumption);have wq:dc < (l0.length:Int):=of_decide_eq_true (by first|(with_reducible assumption)|assumption);obtain ⟨CC,vA,zj,Es,Ds,Cs,Bs⟩:=DA Jr.out dc zq wq;cases vA;replace zj:=Ra HB.out zj;replace Es:=Ra HB.out Es;replace Ds:=Ra HB.out Ds;replace Cs:=Ra HB.out Cs;replace Bs:=Ra HB.out Bs;replace zq:=eq_true zq;replace wq:=eq_true wq;go_wp2_with (first|((with_reducible refine Lb (f:=35) rfl ?_);refine Xc (some 20) rfl rfl Tryd.func35 (by kernel_rfl) rfl #[.agg #[.int .i64 ((Nd l0 dc).f0),.int .i64 ((Nd l0 dc).f1),.int .i64 ((Nd l0 dc).f2),.int .i64 ((Nd l0 dc).f3),.int .i64 ((Nd l0 dc).f4)]] rfl (by (try simp only [List.map_toArray,List.map_cons,List.map_nil]);first|done|rfl|(simp only [List.length_drop,List.length_take];rfl)) ?_;(with_reducible refine (Jf.calls ((Nd l0 dc).f0) ((Nd l0 dc).f1) ((Nd l0 dc).f2) ((Nd l0 dc).f3) ((Nd l0 dc).f4) t105 t106 t107 t108 t109 _ A8.out).mono ?_);rintro e Ll ⟨rfl,hb⟩;refine ⟨_,rfl,?_⟩;have Tb:=oa.mk (Kd.Pc (by (with_reducible repeat (first|apply Kd.Fb|apply Kd.Eb|apply Kd.Qb));exact Dd.out) hb);have Xb:=oa.mk (Ta (by repeat (first|(with_reducible first|exact HB.out|apply ia|apply aa|apply qa)|exact HB.out)) hb);clear Dd HB;have Dd:=Tb;have HB:=Xb;clear Tb Xb;(try clear hb);(try clear hb2);(try clear hk);(try clear hi);have Rz:0 ≤ (dc:Int):=of_decide_eq_true (by first|(with_reducible assumption)|assumption);have Oz:(dc:Int) < ((mb.length:Int):Int):=of_decide_eq_true (by first|(with_reducible assumption)|assumption);obtain ⟨Jh,TB,QB,IB,UH,NL,MC⟩:=Kd.Iv Dd.out (by omega);(first|cases QB|(injection QB with ey bI cI;(first|subst ey|(injection ey with ey;subst ey));subst cI;clear bI));have Mv:=oa.mk IB;have aM:=oa.mk MC;clear IB UH MC;obtain ⟨PL,DB,FB,Sm,Rm⟩:=Kd.Jv Dd.out z53 (dc:Int) Rz Oz;obtain rfl:=Om FB;have qH:Ll.cell? ⟨Jh,(dc:Int).toNat * 5,none⟩=some (.int .i64 ((za mb dc).f0)):=Sm 0 _ rfl;have pH:Ll.cell? ⟨Jh,(dc:Int).toNat * 5 + 1,none⟩=some (.int .i64 ((za mb dc).f1)):=Sm 1 _ rfl;have oH:Ll.cell? ⟨Jh,(dc:Int).toNat * 5 + 2,none⟩=some (.int .i64 ((za mb dc).f2)):=Sm 2 _ rfl;have nH:Ll.cell? ⟨Jh,(dc:Int).toNat * 5 + 3,none⟩=some (.int .i64 ((za mb dc).f3)):=Sm 3 _ rfl;have mH:Ll.cell? ⟨Jh,(dc:Int).toNat * 5 + 4,none⟩=some (.int .i64 ((za mb dc).f4)):=Sm 4 _ rfl;have KH:Ll.frozen? ⟨Jh,(dc:Int).toNat * 5,none⟩=false:=Rm 0;have JH:Ll.frozen? ⟨Jh,(dc:Int).toNat * 5 + 1,none⟩=false:=Rm 1;have HH:Ll.frozen? ⟨Jh,(dc:Int).toNat * 5 + 2,none⟩=false:=Rm 2;have GH:Ll.frozen? ⟨Jh,(dc:Int).toNat * 5 + 3,none⟩=false:=Rm 3;have FH:Ll.frozen? ⟨Jh,(dc:Int).toNat * 5 + 4,none⟩=false:=Rm 4;clear DB Sm Rm FB;replace Rz:=eq_true Rz;replace Oz:=eq_true Oz;have IC:=oa.mk (show Kd.R Si 53 Ll w.heap.size (fun _=>True) (.slice (some ⟨Jh,0,none⟩) mb.length TB) mb from (by (with_reducible repeat (first|apply Kd.Fb|apply Kd.Eb|apply Kd.Qb));exact Dd.out));obtain ⟨OL,Jy,EB,Xl,Qm⟩:=Kd.Jv IC.out z53 (dc:Int) (of_decide_eq_true (by first|(with_reducible assumption)|assumption)) (by have h_:(dc:Int) < ((mb.length:Int):Int):=of_decide_eq_true (by first|(with_reducible assumption)|assumption);first|exact h_|(have e_:=(Kd.Mc Dd.out).1;omega)|simpa using h_);obtain rfl:=Om EB;have JA:=Kd.EC IC.out (dc:Int) (of_decide_eq_true (by first|(with_reducible assumption)|assumption)) (by have h_:(dc:Int) < ((mb.length:Int):Int):=of_decide_eq_true (by first|(with_reducible assumption)|assumption);first|exact h_|(have e_:=(Kd.Mc Dd.out).1;omega)|simpa using h_) (seg:=[.int .i64 t105,.int .i64 t106,.int .i64 t107,.int .i64 t108,.int .i64 t109]) (j:=0) Jy Xl (show 5 ≤ 5 from by decide) (x':=(⟨t105,t106,t107,t108,t109⟩:Pd)) (Wr _ _ _ (⟨t105,t106,t107,t108,t109⟩:Pd) ) (fun _ hk=>hk);have Zz:=Xl 0 _ rfl;(try simp only [show (Si).sz=5 from rfl,Nat.mul_one,Nat.add_zero] at Zz);have jA:=Qm 0;(try simp only [show (Si).sz=5 from rfl,Nat.mul_one,Nat.add_zero] at jA);have Yz:=Xl 1 _ rfl;(try simp only [show (Si).sz=5 from rfl,Nat.mul_one,Nat.add_zero] at Yz);have iA:=Qm 1;(try simp only [show (Si).sz=5 from rfl,Nat.mul_one,Nat.add_zero] at iA);have Xz:=Xl 2 _ rfl;(try simp only [show (Si).sz=5 from rfl,Nat.mul_one,Nat.add_zero] at Xz);have gA:=Qm 2;(try simp only [show (Si).sz=5 from rfl,Nat.mul_one,Nat.add_zero] at gA);have Wz:=Xl 3 _ rfl;(try simp only [show (Si).sz=5 from rfl,Nat.mul_one,Nat.add_zero] at Wz);have fA:=Qm 3;(try simp only [show (Si).sz=5 from rfl,Nat.mul_one,Nat.add_zero] at fA);have Vz:=Xl 4 _ rfl;(try simp only [show (Si).sz=5 from rfl,Nat.mul_one,Nat.add_zero] at Vz);have eA:=Qm 4;(try simp only [show (Si).sz=5 from rfl,Nat.mul_one,Nat.add_zero] at eA);clear Jy Xl Qm EB)|((with_reducible refine Zl (t:=53) (p:=21) rfl ?_);refine Pk (t:=53) (p:=21) (v:=?fH) (w1:=(((((Ll.setCell ⟨Jh,(dc:Int).toNat * 5,none⟩ (.int .i64 t105)).setCell ⟨Jh,(dc:Int).toNat * 5 + 1,none⟩ (.int .i64 t106)).setCell ⟨Jh,(dc:Int).toNat * 5 + 2,none⟩ (.int .i64 t107)).setCell ⟨Jh,(dc:Int).toNat * 5 + 3,none⟩ (.int .i64 t108)).setCell ⟨Jh,(dc:Int).toNat * 5 + 4,none⟩ (.int .i64 t109))) ?hg ?ho ?hn ?hr ?_;(case ho=>rfl);(case hg=>rfl);(case hn=>rfl);(case hr=>first|(go_simp;done)|(go_simp;rfl));intro mD hw;have hg:Ll.grownBy mD (some Jh):=(by rw [hw];exact JA.2);have lB:Kd.R Si 53 mD w.heap.size (fun _=>True) (.slice (some ⟨Jh,0,none⟩) mb.length TB) Ff:=(by rw [hw,Xt.out];exact JA.1);clear JA;have Tb:=oa.mk (lB);have Xb:=oa.mk ((by rw [hw];exact ua (ua (ua (ua (ua (HB.out) Mv.out) Mv.out) Mv.out) Mv.out) Mv.out:Below w.heap.size w mD));clear Dd HB;have Dd:=Tb;have HB:=Xb;clear Tb Xb hg hw lB))
        go_roundg k1
        case measure=>have:=Lg.out;omega
        case rel=>exact ⟨(Ff),(wrap64 (dc + 1)),(by first|rfl|(simp;done)|(simp [*];done)),H',⟨by have:=Lg.out;omega⟩,⟨by (with_reducible repeat (first|apply Kd.Fb|apply Kd.Eb|apply Kd.Qb));exact Dd.out⟩,⟨by repeat (first|(with_reducible first|exact HB.out|apply ia|apply aa|apply qa)|exact HB.out)⟩⟩
       ·rw [if_neg c9] at H;exact absurd H (by simp)
      ·rw [if_neg c7] at H;exact absurd H (by simp)
     ·rw [if_neg c6] at H;have Ah:decide (dc < (l0.length:Int))=false:=decide_eq_false c6;clear c6;obtain rfl:=Option.some.inj H;go_wp2;go_ret;exact ⟨_,by first|rfl|(simp [Ja,Ia] <;> rfl)|(simp [*,Ja,Ia] <;> rfl),by (with_reducible repeat (first|apply Kd.Fb|apply Kd.Eb|apply Kd.Qb));exact Dd.out,by repeat (first|(with_reducible first|exact HB.out|apply ia|apply aa|apply qa)|exact HB.out)⟩
  ·rw [if_neg c3] at H;exact absurd H (by simp)
 ·rw [if_neg c2] at H;exact absurd H (by simp)
end Go.Proofs.YtgflknmbnblpaaaDoor.P
end
