import Derived.Test.YtoomcmaifgkkfaaQBacks1
import Derived.Shelf.Abstract
import Derived.Outline
import Derived.RegionTactic
import Derived.Deep.QuietTactic
import Derived.BigQuiet
set_option maxHeartbeats 8000000
set_option maxRecDepth 100000
section
namespace Go.Proofs.Ytoomcmaifgkkfaa.P
open Go.RowKit Go.Proofs.ua.zb Go.Proofs.ua.Lc Go.Proofs.ua.Pd
set_option linter.unusedVariables false
set_option linter.unusedSimpArgs false
attribute [local go_sem] Hg Fg Nh Mh cg bg Gg Eg
def Fj.f (k:Nat) (a0:ByteArray):Option (Bool):=(Mb.f k (([(⟨#[61,61]⟩:ByteArray),(⟨#[60]⟩:ByteArray),(⟨#[38]⟩:ByteArray),(⟨#[43]⟩:ByteArray),(⟨#[45]⟩:ByteArray),(⟨#[42]⟩:ByteArray)]:List ByteArray)) a0).bind fun t104=>(some t104)
theorem Fj.calls (k:Nat) (a0:ByteArray) (r:Bool) (w:World) (h:Fj.f k a0=some r) :
  Calls Try.prog 139 #[.string a0] w fun e w'=>e = .returned (.bool r)∧Below w.heap.size w w':=by
 have HB:=aa.mk (Below.refl w.heap.size w);have H:((Mb.f k (([(⟨#[61,61]⟩:ByteArray),(⟨#[60]⟩:ByteArray),(⟨#[38]⟩:ByteArray),(⟨#[43]⟩:ByteArray),(⟨#[45]⟩:ByteArray),(⟨#[42]⟩:ByteArray)]:List ByteArray)) a0).bind fun t104=>(some t104))=some r:=h;clear h;obtain ⟨ue,ye⟩:∃ y_:List ByteArray,y_=(([(⟨#[61,61]⟩:ByteArray),(⟨#[60]⟩:ByteArray),(⟨#[38]⟩:ByteArray),(⟨#[43]⟩:ByteArray),(⟨#[45]⟩:ByteArray),(⟨#[42]⟩:ByteArray)]:List ByteArray)):=⟨_,rfl⟩;replace H:((Mb.f k ue a0).bind fun t104=>(some t104))=some r:=by first|(rw [ye];with_reducible exact H)|(have Mc:=(Option.bind_some _ _).symm.trans H;rw [ye];with_reducible exact Mc)|(have Mc:=(Option.bind_some _ _).symm.trans H;with_reducible exact Mc)|with_reducible exact H|(rw [ye];exact H)|exact H
 have ki:=aa.mk ye;clear ye;replace H:=Option.bind_eq_some_iff.mp H;obtain ⟨t104,tJ,H⟩:=H
 try dsimp only at H
 have A2:=aa.mk tJ;clear tJ;obtain rfl:=Option.some.inj H;go_enter Try.func139,Try.ntmps139;go_wp2_with (first|((with_reducible refine Lb (N:=3) rfl ?_);refine Kd.jk Kd.string _ 9 ?hg (N:=3) ?hd (xs:=([(⟨#[61,61]⟩:ByteArray),(⟨#[60]⟩:ByteArray),(⟨#[38]⟩:ByteArray),(⟨#[43]⟩:ByteArray),(⟨#[45]⟩:ByteArray),(⟨#[42]⟩:ByteArray)]:List ByteArray)) (inner:=[.string (⟨#[61,61]⟩:ByteArray),.string (⟨#[60]⟩:ByteArray),.string (⟨#[38]⟩:ByteArray),.string (⟨#[43]⟩:ByteArray),.string (⟨#[45]⟩:ByteArray),.string (⟨#[42]⟩:ByteArray)]) (ok:=fun _=>True) (Ag:=fun _=>True) ?hr ?hp (fun _ hk=>hk) trivial (Below.refl _ _) (Nat.le_refl _) (by simp) ?_;(case hd|hg=>rfl);(case hr=>exact Vae);(case hp=>exact (Fc.one (show Kd.M Kd.string _ _ _ (⟨#[61,61]⟩:ByteArray) [.string (⟨#[61,61]⟩:ByteArray)] from rfl) (Fc.one (show Kd.M Kd.string _ _ _ (⟨#[60]⟩:ByteArray) [.string (⟨#[60]⟩:ByteArray)] from rfl) (Fc.one (show Kd.M Kd.string _ _ _ (⟨#[38]⟩:ByteArray) [.string (⟨#[38]⟩:ByteArray)] from rfl) (Fc.one (show Kd.M Kd.string _ _ _ (⟨#[43]⟩:ByteArray) [.string (⟨#[43]⟩:ByteArray)] from rfl) (Fc.one (show Kd.M Kd.string _ _ _ (⟨#[45]⟩:ByteArray) [.string (⟨#[45]⟩:ByteArray)] from rfl) (Fc.one (show Kd.M Kd.string _ _ _ (⟨#[42]⟩:ByteArray) [.string (⟨#[42]⟩:ByteArray)] from rfl) (Fc.none _ _))))))));intro yy w3 Qv hb Hl Je;clear Hl Je;(first|rw [← ki.out] at Qv|(simp only [Int.reduceToNat] at Qv;rw [← ki.out] at Qv));have Kb:=aa.mk (Kd.Xc Qv (Ra Yae));have Ob:=aa.mk (Fa Yae hb);clear HB;have Xl:=Kb;have HB:=Ob;clear Kb Ob hb Qv;obtain ⟨Ao5,Q4,LP⟩:=Kd.ic Xl.out;subst LP)|((with_reducible refine Sb (f:=154) rfl ?_);refine Ke (some 5) rfl rfl Try.func154 (by kernel_rfl) rfl #[.slice Ao5 ue.length Q4,.string a0] rfl baf ?_;(with_reducible refine (Mb.calls k _ _ ue a0 t104 _ ?Gd ?Ed A2.out).mono ?_);(case Gd=>repeat (first|exact (Kd.Wa Xl.out).2.2|(with_reducible refine Kd.ee ?_ _)|(with_reducible refine Kd.Zd ?_ _)|(with_reducible refine Kd.We ?_)));(case Ed=>exact (Kd.Wa Xl.out).2.1);rintro e w' ⟨rfl,⟨nd,rfl⟩⟩;refine ⟨_,rfl,?_⟩));go_ret;exact ⟨eaf,caf⟩
def Ph.f (a0:Int) (a1:Int) (a2:Int):Option (Bool):=if a0 ≥ a1 then (some (decide (a0 ≤ a2))) else (some false)
theorem Ph.calls (a0:Int) (a1:Int) (a2:Int) (r:Bool) (w:World) (h:Ph.f a0 a1 a2=some r) :
  Calls Try.prog 94 #[.int .i64 a0,.int .i64 a1,.int .i64 a2] w fun e w'=>e = .returned (.bool r)∧Nb w w':=by
 have H:(if a0 ≥ a1 then (some (decide (a0 ≤ a2))) else (some false))=some r:=h;clear h
 by_cases c4:a0 ≥ a1
 ·rw [if_pos c4] at H;have Yk:decide (a1 ≤ a0)=true:=decide_eq_true c4;clear c4;obtain rfl:=Option.some.inj H;go_enter Try.func94,Try.ntmps94;go_wp2;go_ret;exact ⟨waf,kaf⟩
 ·rw [if_neg c4] at H;have Yk:decide (a1 ≤ a0)=false:=decide_eq_false c4;clear c4;obtain rfl:=Option.some.inj H;go_enter Try.func94,Try.ntmps94;go_wp2;go_ret;exact ⟨waf,kaf⟩
theorem Wy (g:Nat) (lb:Array Value) (p:Int→Bool) (eg:∀ args w,(callFunc g args).run Try.prog w = .ok (.enter g args) w) (A0:Option Addr) (c0:Nat) (l0:List Int) (w:World) (Jh:Kd.C (Kd.int .i64) w A0 l0.length l0) (hc0:l0.length ≤ c0)
  (hp:∀ (W:World) (x:Int),Below w.heap.size w W→Calls Try.prog g (#[(.int .i64 x)] ++ lb) W fun e w'=>e = .returned (.bool (p x))∧Below W.heap.size W w') :
  Calls Try.prog 105 #[.slice A0 l0.length c0,.func (.func g) #[] lb] w fun e w'=>(∃ i:Int,e = .returned (.int .i64 i)∧decide (0 ≤ i)=l0.any p)∧Below w.heap.size w w':=by
 have sS:=Jh.2.1;have xk:=aa.mk Jh;have ey:=aa.mk hc0;have HP:=aa.mk hp;clear Jh hc0 hp;go_enter Try.func105,Try.ntmps105;go_wp2
 go_loopg [5,8] l0.length (fun gg _ s8 wr=>∃ kk:Nat,kk ≤ l0.length∧l0.length - kk ≤ gg∧s8 = .int .i64 kk∧aa (Below w.heap.size w wr)∧aa ((l0.take kk).any p=false))
 case atStart=>exact ⟨0,Nat.zero_le _,by omega,rfl,⟨Below.refl _ w⟩,⟨by simp⟩⟩
 case round =>
  (try clear BW);(try clear HA);obtain ⟨kk,hkk,hg,rfl,BW,HA⟩:=hrel
  by_cases hlt:kk < l0.length
  ·have p1:0 ≤ (kk:Int):=by omega
   have q1:(kk:Int) < (l0.length:Int):=by omega
   obtain ⟨ad,e1,hx0⟩:=Kd.Ud xk.out (kk:Int) p1 q1;cases e1;simp only [Int.toNat_natCast] at hx0;replace hx0:=(BW.out.cell (World.block_lt_of_cell? w _ hx0)).trans hx0;have hcall:=HP.out wr (rd l0 (kk:Int)) BW.out;cases hq:p (rd l0 (kk:Int)) with
   | true =>
    rw [hq] at hcall;go_wp2_with (go_at_fn g;refine hcall.mono ?_;rintro e w1 ⟨rfl,Xm⟩);go_ret;exact ⟨⟨_,rfl,by rw [YD (d:=0) hlt hq];simp⟩,BW.out.trans (Xm.mono BW.out.size)⟩
   | false =>
    rw [hq] at hcall;go_wp2_with (go_at_fn g;refine hcall.mono ?_;rintro e w1 ⟨rfl,Xm⟩)
    go_roundg (l0.length - (kk + 1))
    case measure=>omega
    case rel=>exact ⟨kk + 1,by omega,by omega,by go_num,⟨BW.out.trans (Xm.mono BW.out.size)⟩,⟨Il (d:=0) hlt HA.out hq⟩⟩
  ·have LO:¬ (kk:Int) < (l0.length:Int):=by omega
   have he:kk=l0.length:=by omega
   subst he;go_wp2;go_ret;exact ⟨⟨_,rfl,by have h_:=HA.out;rw [List.take_length] at h_;rw [h_];simp⟩,BW.out⟩
theorem Wr (g:Nat) (lb:Array Value) (p:Int→Bool) (eg:∀ args w,(callFunc g args).run Try.prog w = .ok (.enter g args) w) (A0:Option Addr) (c0:Nat) (l0:List Int) (w:World) (Jh:Kd.C (Kd.int .i64) w A0 l0.length l0) (hc0:l0.length ≤ c0)
  (hp:∀ (W:World) (x:Int),Below w.heap.size w W→Calls Try.prog g (#[(.int .i64 x)] ++ lb) W fun e w'=>e = .returned (.bool (p x))∧Below W.heap.size W w') :
  Calls Try.prog 115 #[.slice A0 l0.length c0,.func (.func g) #[] lb] w fun e w'=>e = .returned (.bool (l0.any p))∧Below w.heap.size w w':=by
 have HI:=aa.mk (Wy g lb p eg A0 c0 l0 w Jh hc0 hp);clear Jh hc0 hp;go_enter Try.func115,Try.ntmps115;go_wp2_with (go_at_call 105;refine HI.out.mono ?_;rintro e w1 ⟨⟨i,rfl,hi⟩,Xm⟩;have HD:=aa.mk hi;clear hi);go_ret;exact ⟨by rw [← HD.out];first|rfl|simp,Xm⟩
def Ki (a b c:Int):Bool:=decide (b ≤ a) && decide (a ≤ c)
theorem Ai (a b c:Int) (w:World):Calls Try.prog 94 #[.int .i64 a,.int .i64 b,.int .i64 c] w fun e w'=>e = .returned (.bool (Ki a b c))∧Nb w w' :=
 Ph.calls a b c (Ki a b c) w (by
  unfold Ph.f Ki
  by_cases h:a ≥ b
  ·rw [if_pos h];have h':b ≤ a:=h;simp [h']
  ·rw [if_neg h];have h':¬ b ≤ a:=h
   simp [h'])
def Dp (l:List Int) (p v:Int):Bool:=Ki (l.length:Int) 1 4 && !(l.any fun n=>!Ki n 1 16) && Ki p 0 (if v < 6 then v else 6) && decide (v ≤ 20)
theorem Ry (W:World) (x:Int):Calls Try.prog 116 #[.int .i64 x] W fun e w'=>e = .returned (.bool (!Ki x 1 16))∧Below W.heap.size W w':=by
 have HC:=aa.mk (Ai x 1 16);generalize Ki x 1 16=b at HC ⊢;go_enter Try.func116,Try.ntmps116;go_wp2_with (go_at_call 94;refine (HC.out _).mono ?_;rintro e w1 ⟨rfl,Xm⟩;have HD:=aa.mk Xm.below;clear Xm);go_ret;exact ⟨rfl,HD.out⟩
theorem Mx (p0 p1 p2 p3:Value) (A:Option Addr) (c:Nat) (w:World) :
  Calls Try.prog 117 #[.agg #[p0,p1,p2,p3],.slice A 0 c,.int .i64 0] w fun e w'=>e = .returned (.bool true)∧Below w.heap.size w w':=by
 go_enter Try.func117,Try.ntmps117;go_wp2
 go_loop [25] (fun i=>i = .int .i64 0) (fun _=>0)
 case atStart=>exact rfl
 case round =>
  obtain rfl:=hrel;go_wp2;go_ret;exact ⟨rfl,ia (ia (Below.refl _ _) _) _⟩
theorem Nv (A0 A3:Option Addr) (c0 c3:Nat) (l0:List Int) (a1 a2:Int) (w:World) (Jh:Kd.C (Kd.int .i64) w A0 l0.length l0) (hc0:l0.length ≤ c0) :
  Calls Try.prog 93 #[.agg #[.slice A0 l0.length c0,.int .i64 a1,.int .i64 a2,.slice A3 0 c3]] w fun e w'=>e = .returned (.bool (Dp l0 a1 a2))∧Below w.heap.size w w':=by
 have eg:=enters_of Try.func116 (by kernel_rfl) rfl;have sS:=Jh.2.1;have DY:=aa.mk (Ai (l0.length:Int) 1 4);have xN:=aa.mk (Ai a1 0 (if a2 < 6 then a2 else 6));have HF:=aa.mk (fun (W:World) (hb:Below w.heap.size w W)=>Wr 116 #[] (fun n=>!Ki n 1 16) eg A0 c0 l0 W (Kd.yb Jh hb) hc0 (fun W x _=>Ry W x));clear Jh hc0;unfold Dp
 by_cases h6:a2 < 6
 all_goals
  have hmin:min 6 a2=if a2 < 6 then a2 else 6:=by split <;> omega
  first|rw [if_pos h6] at xN hmin ⊢|rw [if_neg h6] at xN hmin ⊢
  cases Xm:Ki (l0.length:Int) 1 4 with
  | false =>
   go_enter Try.func93,Try.ntmps93;go_wp2_with (first|(go_at_call 94;refine (Ai _ _ _ _).mono ?_;rintro e w1 ⟨rfl,⟨n,rfl⟩⟩));go_ret;exact ⟨rfl,ga (ia (Below.refl _ _) _) _⟩
  | true =>
   cases Vk:(l0.any fun n=>!Ki n 1 16) with
   | true =>
    rw [Vk] at HF;go_enter Try.func93,Try.ntmps93;go_wp2_with (first|(go_at_call 94;refine (Ai _ _ _ _).mono ?_;rintro e w1 ⟨rfl,⟨n,rfl⟩⟩)|(go_at_call 115;refine (HF.out _ (ga (ia (Below.refl _ _) _) _)).mono ?_;rintro e w1 ⟨rfl,hb⟩;have HB:=aa.mk (Fa (ga (ia (Below.refl _ _) _) _) hb);clear hb));go_ret;exact ⟨rfl,HB.out⟩
   | false =>
    rw [Vk] at HF;go_enter Try.func93,Try.ntmps93;go_wp2_with (first|(go_at_call 94;(with_reducible refine (Ai _ _ _ _).mono ?_);rintro e w1 ⟨rfl,⟨n,rfl⟩⟩)|(go_at_call 115;(with_reducible refine (HF.out _ (ga (ia (Below.refl _ _) _) _)).mono ?_);rintro e w1 ⟨rfl,hb⟩;have HB:=aa.mk (Fa (ga (ia (Below.refl _ _) _) _) hb);obtain ⟨EK,CK⟩:=LM hb;have LG:=hb.size;simp at LG;clear hb)|(go_at_call 117;(with_reducible refine (Mx _ _ _ _ _ _ _).mono ?_);rintro e w2 ⟨rfl,hb⟩;have Yi:=aa.mk (Fa (ga HB.out _) hb);clear hb))
    all_goals
     go_ret
     first
      | exact ⟨by simp [*],Yi.out⟩
      | exact ⟨by simp [*],ga HB.out _⟩
def bf.f (Ma:List Int) (Pa:Int) (Qa:Int) (gB:List (Es)):Option Bool:=if gB.length=0 then some (Dp Ma Pa Qa) else none
theorem bf.calls (Bb:Option Addr) (Ab:Nat) (Ma:List Int) (Pa:Int) (Qa:Int) (pR:Option Addr) (oQ:Nat) (gB:List (Es)) (r:Bool) (w:World) (od:Kd.C (Kd.int .i64) w Bb Ma.length Ma) (Nd:Ma.length ≤ Ab) (C8:Kd.C zZ w pR gB.length gB) (Y9:gB.length ≤ oQ) (h:bf.f Ma Pa Qa gB=some r) :
  Calls Try.prog 93 #[.agg #[.slice Bb Ma.length Ab,.int .i64 Pa,.int .i64 Qa,.slice pR gB.length oQ]] w fun e w'=>e = .returned (.bool r)∧Below w.heap.size w w':=by
 unfold bf.f at h
 split at h
 ·rename_i h0;injection h with h
  subst h;rw [h0];exact Nv Bb pR Ab oQ Ma Pa Qa w od Nd
 ·cases h
theorem KP (d:Nat) (w:World) (x0 y0:Int) (x1 y1:Int) (x2 y2:Int) (x3 y3:Int) (x4 y4:Int) (x5 y5:Int) (x6 y6:ByteArray) :
  (Op.equalIn (d + 2) 122 (.agg #[.int .i64 x0,.int .i64 x1,.int .i64 x2,.int .i64 x3,.int .i64 x4,.int .i64 x5,.string x6]) (.agg #[.int .i64 y0,.int .i64 y1,.int .i64 y2,.int .i64 y3,.int .i64 y4,.int .i64 y5,.string y6])).run Try.prog w = .ok (x0 == y0 && (x1 == y1 && (x2 == y2 && (x3 == y3 && (x4 == y4 && (x5 == y5 && (x6.toList == y6.toList))))))) w:=by
 refine cI Try.underlying122 (by kernel_rfl) ?_;refine Zh (by rfl) (by go_simp;rfl) (by go_simp;rfl) (by go_simp) ?_;refine Zh (by rfl) (by go_simp;rfl) (by go_simp;rfl) (by go_simp) ?_;refine Zh (by rfl) (by go_simp;rfl) (by go_simp;rfl) (by go_simp) ?_;refine Zh (by rfl) (by go_simp;rfl) (by go_simp;rfl) (by go_simp) ?_;refine Zh (by rfl) (by go_simp;rfl) (by go_simp;rfl) (by go_simp) ?_;refine Zh (by rfl) (by go_simp;rfl) (by go_simp;rfl) (by go_simp) ?_;exact Qz (by rfl) (by go_simp;rfl) (by go_simp;rfl) (by go_simp)
attribute [local go_sem high] KP
def OA:List ByteArray:=[⟨#[61,61]⟩,⟨#[60]⟩,⟨#[38]⟩,⟨#[43]⟩,⟨#[45]⟩,⟨#[42]⟩]
def Vm (s:ByteArray):Bool:=OA.any fun y=>decide (s.toList=y.toList)
theorem YE (s:ByteArray):Fj.f 8 s=some (Vm s):=by
 unfold Fj.f Mb.f Va.f Vm OA;simp only [Va.l0,List.any_cons,List.any_nil]
 by_cases h0:s.toList=[61,61]
 ·simp [Tf,h0]
 by_cases h1:s.toList=[60]
 ·simp [Tf,h1,wrap64]
 by_cases h2:s.toList=[38]
 ·simp [Tf,h2,wrap64]
 by_cases h3:s.toList=[43]
 ·simp [Tf,h3,wrap64]
 by_cases h4:s.toList=[45]
 ·simp [Tf,h4,wrap64]
 by_cases h5:s.toList=[42]
 ·simp [Tf,h5,wrap64]
 simp [Tf,h0,h1,h2,h3,h4,h5,wrap64]
theorem iB (s:ByteArray) (w:World):Calls Try.prog 139 #[.string s] w fun e w'=>e = .returned (.bool (Vm s))∧Below w.heap.size w w':=Fj.calls 8 s (Vm s) w (YE s)
def Mj (slots s:Int):Bool:=decide (0 ≤ s) && decide (s < slots)
theorem Hh (B:Nat) (slots s:Int) (W:World) (FP:W.cell? ⟨B,3,none⟩=some (.int .i64 slots)):Calls Try.prog 138 #[.int .i64 s,.pointer (some ⟨B,0,none⟩)] W fun e w'=>e = .returned (.bool (Mj slots s))∧W=w':=by
 unfold Mj
 by_cases h:0 ≤ s
 all_goals
  go_enter Try.func138,Try.ntmps138;go_wp2;go_ret;exact ⟨by simp [*];try omega,rfl⟩
theorem gF (A0 A4:Option Addr) (c0 c4 n0 n4:Nat) (p1 p2 slots d a b c n:Int) (t:ByteArray) (w:World) (hn0:n0 ≤ 9223372036854775807) (Nu:n4 ≤ 9223372036854775807) :
  Calls Try.prog 125 #[.agg #[.slice A0 n0 c0,.int .i64 p1,.int .i64 p2,.int .i64 slots,.slice A4 n4 c4],.agg #[.int .i64 0,.int .i64 d,.int .i64 a,.int .i64 b,.int .i64 c,.int .i64 n,.string t]] w fun e w'=>e = .returned (.bool (Mj slots d && (a == 0 && (b == 0 && (c == 0 && t.toList.isEmpty)))))∧Below w.heap.size w w':=by
 obtain ⟨W1,He⟩:∃ W1,W1=(w.alloc (.cells #[.slice A0 n0 c0,.int .i64 p1,.int .i64 p2,.int .i64 slots,.slice A4 n4 c4] 45 (0,0))).alloc (.cells #[.int .i64 0,.int .i64 d,.int .i64 a,.int .i64 b,.int .i64 c,.int .i64 n,.string t] 122 (0,0)):=⟨_,rfl⟩;have HW:=aa.mk He;have HB:=aa.mk (show Below w.heap.size w W1 from by rw [He];exact ia (ia (Below.refl _ _) _) _);have hz:W1.heap.size=w.heap.size + 2:=by rw [He];simp
 have jy:W1.cell? ⟨w.heap.size,3,none⟩=some (.int .i64 slots):=by rw [He];simp
 have hx0:W1.cell? ⟨w.heap.size + 1,0,none⟩=some (.int .i64 0):=by rw [He];simp
 have hx1:W1.cell? ⟨w.heap.size + 1,1,none⟩=some (.int .i64 d):=by rw [He];simp
 have hx2:W1.cell? ⟨w.heap.size + 1,2,none⟩=some (.int .i64 a):=by rw [He];simp
 have Ct:W1.cell? ⟨w.heap.size + 1,3,none⟩=some (.int .i64 b):=by rw [He];simp
 have gr:W1.cell? ⟨w.heap.size + 1,4,none⟩=some (.int .i64 c):=by rw [He];simp
 have QF:W1.cell? ⟨w.heap.size + 1,5,none⟩=some (.int .i64 n):=by rw [He];simp
 have Tw:W1.cell? ⟨w.heap.size + 1,6,none⟩=some (.string t):=by rw [He];simp
 clear He;go_enter Try.func125,Try.ntmps125;go_wp2_with (first|(go_at_call 94;(with_reducible refine (Ai _ _ _ _).mono ?_);rintro e w1 ⟨rfl,⟨k1,rfl⟩⟩));rw [← HW.out];clear HW
 go_region
 all_goals go_wp2_with (first|(go_at_call 138;(refine (Hh _ slots _ _ ?hc).mono ?_);(case hc=>exact Wae);rintro e w1 ⟨rfl,rfl⟩))
 all_goals go_ret
 all_goals exact ⟨by (try clear EK CK LG Yi);simp [*],naf⟩
theorem fF (A0 A4:Option Addr) (c0 c4 n0 n4:Nat) (p1 p2 slots d a b c n:Int) (t:ByteArray) (w:World) (hn0:n0 ≤ 9223372036854775807) (Nu:n4 ≤ 9223372036854775807) :
  Calls Try.prog 125 #[.agg #[.slice A0 n0 c0,.int .i64 p1,.int .i64 p2,.int .i64 slots,.slice A4 n4 c4],.agg #[.int .i64 1,.int .i64 d,.int .i64 a,.int .i64 b,.int .i64 c,.int .i64 n,.string t]] w fun e w'=>e = .returned (.bool (Mj slots d && Mj slots a && (b == 0 && (c == 0 && (n == 0 && t.toList.isEmpty)))))∧Below w.heap.size w w':=by
 obtain ⟨W1,He⟩:∃ W1,W1=(w.alloc (.cells #[.slice A0 n0 c0,.int .i64 p1,.int .i64 p2,.int .i64 slots,.slice A4 n4 c4] 45 (0,0))).alloc (.cells #[.int .i64 1,.int .i64 d,.int .i64 a,.int .i64 b,.int .i64 c,.int .i64 n,.string t] 122 (0,0)):=⟨_,rfl⟩;have HW:=aa.mk He;have HB:=aa.mk (show Below w.heap.size w W1 from by rw [He];exact ia (ia (Below.refl _ _) _) _);have hz:W1.heap.size=w.heap.size + 2:=by rw [He];simp
 have jy:W1.cell? ⟨w.heap.size,3,none⟩=some (.int .i64 slots):=by rw [He];simp
 have hx0:W1.cell? ⟨w.heap.size + 1,0,none⟩=some (.int .i64 1):=by rw [He];simp
 have hx1:W1.cell? ⟨w.heap.size + 1,1,none⟩=some (.int .i64 d):=by rw [He];simp
 have hx2:W1.cell? ⟨w.heap.size + 1,2,none⟩=some (.int .i64 a):=by rw [He];simp
 have Ct:W1.cell? ⟨w.heap.size + 1,3,none⟩=some (.int .i64 b):=by rw [He];simp
 have gr:W1.cell? ⟨w.heap.size + 1,4,none⟩=some (.int .i64 c):=by rw [He];simp
 have QF:W1.cell? ⟨w.heap.size + 1,5,none⟩=some (.int .i64 n):=by rw [He];simp
 have Tw:W1.cell? ⟨w.heap.size + 1,6,none⟩=some (.string t):=by rw [He];simp
 clear He;go_enter Try.func125,Try.ntmps125;go_wp2_with (first|(go_at_call 94;(with_reducible refine (Ai _ _ _ _).mono ?_);rintro e w1 ⟨rfl,⟨k1,rfl⟩⟩));rw [← HW.out];clear HW
 go_region
 all_goals go_wp2_with (first|(go_at_call 138;(refine (Hh _ slots _ _ ?hc).mono ?_);(case hc=>exact Wae);rintro e w1 ⟨rfl,rfl⟩))
 all_goals go_ret
 all_goals exact ⟨by (try clear EK CK LG Yi);simp [*],naf⟩
theorem eF (A0 A4:Option Addr) (c0 c4 n0 n4:Nat) (p1 p2 slots d a b c n:Int) (t:ByteArray) (w:World) (hn0:n0 ≤ 9223372036854775807) (Nu:n4 ≤ 9223372036854775807) :
  Calls Try.prog 125 #[.agg #[.slice A0 n0 c0,.int .i64 p1,.int .i64 p2,.int .i64 slots,.slice A4 n4 c4],.agg #[.int .i64 2,.int .i64 d,.int .i64 a,.int .i64 b,.int .i64 c,.int .i64 n,.string t]] w fun e w'=>e = .returned (.bool (Mj slots d && Mj slots a && Mj slots b && Vm t && (c == 0 && n == 0)))∧Below w.heap.size w w':=by
 obtain ⟨W1,He⟩:∃ W1,W1=(w.alloc (.cells #[.slice A0 n0 c0,.int .i64 p1,.int .i64 p2,.int .i64 slots,.slice A4 n4 c4] 45 (0,0))).alloc (.cells #[.int .i64 2,.int .i64 d,.int .i64 a,.int .i64 b,.int .i64 c,.int .i64 n,.string t] 122 (0,0)):=⟨_,rfl⟩;have HW:=aa.mk He;have HB:=aa.mk (show Below w.heap.size w W1 from by rw [He];exact ia (ia (Below.refl _ _) _) _);have hz:W1.heap.size=w.heap.size + 2:=by rw [He];simp
 have jy:W1.cell? ⟨w.heap.size,3,none⟩=some (.int .i64 slots):=by rw [He];simp
 have hx0:W1.cell? ⟨w.heap.size + 1,0,none⟩=some (.int .i64 2):=by rw [He];simp
 have hx1:W1.cell? ⟨w.heap.size + 1,1,none⟩=some (.int .i64 d):=by rw [He];simp
 have hx2:W1.cell? ⟨w.heap.size + 1,2,none⟩=some (.int .i64 a):=by rw [He];simp
 have Ct:W1.cell? ⟨w.heap.size + 1,3,none⟩=some (.int .i64 b):=by rw [He];simp
 have gr:W1.cell? ⟨w.heap.size + 1,4,none⟩=some (.int .i64 c):=by rw [He];simp
 have QF:W1.cell? ⟨w.heap.size + 1,5,none⟩=some (.int .i64 n):=by rw [He];simp
 have Tw:W1.cell? ⟨w.heap.size + 1,6,none⟩=some (.string t):=by rw [He];simp
 clear He;go_enter Try.func125,Try.ntmps125;go_wp2_with (first|(go_at_call 94;(with_reducible refine (Ai _ _ _ _).mono ?_);rintro e w1 ⟨rfl,⟨k1,rfl⟩⟩));rw [← HW.out];clear HW
 go_region
 all_goals go_wp2_with (first|(go_at_call 138;(refine (Hh _ slots _ _ ?hc).mono ?_);(case hc=>exact Wae);rintro e w1 ⟨rfl,rfl⟩)|(go_at_call 139;(with_reducible refine (iB _ _).mono ?_);rintro e w2 ⟨rfl,Vk⟩;have Yi:=aa.mk Vk;obtain ⟨EK,CK⟩:=LM Vk;have LG:=Vk.size;simp at LG;clear Vk))
 all_goals go_ret
 all_goals exact ⟨by (try clear EK CK LG Yi);simp [*],naf⟩
theorem dF (A0 A4:Option Addr) (c0 c4 n0 n4:Nat) (p1 p2 slots d a b c n:Int) (t:ByteArray) (w:World) (hn0:n0 ≤ 9223372036854775807) (Nu:n4 ≤ 9223372036854775807) :
  Calls Try.prog 125 #[.agg #[.slice A0 n0 c0,.int .i64 p1,.int .i64 p2,.int .i64 slots,.slice A4 n4 c4],.agg #[.int .i64 3,.int .i64 d,.int .i64 a,.int .i64 b,.int .i64 c,.int .i64 n,.string t]] w fun e w'=>e = .returned (.bool (Mj slots d && Mj slots b && Ki n 0 ((n0:Int) - 1) && (Mj slots a || a == -1) && (c == 0 && t.toList.isEmpty)))∧Below w.heap.size w w':=by
 obtain ⟨W1,He⟩:∃ W1,W1=(w.alloc (.cells #[.slice A0 n0 c0,.int .i64 p1,.int .i64 p2,.int .i64 slots,.slice A4 n4 c4] 45 (0,0))).alloc (.cells #[.int .i64 3,.int .i64 d,.int .i64 a,.int .i64 b,.int .i64 c,.int .i64 n,.string t] 122 (0,0)):=⟨_,rfl⟩;have HW:=aa.mk He;have HB:=aa.mk (show Below w.heap.size w W1 from by rw [He];exact ia (ia (Below.refl _ _) _) _);have hz:W1.heap.size=w.heap.size + 2:=by rw [He];simp
 have jy:W1.cell? ⟨w.heap.size,3,none⟩=some (.int .i64 slots):=by rw [He];simp
 have hx0:W1.cell? ⟨w.heap.size + 1,0,none⟩=some (.int .i64 3):=by rw [He];simp
 have hx1:W1.cell? ⟨w.heap.size + 1,1,none⟩=some (.int .i64 d):=by rw [He];simp
 have hx2:W1.cell? ⟨w.heap.size + 1,2,none⟩=some (.int .i64 a):=by rw [He];simp
 have Ct:W1.cell? ⟨w.heap.size + 1,3,none⟩=some (.int .i64 b):=by rw [He];simp
 have gr:W1.cell? ⟨w.heap.size + 1,4,none⟩=some (.int .i64 c):=by rw [He];simp
 have QF:W1.cell? ⟨w.heap.size + 1,5,none⟩=some (.int .i64 n):=by rw [He];simp
 have Tw:W1.cell? ⟨w.heap.size + 1,6,none⟩=some (.string t):=by rw [He];simp
 clear He;go_enter Try.func125,Try.ntmps125;go_wp2_with (first|(go_at_call 94;(with_reducible refine (Ai _ _ _ _).mono ?_);rintro e w1 ⟨rfl,⟨k1,rfl⟩⟩));rw [← HW.out];clear HW
 go_region
 all_goals go_wp2_with (first|(go_at_call 138;(refine (Hh _ slots _ _ ?hc).mono ?_);(case hc=>exact Wae);rintro e w1 ⟨rfl,rfl⟩))
 all_goals go_ret
 all_goals exact ⟨by (try clear EK CK LG Yi);simp [*],naf⟩
theorem cF (A0 A4:Option Addr) (c0 c4 n0 n4:Nat) (p1 p2 slots d a b c n:Int) (t:ByteArray) (w:World) (hn0:n0 ≤ 9223372036854775807) (Nu:n4 ≤ 9223372036854775807) :
  Calls Try.prog 125 #[.agg #[.slice A0 n0 c0,.int .i64 p1,.int .i64 p2,.int .i64 slots,.slice A4 n4 c4],.agg #[.int .i64 4,.int .i64 d,.int .i64 a,.int .i64 b,.int .i64 c,.int .i64 n,.string t]] w fun e w'=>e = .returned (.bool (Mj slots c && Mj slots b && Ki n 0 ((n0:Int) - 1) && (Mj slots a || a == -1) && (d == 0 && t.toList.isEmpty)))∧Below w.heap.size w w':=by
 obtain ⟨W1,He⟩:∃ W1,W1=(w.alloc (.cells #[.slice A0 n0 c0,.int .i64 p1,.int .i64 p2,.int .i64 slots,.slice A4 n4 c4] 45 (0,0))).alloc (.cells #[.int .i64 4,.int .i64 d,.int .i64 a,.int .i64 b,.int .i64 c,.int .i64 n,.string t] 122 (0,0)):=⟨_,rfl⟩;have HW:=aa.mk He;have HB:=aa.mk (show Below w.heap.size w W1 from by rw [He];exact ia (ia (Below.refl _ _) _) _);have hz:W1.heap.size=w.heap.size + 2:=by rw [He];simp
 have jy:W1.cell? ⟨w.heap.size,3,none⟩=some (.int .i64 slots):=by rw [He];simp
 have hx0:W1.cell? ⟨w.heap.size + 1,0,none⟩=some (.int .i64 4):=by rw [He];simp
 have hx1:W1.cell? ⟨w.heap.size + 1,1,none⟩=some (.int .i64 d):=by rw [He];simp
 have hx2:W1.cell? ⟨w.heap.size + 1,2,none⟩=some (.int .i64 a):=by rw [He];simp
 have Ct:W1.cell? ⟨w.heap.size + 1,3,none⟩=some (.int .i64 b):=by rw [He];simp
 have gr:W1.cell? ⟨w.heap.size + 1,4,none⟩=some (.int .i64 c):=by rw [He];simp
 have QF:W1.cell? ⟨w.heap.size + 1,5,none⟩=some (.int .i64 n):=by rw [He];simp
 have Tw:W1.cell? ⟨w.heap.size + 1,6,none⟩=some (.string t):=by rw [He];simp
 clear He;go_enter Try.func125,Try.ntmps125;go_wp2_with (first|(go_at_call 94;(with_reducible refine (Ai _ _ _ _).mono ?_);rintro e w1 ⟨rfl,⟨k1,rfl⟩⟩));rw [← HW.out];clear HW
 go_region
 all_goals go_wp2_with (first|(go_at_call 138;(refine (Hh _ slots _ _ ?hc).mono ?_);(case hc=>exact Wae);rintro e w1 ⟨rfl,rfl⟩))
 all_goals go_ret
 all_goals exact ⟨by (try clear EK CK LG Yi);simp [*],naf⟩
theorem bF (A0 A4:Option Addr) (c0 c4 n0 n4:Nat) (p1 p2 slots d a b c n:Int) (t:ByteArray) (w:World) (hn0:n0 ≤ 9223372036854775807) (Nu:n4 ≤ 9223372036854775807) :
  Calls Try.prog 125 #[.agg #[.slice A0 n0 c0,.int .i64 p1,.int .i64 p2,.int .i64 slots,.slice A4 n4 c4],.agg #[.int .i64 5,.int .i64 d,.int .i64 a,.int .i64 b,.int .i64 c,.int .i64 n,.string t]] w fun e w'=>e = .returned (.bool (Mj slots d && (a == 0 && (b == 0 && (c == 0 && (n == 0 && t.toList.isEmpty))))))∧Below w.heap.size w w':=by
 obtain ⟨W1,He⟩:∃ W1,W1=(w.alloc (.cells #[.slice A0 n0 c0,.int .i64 p1,.int .i64 p2,.int .i64 slots,.slice A4 n4 c4] 45 (0,0))).alloc (.cells #[.int .i64 5,.int .i64 d,.int .i64 a,.int .i64 b,.int .i64 c,.int .i64 n,.string t] 122 (0,0)):=⟨_,rfl⟩;have HW:=aa.mk He;have HB:=aa.mk (show Below w.heap.size w W1 from by rw [He];exact ia (ia (Below.refl _ _) _) _);have hz:W1.heap.size=w.heap.size + 2:=by rw [He];simp
 have jy:W1.cell? ⟨w.heap.size,3,none⟩=some (.int .i64 slots):=by rw [He];simp
 have hx0:W1.cell? ⟨w.heap.size + 1,0,none⟩=some (.int .i64 5):=by rw [He];simp
 have hx1:W1.cell? ⟨w.heap.size + 1,1,none⟩=some (.int .i64 d):=by rw [He];simp
 have hx2:W1.cell? ⟨w.heap.size + 1,2,none⟩=some (.int .i64 a):=by rw [He];simp
 have Ct:W1.cell? ⟨w.heap.size + 1,3,none⟩=some (.int .i64 b):=by rw [He];simp
 have gr:W1.cell? ⟨w.heap.size + 1,4,none⟩=some (.int .i64 c):=by rw [He];simp
 have QF:W1.cell? ⟨w.heap.size + 1,5,none⟩=some (.int .i64 n):=by rw [He];simp
 have Tw:W1.cell? ⟨w.heap.size + 1,6,none⟩=some (.string t):=by rw [He];simp
 clear He;go_enter Try.func125,Try.ntmps125;go_wp2_with (first|(go_at_call 94;(with_reducible refine (Ai _ _ _ _).mono ?_);rintro e w1 ⟨rfl,⟨k1,rfl⟩⟩));rw [← HW.out];clear HW
 go_region
 all_goals go_wp2_with (first|(go_at_call 138;(refine (Hh _ slots _ _ ?hc).mono ?_);(case hc=>exact Wae);rintro e w1 ⟨rfl,rfl⟩))
 all_goals go_ret
 all_goals exact ⟨by (try clear EK CK LG Yi);simp [*],naf⟩
theorem ZE (A0 A4:Option Addr) (c0 c4 n0 n4:Nat) (p1 p2 slots d a b c n:Int) (t:ByteArray) (w:World) (hn0:n0 ≤ 9223372036854775807) (Nu:n4 ≤ 9223372036854775807) :
  Calls Try.prog 125 #[.agg #[.slice A0 n0 c0,.int .i64 p1,.int .i64 p2,.int .i64 slots,.slice A4 n4 c4],.agg #[.int .i64 6,.int .i64 d,.int .i64 a,.int .i64 b,.int .i64 c,.int .i64 n,.string t]] w fun e w'=>e = .returned (.bool (Mj slots a && (d == 0 && (b == 0 && (c == 0 && (n == 0 && t.toList.isEmpty))))))∧Below w.heap.size w w':=by
 obtain ⟨W1,He⟩:∃ W1,W1=(w.alloc (.cells #[.slice A0 n0 c0,.int .i64 p1,.int .i64 p2,.int .i64 slots,.slice A4 n4 c4] 45 (0,0))).alloc (.cells #[.int .i64 6,.int .i64 d,.int .i64 a,.int .i64 b,.int .i64 c,.int .i64 n,.string t] 122 (0,0)):=⟨_,rfl⟩;have HW:=aa.mk He;have HB:=aa.mk (show Below w.heap.size w W1 from by rw [He];exact ia (ia (Below.refl _ _) _) _);have hz:W1.heap.size=w.heap.size + 2:=by rw [He];simp
 have jy:W1.cell? ⟨w.heap.size,3,none⟩=some (.int .i64 slots):=by rw [He];simp
 have hx0:W1.cell? ⟨w.heap.size + 1,0,none⟩=some (.int .i64 6):=by rw [He];simp
 have hx1:W1.cell? ⟨w.heap.size + 1,1,none⟩=some (.int .i64 d):=by rw [He];simp
 have hx2:W1.cell? ⟨w.heap.size + 1,2,none⟩=some (.int .i64 a):=by rw [He];simp
 have Ct:W1.cell? ⟨w.heap.size + 1,3,none⟩=some (.int .i64 b):=by rw [He];simp
 have gr:W1.cell? ⟨w.heap.size + 1,4,none⟩=some (.int .i64 c):=by rw [He];simp
 have QF:W1.cell? ⟨w.heap.size + 1,5,none⟩=some (.int .i64 n):=by rw [He];simp
 have Tw:W1.cell? ⟨w.heap.size + 1,6,none⟩=some (.string t):=by rw [He];simp
 clear He;go_enter Try.func125,Try.ntmps125;go_wp2_with (first|(go_at_call 94;(with_reducible refine (Ai _ _ _ _).mono ?_);rintro e w1 ⟨rfl,⟨k1,rfl⟩⟩));rw [← HW.out];clear HW
 go_region
 all_goals go_wp2_with (first|(go_at_call 138;(refine (Hh _ slots _ _ ?hc).mono ?_);(case hc=>exact Wae);rintro e w1 ⟨rfl,rfl⟩))
 all_goals go_ret
 all_goals exact ⟨by (try clear EK CK LG Yi);simp [*],naf⟩
theorem jB (A0 A4:Option Addr) (c0 c4 n0 n4:Nat) (p1 p2 slots d a b c n:Int) (t:ByteArray) (w:World) (hn0:n0 ≤ 9223372036854775807) (Nu:n4 ≤ 9223372036854775807) (o:Int) (h0:(o == 0)=false) (h1:(o == 1)=false) (h2:(o == 2)=false) (h3:(o == 3)=false) (h4:(o == 4)=false) (h5:(o == 5)=false) (h6:(o == 6)=false) :
  Calls Try.prog 125 #[.agg #[.slice A0 n0 c0,.int .i64 p1,.int .i64 p2,.int .i64 slots,.slice A4 n4 c4],.agg #[.int .i64 o,.int .i64 d,.int .i64 a,.int .i64 b,.int .i64 c,.int .i64 n,.string t]] w fun e w'=>e = .returned (.bool (false))∧Below w.heap.size w w':=by
 obtain ⟨W1,He⟩:∃ W1,W1=(w.alloc (.cells #[.slice A0 n0 c0,.int .i64 p1,.int .i64 p2,.int .i64 slots,.slice A4 n4 c4] 45 (0,0))).alloc (.cells #[.int .i64 o,.int .i64 d,.int .i64 a,.int .i64 b,.int .i64 c,.int .i64 n,.string t] 122 (0,0)):=⟨_,rfl⟩;have HW:=aa.mk He;have HB:=aa.mk (show Below w.heap.size w W1 from by rw [He];exact ia (ia (Below.refl _ _) _) _);have hz:W1.heap.size=w.heap.size + 2:=by rw [He];simp
 have jy:W1.cell? ⟨w.heap.size,3,none⟩=some (.int .i64 slots):=by rw [He];simp
 have hx0:W1.cell? ⟨w.heap.size + 1,0,none⟩=some (.int .i64 o):=by rw [He];simp
 have hx1:W1.cell? ⟨w.heap.size + 1,1,none⟩=some (.int .i64 d):=by rw [He];simp
 have hx2:W1.cell? ⟨w.heap.size + 1,2,none⟩=some (.int .i64 a):=by rw [He];simp
 have Ct:W1.cell? ⟨w.heap.size + 1,3,none⟩=some (.int .i64 b):=by rw [He];simp
 have gr:W1.cell? ⟨w.heap.size + 1,4,none⟩=some (.int .i64 c):=by rw [He];simp
 have QF:W1.cell? ⟨w.heap.size + 1,5,none⟩=some (.int .i64 n):=by rw [He];simp
 have Tw:W1.cell? ⟨w.heap.size + 1,6,none⟩=some (.string t):=by rw [He];simp
 clear He;go_enter Try.func125,Try.ntmps125;go_wp2_with (first|(go_at_call 94;(with_reducible refine (Ai _ _ _ _).mono ?_);rintro e w1 ⟨rfl,⟨k1,rfl⟩⟩));rw [← HW.out];clear HW
 go_region
 all_goals go_wp2_with (first|(go_at_call 138;(refine (Hh _ slots _ _ ?hc).mono ?_);(case hc=>exact Wae);rintro e w1 ⟨rfl,rfl⟩))
 all_goals go_ret
 all_goals exact ⟨by (try clear EK CK LG Yi);simp [*],naf⟩
def qj (n0:Nat) (slots:Int) (o d a b c n:Int) (t:ByteArray):Bool :=
 if o=0 then Mj slots d && (a == 0 && (b == 0 && (c == 0 && t.toList.isEmpty)))
 else if o=1 then Mj slots d && Mj slots a && (b == 0 && (c == 0 && (n == 0 && t.toList.isEmpty)))
 else if o=2 then Mj slots d && Mj slots a && Mj slots b && Vm t && (c == 0 && n == 0)
 else if o=3 then Mj slots d && Mj slots b && Ki n 0 ((n0:Int) - 1) && (Mj slots a || a == -1) && (c == 0 && t.toList.isEmpty)
 else if o=4 then Mj slots c && Mj slots b && Ki n 0 ((n0:Int) - 1) && (Mj slots a || a == -1) && (d == 0 && t.toList.isEmpty)
 else if o=5 then Mj slots d && (a == 0 && (b == 0 && (c == 0 && (n == 0 && t.toList.isEmpty))))
 else if o=6 then Mj slots a && (d == 0 && (b == 0 && (c == 0 && (n == 0 && t.toList.isEmpty))))
 else false
theorem Sy (A0 A4:Option Addr) (c0 c4 n0 n4:Nat) (p1 p2 slots:Int) (w:World) (hn0:n0 ≤ 9223372036854775807) (Nu:n4 ≤ 9223372036854775807) (o d a b c n:Int) (t:ByteArray) :
  Calls Try.prog 125 #[.agg #[.slice A0 n0 c0,.int .i64 p1,.int .i64 p2,.int .i64 slots,.slice A4 n4 c4],.agg #[.int .i64 o,.int .i64 d,.int .i64 a,.int .i64 b,.int .i64 c,.int .i64 n,.string t]] w fun e w'=>e = .returned (.bool (qj n0 slots o d a b c n t))∧Below w.heap.size w w':=by
 unfold qj
 by_cases h0:o=0
 ·rw [if_pos h0,h0];exact gF A0 A4 c0 c4 n0 n4 p1 p2 slots d a b c n t w hn0 Nu
 rw [if_neg h0]
 by_cases h1:o=1
 ·rw [if_pos h1,h1];exact fF A0 A4 c0 c4 n0 n4 p1 p2 slots d a b c n t w hn0 Nu
 rw [if_neg h1]
 by_cases h2:o=2
 ·rw [if_pos h2,h2];exact eF A0 A4 c0 c4 n0 n4 p1 p2 slots d a b c n t w hn0 Nu
 rw [if_neg h2]
 by_cases h3:o=3
 ·rw [if_pos h3,h3];exact dF A0 A4 c0 c4 n0 n4 p1 p2 slots d a b c n t w hn0 Nu
 rw [if_neg h3]
 by_cases h4:o=4
 ·rw [if_pos h4,h4];exact cF A0 A4 c0 c4 n0 n4 p1 p2 slots d a b c n t w hn0 Nu
 rw [if_neg h4]
 by_cases h5:o=5
 ·rw [if_pos h5,h5];exact bF A0 A4 c0 c4 n0 n4 p1 p2 slots d a b c n t w hn0 Nu
 rw [if_neg h5]
 by_cases h6:o=6
 ·rw [if_pos h6,h6];exact ZE A0 A4 c0 c4 n0 n4 p1 p2 slots d a b c n t w hn0 Nu
 rw [if_neg h6];exact jB A0 A4 c0 c4 n0 n4 p1 p2 slots d a b c n t w hn0 Nu o (beq_eq_false_iff_ne.mpr h0) (beq_eq_false_iff_ne.mpr h1) (beq_eq_false_iff_ne.mpr h2) (beq_eq_false_iff_ne.mpr h3) (beq_eq_false_iff_ne.mpr h4) (beq_eq_false_iff_ne.mpr h5) (beq_eq_false_iff_ne.mpr h6)
def nk (n0:Nat) (slots:Int) (x:Zb):Bool:=qj n0 slots x.f0 x.f1 x.f2 x.f3 x.f4 x.f5 x.f6
def Ti (n0:Nat) (slots:Int) (n4:Nat) (code:List Zb) (j a tg els:Int):Bool :=
 !(code.any fun x=>!nk n0 slots x) && decide (0 ≤ slots) &&
  (if j=0 then Ki tg 0 ((n4:Int) - 1) && a == 0 && els == 0
   else if j=1 then Ki tg 0 ((n4:Int) - 1) && Ki els 0 ((n4:Int) - 1) && Mj slots a
   else if j=2 then Mj slots a && tg == 0 && els == 0
   else false)
theorem iF (B:Nat) (A0 A4:Option Addr) (c0 c4 n0 n4:Nat) (p1 p2 slots:Int) (hn0:n0 ≤ 9223372036854775807) (Nu:n4 ≤ 9223372036854775807) (W:World) (x:Zb)
  (hb0:W.cell? ⟨B,0,none⟩=some (.slice A0 n0 c0)) (Xm:W.cell? ⟨B,1,none⟩=some (.int .i64 p1)) (Vk:W.cell? ⟨B,2,none⟩=some (.int .i64 p2)) (FP:W.cell? ⟨B,3,none⟩=some (.int .i64 slots)) (hb4:W.cell? ⟨B,4,none⟩=some (.slice A4 n4 c4)) (hB:B < W.heap.size) :
  Calls Try.prog 124 #[.agg #[.int .i64 x.f0,.int .i64 x.f1,.int .i64 x.f2,.int .i64 x.f3,.int .i64 x.f4,.int .i64 x.f5,.string x.f6],.pointer (some ⟨B,0,none⟩)] W
   fun e w'=>e = .returned (.bool (!nk n0 slots x))∧Below W.heap.size W w':=by
 have hne:B ≠ W.heap.size:=by omega
 unfold nk;have HC:=aa.mk (fun W'=>Sy A0 A4 c0 c4 n0 n4 p1 p2 slots W' hn0 Nu x.f0 x.f1 x.f2 x.f3 x.f4 x.f5 x.f6);generalize qj n0 slots x.f0 x.f1 x.f2 x.f3 x.f4 x.f5 x.f6=b at HC ⊢;go_enter Try.func124,Try.ntmps124;go_wp2_with (go_at_call 125;(with_reducible refine (HC.out _).mono ?_);rintro e w1 ⟨rfl,hb⟩;have HD:=aa.mk (Fa (ia (Below.refl _ _) _) hb);clear hb);go_ret;exact ⟨rfl,HD.out⟩
theorem Ty (A0 A4 A5:Option Addr) (c0 c4 c5 n0 n4:Nat) (p1 p2 slots:Int) (l5:List Zb) (j a tg els:Int) (w:World) (hn0:n0 ≤ 9223372036854775807) (Nu:n4 ≤ 9223372036854775807) (EO:Kd.C fe w A5 l5.length l5) (X9:l5.length ≤ c5) :
  Calls Try.prog 104 #[.agg #[.slice A0 n0 c0,.int .i64 p1,.int .i64 p2,.int .i64 slots,.slice A4 n4 c4],.agg #[.slice A5 l5.length c5,.int .i64 j,.int .i64 a,.int .i64 tg,.int .i64 els]] w fun e w'=>e = .returned (.bool (Ti n0 slots n4 l5 j a tg els))∧Below w.heap.size w w':=by
 have eg:=enters_of Try.func124 (by kernel_rfl) rfl;have hm5:=EO.2.1;obtain ⟨W1,He⟩:∃ W1,W1=(w.alloc (.cells #[.slice A0 n0 c0,.int .i64 p1,.int .i64 p2,.int .i64 slots,.slice A4 n4 c4] 45 (0,0))).alloc (.cells #[.slice A5 l5.length c5,.int .i64 j,.int .i64 a,.int .i64 tg,.int .i64 els] 83 (0,0)):=⟨_,rfl⟩;have HW:=aa.mk He;have X2:Below w.heap.size w W1:=by rw [He];exact ia (ia (Below.refl _ _) _) _
 have hz:W1.heap.size=w.heap.size + 2:=by rw [He];simp
 have nF:W1.cell? ⟨w.heap.size,0,none⟩=some (.slice A0 n0 c0):=by rw [He];simp
 have Dv:W1.cell? ⟨w.heap.size,1,none⟩=some (.int .i64 p1):=by rw [He];simp
 have hg2:W1.cell? ⟨w.heap.size,2,none⟩=some (.int .i64 p2):=by rw [He];simp
 have DA:W1.cell? ⟨w.heap.size,3,none⟩=some (.int .i64 slots):=by rw [He];simp
 have CA:W1.cell? ⟨w.heap.size,4,none⟩=some (.slice A4 n4 c4):=by rw [He];simp
 have hx0:W1.cell? ⟨w.heap.size + 1,0,none⟩=some (.slice A5 l5.length c5):=by rw [He];simp
 have hx1:W1.cell? ⟨w.heap.size + 1,1,none⟩=some (.int .i64 j):=by rw [He];simp
 have hx2:W1.cell? ⟨w.heap.size + 1,2,none⟩=some (.int .i64 a):=by rw [He];simp
 have Ct:W1.cell? ⟨w.heap.size + 1,3,none⟩=some (.int .i64 tg):=by rw [He];simp
 have gr:W1.cell? ⟨w.heap.size + 1,4,none⟩=some (.int .i64 els):=by rw [He];simp
 have hr1:=Kd.yb EO X2;clear He EO
 have HF:=aa.mk (Lp 124 #[.pointer (some ⟨w.heap.size,0,none⟩)] (fun x=>!nk n0 slots x) eg A5 c5 l5 W1 hr1 X9
  (fun W2 x hb'=>iF w.heap.size A0 A4 c0 c4 n0 n4 p1 p2 slots hn0 Nu W2 x ((hb'.cell (p:=⟨w.heap.size,0,none⟩) (by simp;omega)).trans nF) ((hb'.cell (p:=⟨w.heap.size,1,none⟩) (by simp;omega)).trans Dv) ((hb'.cell (p:=⟨w.heap.size,2,none⟩) (by simp;omega)).trans hg2) ((hb'.cell (p:=⟨w.heap.size,3,none⟩) (by simp;omega)).trans DA) ((hb'.cell (p:=⟨w.heap.size,4,none⟩) (by simp;omega)).trans CA) (Nat.lt_of_lt_of_le (by omega) hb'.size)))
 have HB:=aa.mk X2;clear hr1 X2 eg;unfold Ti;cases hq:l5.any (fun x=>!nk n0 slots x) with
 | true =>
  rw [hq] at HF;go_enter Try.func104,Try.ntmps104
  go_upto_region 1 with (fail)
  rw [← HW.out];clear HW;go_wp2_with (first|(go_at_call 123;(with_reducible refine HF.out.mono ?_);rintro e w2 ⟨rfl,Vk⟩;have Yi:=aa.mk Vk;clear Vk))
  all_goals
   go_ret;exact ⟨by simp,Fa HB.out Yi.out⟩
 | false =>
  rw [hq] at HF;cases ha0:decide (0 ≤ a)
  all_goals
   go_enter Try.func104,Try.ntmps104
   go_upto_region 1 with (fail)
   rw [← HW.out];clear HW
   go_upto_region 3 with (first|(go_at_call 123;(with_reducible refine HF.out.mono ?_);rintro e w2 ⟨rfl,Vk⟩;replace DA:=(Vk.cell (World.block_lt_of_cell? W1 _ DA)).trans DA;replace CA:=(Vk.cell (World.block_lt_of_cell? W1 _ CA)).trans CA;replace hx1:=(Vk.cell (World.block_lt_of_cell? W1 _ hx1)).trans hx1;replace hx2:=(Vk.cell (World.block_lt_of_cell? W1 _ hx2)).trans hx2;replace Ct:=(Vk.cell (World.block_lt_of_cell? W1 _ Ct)).trans Ct;replace gr:=(Vk.cell (World.block_lt_of_cell? W1 _ gr)).trans gr;have Yi:=aa.mk (Fa HB.out Vk);clear Vk HB nF Dv hg2 hx0))
   go_quiet ((go_at_call 94;exact Calls.quiet_of ((Ai _ _ _ _).mono fun _ _ ⟨he,hm⟩=>⟨he,hm.out⟩)))
   go_wp2
   all_goals go_ret
   all_goals exact ⟨by first|(simp [Mj, *];done)|(simp [Mj, *];intros;omega)|(clear HF DA CA hx1 hx2 Ct gr;simp_all [Mj];done)|(clear HF DA CA hx1 hx2 Ct gr;simp_all [Mj];omega),by repeat (first|exact Yi.out|apply ga)⟩
def Vg.f (Ma:List Int) (Pa:Int) (Qa:Int) (Oa:Int) (za:List (Yd)) (Hp:List (Zb)) (Px:Int) (Ox:Int) (Nx:Int) (II:Int):Option Bool:=some (Ti Ma.length Oa za.length Hp Px Ox Nx II)
theorem Vg.calls (Bb:Option Addr) (Ab:Nat) (Ma:List Int) (Pa:Int) (Qa:Int) (Oa:Int) (Qb:Option Addr) (Gb:Nat) (za:List (Yd)) (yA:Option Addr) (Xz:Nat) (Hp:List (Zb)) (Px:Int) (Ox:Int) (Nx:Int) (II:Int) (r:Bool) (w:World) (od:Kd.C (Kd.int .i64) w Bb Ma.length Ma) (Nd:Ma.length ≤ Ab) (ze:Kd.C Jl w Qb za.length za) (Ve:za.length ≤ Gb) (OC:Kd.C fe w yA Hp.length Hp) (LH:Hp.length ≤ Xz) (h:Vg.f Ma Pa Qa Oa za Hp Px Ox Nx II=some r) :
  Calls Try.prog 104 #[.agg #[.slice Bb Ma.length Ab,.int .i64 Pa,.int .i64 Qa,.int .i64 Oa,.slice Qb za.length Gb],.agg #[.slice yA Hp.length Xz,.int .i64 Px,.int .i64 Ox,.int .i64 Nx,.int .i64 II]] w fun e w'=>e = .returned (.bool r)∧Below w.heap.size w w':=by
 injection h with h
 subst h;exact Ty Bb Qb yA Ab Gb Xz Ma.length za.length Pa Qa Oa Hp Px Ox Nx II w od.2.1 ze.2.1 OC LH
def Tg.f (Zi:Int) (Pa:Int) (Qa:Int) (Oa:Int) (Wc:Int) (Qk:Int) (Vi:ByteArray) (a1:Int):Option (Int):=if (wrap64 (a1 - (Vi.size:Int))) < 0 then (some (-1)) else (some (wrap64 (a1 - (Vi.size:Int))))
theorem Tg.calls (Zi:Int) (Pa:Int) (Qa:Int) (Oa:Int) (Wc:Int) (Qk:Int) (Vi:ByteArray) (a1:Int) (r:Int) (w:World) (h:Tg.f Zi Pa Qa Oa Wc Qk Vi a1=some r) :
  Calls Try.prog 134 #[.agg #[.int .i64 Zi,.int .i64 Pa,.int .i64 Qa,.int .i64 Oa,.int .i64 Wc,.int .i64 Qk,.string Vi],.int .i64 a1] w fun e w'=>e = .returned (.int .i64 r)∧Below w.heap.size w w':=by
 have XG:=Try.underlying141;have HB:=aa.mk (Below.refl w.heap.size w);have H:(if (wrap64 (a1 - (Vi.size:Int))) < 0 then (some (-1)) else (some (wrap64 (a1 - (Vi.size:Int)))))=some r:=h;clear h
 by_cases c3:(wrap64 (a1 - (Vi.size:Int))) < 0
 ·rw [if_pos c3] at H;have Yg:decide ((wrap64 (a1 - (Vi.size:Int))) < 0)=true:=decide_eq_true c3;clear c3;obtain rfl:=Option.some.inj H;go_enter Try.func134,Try.ntmps134;go_wp2_with (first|((with_reducible refine Lb (N:=2) rfl ?_);refine Jc ?hg (N:=2) ?hd (cs:=#[.int .i64 Zi,.int .i64 Pa,.int .i64 Qa,.int .i64 Oa,.int .i64 Wc,.int .i64 Qk,.string Vi]) (t:=141) ?hr ?_;(case hd|hg=>rfl);(case hr=>exact Vae);intro Ja hg w4 qd hb;have Kb:=aa.mk (Fa Yae hb);have Ob:=aa.mk (qd);have fc:=aa.mk ((by rw [hg];exact (Ra Yae):w.heap.size ≤ Ja));have Sc:=aa.mk ((by rw [hg];exact (Ra Yae):w.heap.size ≤ Ja));clear HB;have HB:=Kb;have ta:=Ob;have Af:=fc;have mb:=Sc;clear Kb Ob fc Sc hb qd hg;have BH:w4.cell? ⟨Ja,0,none⟩=some (.int .i64 Zi):=(qa ta.out 0).trans rfl;have AH:w4.cell? ⟨Ja,1,none⟩=some (.int .i64 Pa):=(qa ta.out 1).trans rfl;have zH:w4.cell? ⟨Ja,2,none⟩=some (.int .i64 Qa):=(qa ta.out 2).trans rfl;have yH:w4.cell? ⟨Ja,3,none⟩=some (.int .i64 Oa):=(qa ta.out 3).trans rfl;have xH:w4.cell? ⟨Ja,4,none⟩=some (.int .i64 Wc):=(qa ta.out 4).trans rfl;have C2:w4.cell? ⟨Ja,5,none⟩=some (.int .i64 Qk):=(qa ta.out 5).trans rfl;have Z1:w4.cell? ⟨Ja,6,none⟩=some (.string Vi):=(qa ta.out 6).trans rfl;have nH:=Aa ta.out 0;have mH:=Aa ta.out 1;have lH:=Aa ta.out 2;have kH:=Aa ta.out 3;have jH:=Aa ta.out 4;have Y0:=Aa ta.out 5;have X0:=Aa ta.out 6));go_ret;exact ⟨eaf,aaf⟩
 ·rw [if_neg c3] at H;have Yg:decide ((wrap64 (a1 - (Vi.size:Int))) < 0)=false:=decide_eq_false c3;clear c3;obtain rfl:=Option.some.inj H;go_enter Try.func134,Try.ntmps134;go_wp2_with (first|((with_reducible refine Lb (N:=2) rfl ?_);refine Jc ?hg (N:=2) ?hd (cs:=#[.int .i64 Zi,.int .i64 Pa,.int .i64 Qa,.int .i64 Oa,.int .i64 Wc,.int .i64 Qk,.string Vi]) (t:=141) ?hr ?_;(case hd|hg=>rfl);(case hr=>exact Vae);intro Ja hg w6 qd hb;have Kb:=aa.mk (Fa Yae hb);have Ob:=aa.mk (qd);have fc:=aa.mk ((by rw [hg];exact (Ra Yae):w.heap.size ≤ Ja));have Sc:=aa.mk ((by rw [hg];exact (Ra Yae):w.heap.size ≤ Ja));clear HB;have HB:=Kb;have ta:=Ob;have Af:=fc;have mb:=Sc;clear Kb Ob fc Sc hb qd hg;have tP:w6.cell? ⟨Ja,0,none⟩=some (.int .i64 Zi):=(qa ta.out 0).trans rfl;have sP:w6.cell? ⟨Ja,1,none⟩=some (.int .i64 Pa):=(qa ta.out 1).trans rfl;have rP:w6.cell? ⟨Ja,2,none⟩=some (.int .i64 Qa):=(qa ta.out 2).trans rfl;have qP:w6.cell? ⟨Ja,3,none⟩=some (.int .i64 Oa):=(qa ta.out 3).trans rfl;have pP:w6.cell? ⟨Ja,4,none⟩=some (.int .i64 Wc):=(qa ta.out 4).trans rfl;have oP:w6.cell? ⟨Ja,5,none⟩=some (.int .i64 Qk):=(qa ta.out 5).trans rfl;have nP:w6.cell? ⟨Ja,6,none⟩=some (.string Vi):=(qa ta.out 6).trans rfl;have VO:=Aa ta.out 0;have UO:=Aa ta.out 1;have RO:=Aa ta.out 2;have QO:=Aa ta.out 3;have PO:=Aa ta.out 4;have OO:=Aa ta.out 5;have MO:=Aa ta.out 6));go_ret;exact ⟨eaf,aaf⟩
def Gc.l0:Nat→List (Kj)→Int→Int→Option (Int)
 | 0,_,_,_=>none
 | k + 1,x0,x1,x5=>if x5 < (x0.length:Int) then (if 0 ≤ x5 then ((Tg.f ((Ib x0 x5).f0) ((Ib x0 x5).f1) ((Ib x0 x5).f2) ((Ib x0 x5).f3) ((Ib x0 x5).f4) ((Ib x0 x5).f5) ((Ib x0 x5).f6) x1).bind fun t102=>(if t102 < 0 then (some (-1)) else (Gc.l0 k x0 t102 (wrap64 (x5 + 1))))) else (none)) else (some x1)
def Gc.f (k:Nat) (l0:List (Kj)) (a1:Int):Option (Int):=if (wrap64 (a1 - (l0.length:Int))) < 0 then (some (-1)) else (Gc.l0 k l0 (wrap64 (a1 - (l0.length:Int))) 0)
theorem Gc.calls (k:Nat) (A0:Option Addr) (c0:Nat) (l0:List (Kj)) (a1:Int) (r:Int) (w:World) (Jh:Kd.C Hu w A0 l0.length l0) (hc0:l0.length ≤ c0) (h:Gc.f k l0 a1=some r) :
  Calls Try.prog 120 #[.slice A0 l0.length c0,.int .i64 a1] w fun e w'=>e = .returned (.int .i64 r)∧Below w.heap.size w w':=by
 have XG:=Try.underlying141;have xk:=aa.mk Jh;have ey:=aa.mk hc0;clear Jh hc0;have HB:=aa.mk (Below.refl w.heap.size w);have H:(if (wrap64 (a1 - (l0.length:Int))) < 0 then (some (-1)) else (Gc.l0 k l0 (wrap64 (a1 - (l0.length:Int))) 0))=some r:=h;clear h
 by_cases c3:(wrap64 (a1 - (l0.length:Int))) < 0
 ·rw [if_pos c3] at H;have Yg:decide ((wrap64 (a1 - (l0.length:Int))) < 0)=true:=decide_eq_true c3;clear c3;obtain rfl:=Option.some.inj H;go_enter Try.func120,Try.ntmps120;go_wp2;go_ret;exact ⟨eaf,caf⟩
 ·rw [if_neg c3] at H;have Yg:decide ((wrap64 (a1 - (l0.length:Int))) < 0)=false:=decide_eq_false c3;clear c3;have H':=aa.mk H;clear H;go_enter Try.func120,Try.ntmps120;go_wp2
  go_loopg [1,5] k (fun kq v1 v5 w'=>∃ (ld:Int) (Ba:Int),v1 = .int .i64 ld∧v5 = .int .i64 Ba∧aa (Gc.l0 kq l0 ld Ba=some r)∧aa (kq ≤ k)∧aa (Below w.heap.size w w'))
  case atStart=>exact ⟨(wrap64 (a1 - (l0.length:Int))),(0),daf,daf,H',⟨Nat.le_refl _⟩,⟨caf⟩⟩
  case round =>
   clear H'
   try clear c1
   try clear p2
   try clear c3
   try clear Yg
   (try clear HA);(try clear Gf);(try clear HB);obtain ⟨ld,Ba,rfl,rfl,HA,Gf,HB⟩:=hrel;cases gk with
   | zero=>exact absurd HA.out (by simp [Gc.l0])
   | succ k1 =>
    have H:=HA.out;clear HA;simp only [Gc.l0] at H
    by_cases c4:Ba < (l0.length:Int)
    ·rw [if_pos c4] at H;have Yk:decide (Ba < (l0.length:Int))=true:=decide_eq_true c4;clear c4
     by_cases c5:0 ≤ Ba
     ·rw [if_pos c5] at H;have Yq:decide (0 ≤ Ba)=true:=decide_eq_true c5;clear c5;replace H:=Option.bind_eq_some_iff.mp H;obtain ⟨t102,CN,H⟩:=H
      try dsimp only at H
      have A6:=aa.mk CN;clear CN
      by_cases c7:t102 < 0
      ·rw [if_pos c7] at H;have Zr:decide (t102 < 0)=true:=decide_eq_true c7;clear c7;obtain rfl:=Option.some.inj H;have Pf:0 ≤ (Ba:Int):=Ia;have Nf:Ba < (l0.length:Int):=Ia;obtain ⟨Rl,bk,gf,Ri,Qi,Oi,Mi,xq,vq⟩:=Kx xk.out Ba Pf Nf;cases bk;replace gf:=Jb HB.out gf;replace Ri:=Jb HB.out Ri;replace Qi:=Jb HB.out Qi;replace Oi:=Jb HB.out Oi;replace Mi:=Jb HB.out Mi;replace xq:=Jb HB.out xq;replace vq:=Jb HB.out vq;replace Pf:=eq_true Pf;replace Nf:=eq_true Nf;go_wp2_with (first|((with_reducible refine Sb (f:=134) rfl ?_);refine Ke (some 23) rfl rfl Try.func134 (by kernel_rfl) rfl #[.agg #[.int .i64 ((Ib l0 Ba).f0),.int .i64 ((Ib l0 Ba).f1),.int .i64 ((Ib l0 Ba).f2),.int .i64 ((Ib l0 Ba).f3),.int .i64 ((Ib l0 Ba).f4),.int .i64 ((Ib l0 Ba).f5),.string ((Ib l0 Ba).f6)],.int .i64 ld] rfl baf ?_;(with_reducible refine (Tg.calls ((Ib l0 Ba).f0) ((Ib l0 Ba).f1) ((Ib l0 Ba).f2) ((Ib l0 Ba).f3) ((Ib l0 Ba).f4) ((Ib l0 Ba).f5) ((Ib l0 Ba).f6) ld t102 _ A6.out).mono ?_);rintro e w8 ⟨rfl,hb⟩;refine ⟨_,rfl,?_⟩;have Kb:=aa.mk (Fa Yae hb);clear HB;have HB:=Kb;clear Kb;(try clear hb);(try clear Vk);(try clear hk);(try clear hi)));go_ret;exact ⟨eaf,caf⟩
      ·rw [if_neg c7] at H;have Zr:decide (t102 < 0)=false:=decide_eq_false c7;clear c7;have H':=aa.mk H;clear H;have Pf:0 ≤ (Ba:Int):=Ia;have Nf:Ba < (l0.length:Int):=Ia;obtain ⟨Rl,bk,gf,Ri,Qi,Oi,Mi,xq,vq⟩:=Kx xk.out Ba Pf Nf;cases bk;replace gf:=Jb HB.out gf;replace Ri:=Jb HB.out Ri;replace Qi:=Jb HB.out Qi;replace Oi:=Jb HB.out Oi;replace Mi:=Jb HB.out Mi;replace xq:=Jb HB.out xq;replace vq:=Jb HB.out vq;replace Pf:=eq_true Pf;replace Nf:=eq_true Nf;go_wp2_with (first|((with_reducible refine Sb (f:=134) rfl ?_);refine Ke (some 23) rfl rfl Try.func134 (by kernel_rfl) rfl #[.agg #[.int .i64 ((Ib l0 Ba).f0),.int .i64 ((Ib l0 Ba).f1),.int .i64 ((Ib l0 Ba).f2),.int .i64 ((Ib l0 Ba).f3),.int .i64 ((Ib l0 Ba).f4),.int .i64 ((Ib l0 Ba).f5),.string ((Ib l0 Ba).f6)],.int .i64 ld] rfl baf ?_;(with_reducible refine (Tg.calls ((Ib l0 Ba).f0) ((Ib l0 Ba).f1) ((Ib l0 Ba).f2) ((Ib l0 Ba).f3) ((Ib l0 Ba).f4) ((Ib l0 Ba).f5) ((Ib l0 Ba).f6) ld t102 _ A6.out).mono ?_);rintro e w9 ⟨rfl,hb⟩;refine ⟨_,rfl,?_⟩;have Kb:=aa.mk (Fa Yae hb);clear HB;have HB:=Kb;clear Kb;(try clear hb);(try clear Vk);(try clear hk);(try clear hi)))
       go_roundg k1
       case measure=>have:=Gf.out;omega
       case rel=>exact ⟨(t102),(wrap64 (Ba + 1)),daf,daf,H',⟨by have:=Gf.out;omega⟩,⟨caf⟩⟩
     ·rw [if_neg c5] at H;exact absurd H (by simp)
    ·rw [if_neg c4] at H;have Yk:decide (Ba < (l0.length:Int))=false:=decide_eq_false c4;clear c4;obtain rfl:=Option.some.inj H;go_wp2;go_ret;exact ⟨eaf,caf⟩
def Ug.f (k:Nat) (Ma:List (Kj)) (Pa:Int) (Qa:Int) (Oa:Int) (Wc:Int) (a1:Int):Option (Int):=(Gc.f k Ma a1).bind fun t102=>(if t102 < 0 then (some (-1)) else (some t102))
theorem Ug.calls (k:Nat) (Bb:Option Addr) (Ab:Nat) (Ma:List (Kj)) (Pa:Int) (Qa:Int) (Oa:Int) (Wc:Int) (a1:Int) (r:Int) (w:World) (od:Kd.C Hu w Bb Ma.length Ma) (Nd:Ma.length ≤ Ab) (h:Ug.f k Ma Pa Qa Oa Wc a1=some r) :
  Calls Try.prog 100 #[.agg #[.slice Bb Ma.length Ab,.int .i64 Pa,.int .i64 Qa,.int .i64 Oa,.int .i64 Wc],.int .i64 a1] w fun e w'=>e = .returned (.int .i64 r)∧Below w.heap.size w w':=by
 have YG:=Try.underlying106;have Qg:=aa.mk od;have Sg:=aa.mk Nd;clear od Nd;have HB:=aa.mk (Below.refl w.heap.size w);have H:((Gc.f k Ma a1).bind fun t102=>(if t102 < 0 then (some (-1)) else (some t102)))=some r:=h;clear h;replace H:=Option.bind_eq_some_iff.mp H;obtain ⟨t102,wE,H⟩:=H
 try dsimp only at H
 have A3:=aa.mk wE;clear wE
 by_cases c4:t102 < 0
 ·rw [if_pos c4] at H;have Yk:decide (t102 < 0)=true:=decide_eq_true c4;clear c4;obtain rfl:=Option.some.inj H;go_enter Try.func100,Try.ntmps100;go_wp2_with (first|((with_reducible refine Lb (N:=2) rfl ?_);refine Jc ?hg (N:=2) ?hd (cs:=#[.slice Bb Ma.length Ab,.int .i64 Pa,.int .i64 Qa,.int .i64 Oa,.int .i64 Wc]) (t:=106) ?hr ?_;(case hd|hg=>rfl);(case hr=>exact Vae);intro Ja hg w5 qd hb;have Kb:=aa.mk (Fa Yae hb);have Ob:=aa.mk (qd);have fc:=aa.mk ((by rw [hg];exact (Ra Yae):w.heap.size ≤ Ja));have Sc:=aa.mk ((by rw [hg];exact (Ra Yae):w.heap.size ≤ Ja));clear HB;have HB:=Kb;have ta:=Ob;have Af:=fc;have mb:=Sc;clear Kb Ob fc Sc hb qd hg;have Vr:w5.cell? ⟨Ja,0,none⟩=some (.slice Bb Ma.length Ab):=(qa ta.out 0).trans rfl;have Ur:w5.cell? ⟨Ja,1,none⟩=some (.int .i64 Pa):=(qa ta.out 1).trans rfl;have Tr:w5.cell? ⟨Ja,2,none⟩=some (.int .i64 Qa):=(qa ta.out 2).trans rfl;have Sr:w5.cell? ⟨Ja,3,none⟩=some (.int .i64 Oa):=(qa ta.out 3).trans rfl;have Qr:w5.cell? ⟨Ja,4,none⟩=some (.int .i64 Wc):=(qa ta.out 4).trans rfl;have Nr:=Aa ta.out 0;have Mr:=Aa ta.out 1;have Lr:=Aa ta.out 2;have Kr:=Aa ta.out 3;have Jr:=Aa ta.out 4)|((with_reducible refine Sb (f:=120) rfl ?_);refine Ke (some 8) rfl rfl Try.func120 (by kernel_rfl) rfl #[.slice Bb Ma.length Ab,.int .i64 a1] rfl baf ?_;(with_reducible refine (Gc.calls k _ _ Ma a1 t102 _ ?Gd ?Ed A3.out).mono ?_);(case Gd=>repeat (first|exact (Kd.yb Qg.out HB.out)|(with_reducible refine Kd.ee ?_ _)|(with_reducible refine Kd.Zd ?_ _)|(with_reducible refine Kd.We ?_)));(case Ed=>exact Sg.out);rintro e w7 ⟨rfl,hb⟩;refine ⟨_,rfl,?_⟩;have Kb:=aa.mk (Ua (g:=Ja) (o:=.cells #[.slice Bb Ma.length Ab,.int .i64 Pa,.int .i64 Qa,.int .i64 Oa,.int .i64 Wc] 106 (0,0)) Zae hb);have Ob:=aa.mk (Fa Xae hb);clear ta HB;have ta:=Kb;have HB:=Ob;clear Kb Ob;(try clear hb);(try clear Vk);(try clear hk);(try clear hi)));go_ret;exact ⟨eaf,aaf⟩
 ·rw [if_neg c4] at H;have Yk:decide (t102 < 0)=false:=decide_eq_false c4;clear c4;obtain rfl:=Option.some.inj H;go_enter Try.func100,Try.ntmps100;go_wp2_with (first|((with_reducible refine Lb (N:=2) rfl ?_);refine Jc ?hg (N:=2) ?hd (cs:=#[.slice Bb Ma.length Ab,.int .i64 Pa,.int .i64 Qa,.int .i64 Oa,.int .i64 Wc]) (t:=106) ?hr ?_;(case hd|hg=>rfl);(case hr=>exact Vae);intro Ja hg w8 qd hb;have Kb:=aa.mk (Fa Yae hb);have Ob:=aa.mk (qd);have fc:=aa.mk ((by rw [hg];exact (Ra Yae):w.heap.size ≤ Ja));have Sc:=aa.mk ((by rw [hg];exact (Ra Yae):w.heap.size ≤ Ja));clear HB;have HB:=Kb;have ta:=Ob;have Af:=fc;have mb:=Sc;clear Kb Ob fc Sc hb qd hg;have ak:w8.cell? ⟨Ja,0,none⟩=some (.slice Bb Ma.length Ab):=(qa ta.out 0).trans rfl;have Zj:w8.cell? ⟨Ja,1,none⟩=some (.int .i64 Pa):=(qa ta.out 1).trans rfl;have Yj:w8.cell? ⟨Ja,2,none⟩=some (.int .i64 Qa):=(qa ta.out 2).trans rfl;have Xj:w8.cell? ⟨Ja,3,none⟩=some (.int .i64 Oa):=(qa ta.out 3).trans rfl;have Wj:w8.cell? ⟨Ja,4,none⟩=some (.int .i64 Wc):=(qa ta.out 4).trans rfl;have Vj:=Aa ta.out 0;have Uj:=Aa ta.out 1;have Tj:=Aa ta.out 2;have Sj:=Aa ta.out 3;have Rj:=Aa ta.out 4)|((with_reducible refine Sb (f:=120) rfl ?_);refine Ke (some 8) rfl rfl Try.func120 (by kernel_rfl) rfl #[.slice Bb Ma.length Ab,.int .i64 a1] rfl baf ?_;(with_reducible refine (Gc.calls k _ _ Ma a1 t102 _ ?Gd ?Ed A3.out).mono ?_);(case Gd=>repeat (first|exact (Kd.yb Qg.out HB.out)|(with_reducible refine Kd.ee ?_ _)|(with_reducible refine Kd.Zd ?_ _)|(with_reducible refine Kd.We ?_)));(case Ed=>exact Sg.out);rintro e Gt ⟨rfl,hb⟩;refine ⟨_,rfl,?_⟩;have Kb:=aa.mk (Ua (g:=Ja) (o:=.cells #[.slice Bb Ma.length Ab,.int .i64 Pa,.int .i64 Qa,.int .i64 Oa,.int .i64 Wc] 106 (0,0)) Zae hb);have Ob:=aa.mk (Fa Xae hb);clear ta HB;have ta:=Kb;have HB:=Ob;clear Kb Ob;(try clear hb);(try clear Vk);(try clear hk);(try clear hi)));go_ret;exact ⟨eaf,aaf⟩
def Hi.f (Zi:Int) (Pa:Int) (Qa:Int) (Oa:Int) (Wc:Int) (Qk:Int) (Vi:ByteArray):Option (Int × Int × Int × Int × Int × Int × ByteArray):=some (Zi,Pa,Qa,Oa,Wc,Qk,Vi)
theorem Hi.calls (Zi:Int) (Pa:Int) (Qa:Int) (Oa:Int) (Wc:Int) (Qk:Int) (Vi:ByteArray) (r1:Int) (r2:Int) (r3:Int) (r4:Int) (r5:Int) (r6:Int) (r7:ByteArray) (w:World) (h:Hi.f Zi Pa Qa Oa Wc Qk Vi=some (r1,r2,r3,r4,r5,r6,r7)) :
  Calls Try.prog 136 #[.agg #[.int .i64 Zi,.int .i64 Pa,.int .i64 Qa,.int .i64 Oa,.int .i64 Wc,.int .i64 Qk,.string Vi]] w fun e w'=>e = .returned (.agg #[.int .i64 r1,.int .i64 r2,.int .i64 r3,.int .i64 r4,.int .i64 r5,.int .i64 r6,.string r7])∧Below w.heap.size w w':=by
 have XG:=Try.underlying141;have eS:=Try.underlying122;have HB:=aa.mk (Below.refl w.heap.size w);have H:(some (Zi,Pa,Qa,Oa,Wc,Qk,Vi))=some (r1,r2,r3,r4,r5,r6,r7):=h;clear h;simp only [Option.some.injEq,Prod.mk.injEq] at H;obtain ⟨rfl,rfl,rfl,rfl,rfl,rfl,rfl⟩:=H;go_enter Try.func136,Try.ntmps136;go_wp2_with (first|((with_reducible refine Lb (N:=1) rfl ?_);refine Jc ?hg (N:=1) ?hd (cs:=#[.int .i64 Zi,.int .i64 Pa,.int .i64 Qa,.int .i64 Oa,.int .i64 Wc,.int .i64 Qk,.string Vi]) (t:=141) ?hr ?_;(case hd|hg=>rfl);(case hr=>exact Vae);intro Ja hg w2 qd hb;have Kb:=aa.mk (Fa Yae hb);have Ob:=aa.mk (qd);have fc:=aa.mk ((by rw [hg];exact (Ra Yae):w.heap.size ≤ Ja));have Sc:=aa.mk ((by rw [hg];exact (Ra Yae):w.heap.size ≤ Ja));clear HB;have HB:=Kb;have ta:=Ob;have Af:=fc;have mb:=Sc;clear Kb Ob fc Sc hb qd hg)|((with_reducible refine Lb (N:=2) rfl ?_);refine Jc ?hg (N:=2) ?hd (cs:=#[.int .i64 0,.int .i64 0,.int .i64 0,.int .i64 0,.int .i64 0,.int .i64 0,.string (⟨#[]⟩:ByteArray)]) (t:=122) ?hr ?_;(case hd|hg=>rfl);(case hr=>exact Vae);intro Pc hg w3 qd hb;have Kb:=aa.mk (Ua (g:=Ja) (o:=.cells #[.int .i64 Zi,.int .i64 Pa,.int .i64 Qa,.int .i64 Oa,.int .i64 Wc,.int .i64 Qk,.string Vi] 141 (0,0)) Zae hb);have Ob:=aa.mk (Fa Xae hb);have fc:=aa.mk (qd);have Sc:=aa.mk ((by rw [hg];exact (Ra Xae):w.heap.size ≤ Pc));have uf:=aa.mk ((by rw [hg];exact (Ra Xae):w.heap.size ≤ Pc));have qh:=aa.mk ((by rw [hg];exact Nat.ne_of_lt (Le (g:=Ja) (o:=.cells #[.int .i64 Zi,.int .i64 Pa,.int .i64 Qa,.int .i64 Oa,.int .i64 Wc,.int .i64 Qk,.string Vi] 141 (0,0)) Zae):Ja ≠ Pc));have Rs:=aa.mk ((by rw [hg];exact Nat.ne_of_gt (Le (g:=Ja) (o:=.cells #[.int .i64 Zi,.int .i64 Pa,.int .i64 Qa,.int .i64 Oa,.int .i64 Wc,.int .i64 Qk,.string Vi] 141 (0,0)) Zae):Pc ≠ Ja));clear ta HB;have ta:=Kb;have HB:=Ob;have Qc:=fc;have zN:=Sc;have ni:=uf;have Wl:=qh;have Vl:=Rs;clear Kb Ob fc Sc uf qh Rs hb qd hg)|((with_reducible refine Lb (N:=3) rfl ?_);refine Jc ?hg (N:=3) ?hd (cs:=#[.int .i64 0,.int .i64 0,.int .i64 0,.int .i64 0,.int .i64 0,.int .i64 0,.string (⟨#[]⟩:ByteArray)]) (t:=122) ?hr ?_;(case hd|hg=>rfl);(case hr=>exact Vae);intro Jd hg w4 qd hb;have Kb:=aa.mk (Ua (g:=Ja) (o:=.cells #[.int .i64 Zi,.int .i64 Pa,.int .i64 Qa,.int .i64 Oa,.int .i64 Wc,.int .i64 Qk,.string Vi] 141 (0,0)) Zae hb);have Ob:=aa.mk (Ua (g:=Pc) (o:=.cells #[.int .i64 0,.int .i64 0,.int .i64 0,.int .i64 0,.int .i64 0,.int .i64 0,.string (⟨#[]⟩:ByteArray)] 122 (0,0)) qaf hb);have fc:=aa.mk (Fa jaf hb);have Sc:=aa.mk (qd);have uf:=aa.mk ((by rw [hg];exact (Ra jaf):w.heap.size ≤ Jd));have qh:=aa.mk ((by rw [hg];exact (Ra jaf):w.heap.size ≤ Jd));have Rs:=aa.mk ((by rw [hg];exact Nat.ne_of_lt (Le (g:=Ja) (o:=.cells #[.int .i64 Zi,.int .i64 Pa,.int .i64 Qa,.int .i64 Oa,.int .i64 Wc,.int .i64 Qk,.string Vi] 141 (0,0)) Zae):Ja ≠ Jd));have RL:=aa.mk ((by rw [hg];exact Nat.ne_of_gt (Le (g:=Ja) (o:=.cells #[.int .i64 Zi,.int .i64 Pa,.int .i64 Qa,.int .i64 Oa,.int .i64 Wc,.int .i64 Qk,.string Vi] 141 (0,0)) Zae):Jd ≠ Ja));have QL:=aa.mk ((by rw [hg];exact Nat.ne_of_lt (Le (g:=Pc) (o:=.cells #[.int .i64 0,.int .i64 0,.int .i64 0,.int .i64 0,.int .i64 0,.int .i64 0,.string (⟨#[]⟩:ByteArray)] 122 (0,0)) qaf):Pc ≠ Jd));have PL:=aa.mk ((by rw [hg];exact Nat.ne_of_gt (Le (g:=Pc) (o:=.cells #[.int .i64 0,.int .i64 0,.int .i64 0,.int .i64 0,.int .i64 0,.int .i64 0,.string (⟨#[]⟩:ByteArray)] 122 (0,0)) qaf):Jd ≠ Pc));clear ta Qc HB;have ta:=Kb;have Qc:=Ob;have HB:=fc;have td:=Sc;have yN:=uf;have Zm:=qh;have Sh:=Rs;have Ul:=RL;have Qd:=QL;have Tl:=PL;clear Kb Ob fc Sc uf qh Rs RL QL PL hb qd hg;have Dab:=Wl.out;have Bab:=Vl.out;have G0:=Sh.out;have YZ:=Ul.out;have tP:w4.cell? ⟨Ja,0,none⟩=some (.int .i64 Zi):=(qa ta.out 0).trans rfl;have sP:w4.cell? ⟨Ja,1,none⟩=some (.int .i64 Pa):=(qa ta.out 1).trans rfl;have rP:w4.cell? ⟨Ja,2,none⟩=some (.int .i64 Qa):=(qa ta.out 2).trans rfl;have qP:w4.cell? ⟨Ja,3,none⟩=some (.int .i64 Oa):=(qa ta.out 3).trans rfl;have pP:w4.cell? ⟨Ja,4,none⟩=some (.int .i64 Wc):=(qa ta.out 4).trans rfl;have oP:w4.cell? ⟨Ja,5,none⟩=some (.int .i64 Qk):=(qa ta.out 5).trans rfl;have nP:w4.cell? ⟨Ja,6,none⟩=some (.string Vi):=(qa ta.out 6).trans rfl;have VO:=Aa ta.out 0;have UO:=Aa ta.out 1;have RO:=Aa ta.out 2;have QO:=Aa ta.out 3;have PO:=Aa ta.out 4;have OO:=Aa ta.out 5;have MO:=Aa ta.out 6;have ZZ:=Tl.out;have WZ:=Qd.out;have ak:w4.cell? ⟨Jd,0,none⟩=some (.int .i64 0):=(qa td.out 0).trans rfl;have Zj:w4.cell? ⟨Jd,1,none⟩=some (.int .i64 0):=(qa td.out 1).trans rfl;have Yj:w4.cell? ⟨Jd,2,none⟩=some (.int .i64 0):=(qa td.out 2).trans rfl;have Xj:w4.cell? ⟨Jd,3,none⟩=some (.int .i64 0):=(qa td.out 3).trans rfl;have Wj:w4.cell? ⟨Jd,4,none⟩=some (.int .i64 0):=(qa td.out 4).trans rfl;have O1:w4.cell? ⟨Jd,5,none⟩=some (.int .i64 0):=(qa td.out 5).trans rfl;have N1:w4.cell? ⟨Jd,6,none⟩=some (.string (⟨#[]⟩:ByteArray)):=(qa td.out 6).trans rfl;have Vj:=Aa td.out 0;have Uj:=Aa td.out 1;have Tj:=Aa td.out 2;have Sj:=Aa td.out 3;have Rj:=Aa td.out 4;have P0:=Aa td.out 5;have O0:=Aa td.out 6;have Nq:w4.cell? ⟨Pc,0,none⟩=some (.int .i64 0):=(qa Qc.out 0).trans rfl;have Mq:w4.cell? ⟨Pc,1,none⟩=some (.int .i64 0):=(qa Qc.out 1).trans rfl;have Kq:w4.cell? ⟨Pc,2,none⟩=some (.int .i64 0):=(qa Qc.out 2).trans rfl;have Jq:w4.cell? ⟨Pc,3,none⟩=some (.int .i64 0):=(qa Qc.out 3).trans rfl;have Iq:w4.cell? ⟨Pc,4,none⟩=some (.int .i64 0):=(qa Qc.out 4).trans rfl;have VX:w4.cell? ⟨Pc,5,none⟩=some (.int .i64 0):=(qa Qc.out 5).trans rfl;have UX:w4.cell? ⟨Pc,6,none⟩=some (.string (⟨#[]⟩:ByteArray)):=(qa Qc.out 6).trans rfl;have Hq:=Aa Qc.out 0;have Gq:=Aa Qc.out 1;have Fq:=Aa Qc.out 2;have Dq:=Aa Qc.out 3;have Cq:=Aa Qc.out 4;have gX:=Aa Qc.out 5;have fX:=Aa Qc.out 6));refine bodyPost_ret (results_cell_row rfl _ _ Pc 122 #[.int .i64 Zi,.int .i64 Pa,.int .i64 Qa,.int .i64 Oa,.int .i64 Wc,.int .i64 Qk,.string Vi] (0,0) _ rfl (by (with_reducible repeat (first|refine Da ?_ _|refine Ea ?_|refine Ca ?_ _));refine Td (cs:=#[.int .i64 Zi,.int .i64 Pa,.int .i64 Qa,.int .i64 Oa,.int .i64 Wc,.int .i64 Qk,.string (⟨#[]⟩:ByteArray)]) ?_ 6 _ rfl;(with_reducible repeat (first|refine Da ?_ _|refine Ea ?_|refine Ca ?_ _));refine Td (cs:=#[.int .i64 Zi,.int .i64 Pa,.int .i64 Qa,.int .i64 Oa,.int .i64 Wc,.int .i64 0,.string (⟨#[]⟩:ByteArray)]) ?_ 5 _ rfl;(with_reducible repeat (first|refine Da ?_ _|refine Ea ?_|refine Ca ?_ _));refine Td (cs:=#[.int .i64 Zi,.int .i64 Pa,.int .i64 Qa,.int .i64 Oa,.int .i64 0,.int .i64 0,.string (⟨#[]⟩:ByteArray)]) ?_ 4 _ rfl;(with_reducible repeat (first|refine Da ?_ _|refine Ea ?_|refine Ca ?_ _));refine Td (cs:=#[.int .i64 Zi,.int .i64 Pa,.int .i64 Qa,.int .i64 0,.int .i64 0,.int .i64 0,.string (⟨#[]⟩:ByteArray)]) ?_ 3 _ rfl;(with_reducible repeat (first|refine Da ?_ _|refine Ea ?_|refine Ca ?_ _));refine Td (cs:=#[.int .i64 Zi,.int .i64 Pa,.int .i64 0,.int .i64 0,.int .i64 0,.int .i64 0,.string (⟨#[]⟩:ByteArray)]) ?_ 2 _ rfl;(with_reducible repeat (first|refine Da ?_ _|refine Ea ?_|refine Ca ?_ _));refine Td (cs:=#[.int .i64 Zi,.int .i64 0,.int .i64 0,.int .i64 0,.int .i64 0,.int .i64 0,.string (⟨#[]⟩:ByteArray)]) ?_ 1 _ rfl;(with_reducible repeat (first|refine Da ?_ _|refine Ea ?_|refine Ca ?_ _));refine Td (cs:=#[.int .i64 0,.int .i64 0,.int .i64 0,.int .i64 0,.int .i64 0,.int .i64 0,.string (⟨#[]⟩:ByteArray)]) ?_ 0 _ rfl;(with_reducible repeat (first|refine Da ?_ _|refine Ea ?_|refine Ca ?_ _));refine Ld ?_ Qd.out _;(with_reducible repeat (first|refine Da ?_ _|refine Ea ?_|refine Ca ?_ _));refine Ld ?_ Qd.out _;(with_reducible repeat (first|refine Da ?_ _|refine Ea ?_|refine Ca ?_ _));refine Ld ?_ Qd.out _;(with_reducible repeat (first|refine Da ?_ _|refine Ea ?_|refine Ca ?_ _));refine Ld ?_ Qd.out _;(with_reducible repeat (first|refine Da ?_ _|refine Ea ?_|refine Ca ?_ _));refine Ld ?_ Qd.out _;(with_reducible repeat (first|refine Da ?_ _|refine Ea ?_|refine Ca ?_ _));refine Ld ?_ Qd.out _;(with_reducible repeat (first|refine Da ?_ _|refine Ea ?_|refine Ca ?_ _));refine Ld ?_ Qd.out _;(with_reducible repeat (first|refine Da ?_ _|refine Ea ?_|refine Ca ?_ _));exact Qc.out) Try.underlying122 rfl (by kernel_rfl)) rfl ?_;exact ⟨eaf,Iaf⟩
def qc.l0:Nat→List (Kj)→List (Zb)→Int→Option ((List (Zb)))
 | 0,_,_,_=>none
 | k + 1,x0,x3,x4=>if x4 < (x0.length:Int) then (if 0 ≤ x4 then ((Hi.f ((Ib x0 x4).f0) ((Ib x0 x4).f1) ((Ib x0 x4).f2) ((Ib x0 x4).f3) ((Ib x0 x4).f4) ((Ib x0 x4).f5) ((Ib x0 x4).f6)).bind fun Ml=>(if x4 < (x3.length:Int) then (qc.l0 k x0 (x3.set (x4:Int).toNat (⟨Ml.1,Ml.2.1,Ml.2.2.1,Ml.2.2.2.1,Ml.2.2.2.2.1,Ml.2.2.2.2.2.1,Ml.2.2.2.2.2.2⟩:Zb)) (wrap64 (x4 + 1))) else (none))) else (none)) else (some x3)
def qc.f (k:Nat) (l0:List (Kj)):Option ((List (Zb))):=if 0 ≤ (l0.length:Int) then (if ((l0.length:Int):Int).toNat ≤ 4398046511104 then (qc.l0 k l0 (List.replicate ((l0.length:Int):Int).toNat Vh) 0) else (none)) else (none)
theorem qc.calls (k:Nat) (A0:Option Addr) (c0:Nat) (l0:List (Kj)) (r:List (Zb)) (w:World) (Jh:Kd.C Hu w A0 l0.length l0) (hc0:l0.length ≤ c0) (h:qc.f k l0=some r) :
  Calls Try.prog 122 #[.slice A0 l0.length c0] w fun e w'=>∃ zj:Value,e = .returned (zj)∧Kd.R fe 122 w' w.heap.size (fun _=>True) zj r∧Below w.heap.size w w':=by
 have XG:=Try.underlying141;have eS:=Try.underlying122;have xk:=aa.mk Jh;have ey:=aa.mk hc0;clear Jh hc0;have HB:=aa.mk (Below.refl w.heap.size w);have H:(if 0 ≤ (l0.length:Int) then (if ((l0.length:Int):Int).toNat ≤ 4398046511104 then (qc.l0 k l0 (List.replicate ((l0.length:Int):Int).toNat Vh) 0) else (none)) else (none))=some r:=h;clear h
 by_cases c2:0 ≤ (l0.length:Int)
 ·rw [if_pos c2] at H;have Jm:=eq_true c2;have Ro:decide (0 ≤ (l0.length:Int))=true:=decide_eq_true c2;clear c2
  by_cases c3:((l0.length:Int):Int).toNat ≤ 4398046511104
  ·rw [if_pos c3] at H;have Yg:=eq_true c3;have Mp:decide (((l0.length:Int):Int).toNat ≤ 4398046511104)=true:=decide_eq_true c3;clear c3;obtain ⟨ue,ye⟩:∃ y_:List (Zb),y_=(List.replicate ((l0.length:Int):Int).toNat Vh):=⟨_,rfl⟩;replace H:(qc.l0 k l0 ue 0)=some r:=by first|(rw [ye];with_reducible exact H)|(have Mc:=(Option.bind_some _ _).symm.trans H;rw [ye];with_reducible exact Mc)|(have Mc:=(Option.bind_some _ _).symm.trans H;with_reducible exact Mc)|with_reducible exact H|(rw [ye];exact H)|exact H
   have ki:=aa.mk ye;clear ye;have H':=aa.mk H;clear H;go_enter Try.func122,Try.ntmps122;go_wp2_with (first|((with_reducible refine Lb (N:=7) rfl ?_);refine Kd.Qp fe _ 122 rfl (N:=7) rfl 81 _ _ rfl (l0.length:Int) rfl rfl Try.underlying81 (.agg #[(.int .i64 0),(.int .i64 0),(.int .i64 0),(.int .i64 0),(.int .i64 0),(.int .i64 0),(.string ⟨#[]⟩)]) 64 tK rfl (by decide) (by omega) Vh (ok:=fun _=>True) (Ag:=fun _=>True) (Ji _ _ _ Vh ) (fun _ hk=>hk) trivial (Ia) (Nat.le_trans (Nat.mul_le_mul_right _ (Ia:(l0.length:Int).toNat ≤ 4398046511104)) (by omega)) (Below.refl _ _) (Nat.le_refl _) ?_;intro yy w4 fz hb Hl Je;clear Hl Je;(first|rw [← ki.out] at fz|(simp only [Int.reduceToNat] at fz;rw [← ki.out] at fz));have Kb:=aa.mk (Kd.Xc fz (Ra Yae));have Ob:=aa.mk (Fa Yae hb);clear HB;have Xl:=Kb;have HB:=Ob;clear Kb Ob hb fz))
   go_loopg [4] k (fun kq v4 w'=>∃ (jc:List (Zb)) (Cb:Int),v4 = .int .i64 Cb∧aa (qc.l0 kq l0 jc Cb=some r)∧aa (kq ≤ k)∧aa (Kd.R fe 122 w' w.heap.size (fun _=>True) yy jc)∧aa (Below w.heap.size w w'))
   case atStart=>exact ⟨(ue),(0),daf,H',⟨Nat.le_refl _⟩,⟨by (with_reducible repeat (first|apply Kd.Ka|apply Kd.La|apply Kd.Sa));exact Xl.out⟩,⟨caf⟩⟩
   case round =>
    clear H'
    try clear c1
    try clear c2
    try clear Jm
    try clear Ro
    try clear p2
    try clear c3
    try clear Yg
    try clear Mp
    (try clear HA);(try clear Gf);(try clear Ub);(try clear HB);obtain ⟨jc,Cb,rfl,HA,Gf,Ub,HB⟩:=hrel;cases gk with
    | zero=>exact absurd HA.out (by simp [qc.l0])
    | succ k1 =>
     have H:=HA.out;clear HA;simp only [qc.l0] at H
     by_cases c6:Cb < (l0.length:Int)
     ·rw [if_pos c6] at H;have Xq:decide (Cb < (l0.length:Int))=true:=decide_eq_true c6;clear c6
      by_cases c7:0 ≤ Cb
      ·rw [if_pos c7] at H;have Zr:decide (0 ≤ Cb)=true:=decide_eq_true c7;clear c7;replace H:=Option.bind_eq_some_iff.mp H;obtain ⟨⟨t105,t106,t107,t108,t109,t110,t111⟩,BN,H⟩:=H;replace H:(if Cb < (jc.length:Int) then (qc.l0 k1 l0 (jc.set (Cb:Int).toNat (⟨t105,t106,t107,t108,t109,t110,t111⟩:Zb)) (wrap64 (Cb + 1))) else (none))=some r:=H;have A8:=aa.mk BN;clear BN
       by_cases c9:Cb < (jc.length:Int)
       ·rw [if_pos c9] at H;have X4:decide (Cb < (jc.length:Int))=true:=decide_eq_true c9;clear c9;obtain ⟨Eh,Gj⟩:∃ y_:List (Zb),y_=(jc.set (Cb:Int).toNat (⟨t105,t106,t107,t108,t109,t110,t111⟩:Zb)):=⟨_,rfl⟩;replace H:(qc.l0 k1 l0 Eh (wrap64 (Cb + 1)))=some r:=by first|(rw [Gj];with_reducible exact H)|(have Mc:=(Option.bind_some _ _).symm.trans H;rw [Gj];with_reducible exact Mc)|(have Mc:=(Option.bind_some _ _).symm.trans H;with_reducible exact Mc)|with_reducible exact H|(rw [Gj];exact H)|exact H
        have bt:=aa.mk Gj;clear Gj;have H':=aa.mk H;clear H;have Cu:0 ≤ (Cb:Int):=Ia;have Au:Cb < (l0.length:Int):=Ia;obtain ⟨MM,gI,vl,sq,rq,qq,pq,GC,FC⟩:=Kx xk.out Cb Cu Au;cases gI;replace vl:=Jb HB.out vl;replace sq:=Jb HB.out sq;replace rq:=Jb HB.out rq;replace qq:=Jb HB.out qq;replace pq:=Jb HB.out pq;replace GC:=Jb HB.out GC;replace FC:=Jb HB.out FC;replace Cu:=eq_true Cu;replace Au:=eq_true Au;go_wp2_with (first|((with_reducible refine Sb (f:=136) rfl ?_);refine Ke (some 20) rfl rfl Try.func136 (by kernel_rfl) rfl #[.agg #[.int .i64 ((Ib l0 Cb).f0),.int .i64 ((Ib l0 Cb).f1),.int .i64 ((Ib l0 Cb).f2),.int .i64 ((Ib l0 Cb).f3),.int .i64 ((Ib l0 Cb).f4),.int .i64 ((Ib l0 Cb).f5),.string ((Ib l0 Cb).f6)]] rfl baf ?_;(with_reducible refine (Hi.calls ((Ib l0 Cb).f0) ((Ib l0 Cb).f1) ((Ib l0 Cb).f2) ((Ib l0 Cb).f3) ((Ib l0 Cb).f4) ((Ib l0 Cb).f5) ((Ib l0 Cb).f6) t105 t106 t107 t108 t109 t110 t111 _ A8.out).mono ?_);rintro e cl ⟨rfl,hb⟩;refine ⟨_,rfl,?_⟩;have Kb:=aa.mk (Kd.Xb iaf hb);have Ob:=aa.mk (Fa Yae hb);clear Ub HB;have Ub:=Kb;have HB:=Ob;clear Kb Ob;(try clear hb);(try clear Vk);(try clear hk);(try clear hi);have Qy:0 ≤ (Cb:Int):=Ia;have Oy:(Cb:Int) < ((jc.length:Int):Int):=Ia;obtain ⟨qg,Yr,DB,UH,GP,W4,Hs⟩:=Kd.Uh Ub.out (by omega);(first|cases DB|(injection DB with qi Dt Et;(first|subst qi|(injection qi with qi;subst qi));subst Et;clear Dt));have Js:=aa.mk UH;have Y5:=aa.mk Hs;clear UH GP Hs;obtain ⟨uT,xz,Ez,Ah,zh⟩:=Kd.wh Ub.out Vh (Cb:Int) Qy Oy;obtain rfl:=Ce Ez;have VG:cl.cell? ⟨qg,(Cb:Int).toNat * 7,none⟩=some (.int .i64 ((oa jc Cb).f0)):=Ah 0 _ rfl;have UG:cl.cell? ⟨qg,(Cb:Int).toNat * 7 + 1,none⟩=some (.int .i64 ((oa jc Cb).f1)):=Ah 1 _ rfl;have SG:cl.cell? ⟨qg,(Cb:Int).toNat * 7 + 2,none⟩=some (.int .i64 ((oa jc Cb).f2)):=Ah 2 _ rfl;have RG:cl.cell? ⟨qg,(Cb:Int).toNat * 7 + 3,none⟩=some (.int .i64 ((oa jc Cb).f3)):=Ah 3 _ rfl;have QG:cl.cell? ⟨qg,(Cb:Int).toNat * 7 + 4,none⟩=some (.int .i64 ((oa jc Cb).f4)):=Ah 4 _ rfl;have yO:cl.cell? ⟨qg,(Cb:Int).toNat * 7 + 5,none⟩=some (.int .i64 ((oa jc Cb).f5)):=Ah 5 _ rfl;have xO:cl.cell? ⟨qg,(Cb:Int).toNat * 7 + 6,none⟩=some (.string ((oa jc Cb).f6)):=Ah 6 _ rfl;have wH:cl.frozen? ⟨qg,(Cb:Int).toNat * 7,none⟩=false:=zh 0;have vH:cl.frozen? ⟨qg,(Cb:Int).toNat * 7 + 1,none⟩=false:=zh 1;have uH:cl.frozen? ⟨qg,(Cb:Int).toNat * 7 + 2,none⟩=false:=zh 2;have tH:cl.frozen? ⟨qg,(Cb:Int).toNat * 7 + 3,none⟩=false:=zh 3;have sH:cl.frozen? ⟨qg,(Cb:Int).toNat * 7 + 4,none⟩=false:=zh 4;have mP:cl.frozen? ⟨qg,(Cb:Int).toNat * 7 + 5,none⟩=false:=zh 5;have lP:cl.frozen? ⟨qg,(Cb:Int).toNat * 7 + 6,none⟩=false:=zh 6;clear xz Ah zh Ez;replace Qy:=eq_true Qy;replace Oy:=eq_true Oy;have rL:=aa.mk (show Kd.R fe 122 cl w.heap.size (fun _=>True) (.slice (some ⟨qg,0,none⟩) jc.length Yr) jc from iaf);obtain ⟨rT,qw,Dz,gh,yh⟩:=Kd.wh rL.out Vh (Cb:Int) (Ia) (by have h_:(Cb:Int) < ((jc.length:Int):Int):=Ia;first|exact h_|(have e_:=(Kd.Wa Ub.out).1;omega)|simpa using h_);obtain rfl:=Ce Dz;have Av:=Kd.gp rL.out (Cb:Int) (Ia) (by have h_:(Cb:Int) < ((jc.length:Int):Int):=Ia;first|exact h_|(have e_:=(Kd.Wa Ub.out).1;omega)|simpa using h_) (seg:=[.int .i64 t105,.int .i64 t106,.int .i64 t107,.int .i64 t108,.int .i64 t109,.int .i64 t110,.string t111]) (j:=0) qw gh (show 7 ≤ 7 from by decide) (x':=(⟨t105,t106,t107,t108,t109,t110,t111⟩:Zb)) (Ji _ _ _ (⟨t105,t106,t107,t108,t109,t110,t111⟩:Zb) ) (fun _ hk=>hk);have Yw:=gh 0 _ rfl;(try simp only [show (fe).sz=7 from rfl,Nat.mul_one,Nat.add_zero] at Yw);have ox:=yh 0;(try simp only [show (fe).sz=7 from rfl,Nat.mul_one,Nat.add_zero] at ox);have Xw:=gh 1 _ rfl;(try simp only [show (fe).sz=7 from rfl,Nat.mul_one,Nat.add_zero] at Xw);have jx:=yh 1;(try simp only [show (fe).sz=7 from rfl,Nat.mul_one,Nat.add_zero] at jx);have Ww:=gh 2 _ rfl;(try simp only [show (fe).sz=7 from rfl,Nat.mul_one,Nat.add_zero] at Ww);have gx:=yh 2;(try simp only [show (fe).sz=7 from rfl,Nat.mul_one,Nat.add_zero] at gx);have Vw:=gh 3 _ rfl;(try simp only [show (fe).sz=7 from rfl,Nat.mul_one,Nat.add_zero] at Vw);have dx:=yh 3;(try simp only [show (fe).sz=7 from rfl,Nat.mul_one,Nat.add_zero] at dx);have Uw:=gh 4 _ rfl;(try simp only [show (fe).sz=7 from rfl,Nat.mul_one,Nat.add_zero] at Uw);have cx:=yh 4;(try simp only [show (fe).sz=7 from rfl,Nat.mul_one,Nat.add_zero] at cx);have PG:=gh 5 _ rfl;(try simp only [show (fe).sz=7 from rfl,Nat.mul_one,Nat.add_zero] at PG);have rH:=yh 5;(try simp only [show (fe).sz=7 from rfl,Nat.mul_one,Nat.add_zero] at rH);have OG:=gh 6 _ rfl;(try simp only [show (fe).sz=7 from rfl,Nat.mul_one,Nat.add_zero] at OG);have qH:=yh 6;(try simp only [show (fe).sz=7 from rfl,Nat.mul_one,Nat.add_zero] at qH);clear qw gh yh Dz)|((with_reducible refine Od (t:=122) (p:=21) rfl ?_);refine Uc (t:=122) (p:=21) (v:=?JN) (w1:=(((((((cl.setCell ⟨qg,(Cb:Int).toNat * 7,none⟩ (.int .i64 t105)).setCell ⟨qg,(Cb:Int).toNat * 7 + 1,none⟩ (.int .i64 t106)).setCell ⟨qg,(Cb:Int).toNat * 7 + 2,none⟩ (.int .i64 t107)).setCell ⟨qg,(Cb:Int).toNat * 7 + 3,none⟩ (.int .i64 t108)).setCell ⟨qg,(Cb:Int).toNat * 7 + 4,none⟩ (.int .i64 t109)).setCell ⟨qg,(Cb:Int).toNat * 7 + 5,none⟩ (.int .i64 t110)).setCell ⟨qg,(Cb:Int).toNat * 7 + 6,none⟩ (.string t111))) ?hg ?ho ?hn ?hr ?_;(case ho=>rfl);(case hg=>rfl);(case hn=>rfl);(case hr=>exact Vae);intro iy hw;have hg:cl.grownBy iy (some qg):=(by rw [hw];exact Av.2);have Si:Kd.R fe 122 iy w.heap.size (fun _=>True) (.slice (some ⟨qg,0,none⟩) jc.length Yr) Eh:=(by rw [hw,bt.out];exact Av.1);clear Av;have Kb:=aa.mk (Si);have Ob:=aa.mk ((by rw [hw];exact ya (ya (ya (ya (ya (ya (ya (HB.out) Js.out) Js.out) Js.out) Js.out) Js.out) Js.out) Js.out:Below w.heap.size w iy));clear Ub HB;have Ub:=Kb;have HB:=Ob;clear Kb Ob hg hw Si))
        go_roundg k1
        case measure=>have:=Gf.out;omega
        case rel=>exact ⟨(Eh),(wrap64 (Cb + 1)),daf,H',⟨by have:=Gf.out;omega⟩,⟨zaf⟩,⟨caf⟩⟩
       ·rw [if_neg c9] at H;exact absurd H (by simp)
      ·rw [if_neg c7] at H;exact absurd H (by simp)
     ·rw [if_neg c6] at H;have Xq:decide (Cb < (l0.length:Int))=false:=decide_eq_false c6;clear c6;obtain rfl:=Option.some.inj H;go_wp2;go_ret;exact ⟨_,eaf,zaf,caf⟩
  ·rw [if_neg c3] at H;exact absurd H (by simp)
 ·rw [if_neg c2] at H;exact absurd H (by simp)
def Ii.f (k:Nat) (Ma:List (Kj)) (Pa:Int) (Qa:Int) (Oa:Int) (Wc:Int):Option ((List (Zb)) × Int × Int × Int × Int):=(qc.f k Ma).bind fun t104=>(some (t104,Pa,Qa,Oa,Wc))
theorem Ii.calls (k:Nat) (Bb:Option Addr) (Ab:Nat) (Ma:List (Kj)) (Pa:Int) (Qa:Int) (Oa:Int) (Wc:Int) (r1:List (Zb)) (r2:Int) (r3:Int) (r4:Int) (r5:Int) (w:World) (od:Kd.C Hu w Bb Ma.length Ma) (Nd:Ma.length ≤ Ab) (h:Ii.f k Ma Pa Qa Oa Wc=some (r1,r2,r3,r4,r5)) :
  Calls Try.prog 103 #[.agg #[.slice Bb Ma.length Ab,.int .i64 Pa,.int .i64 Qa,.int .i64 Oa,.int .i64 Wc]] w fun e w'=>∃ zj:Value,e = .returned (.agg #[zj,.int .i64 r2,.int .i64 r3,.int .i64 r4,.int .i64 r5])∧Kd.R fe 122 w' w.heap.size (fun _=>True) zj r1∧Below w.heap.size w w':=by
 have YG:=Try.underlying106;have mB:=Try.underlying83;have Qg:=aa.mk od;have Sg:=aa.mk Nd;clear od Nd;have HB:=aa.mk (Below.refl w.heap.size w);have H:((qc.f k Ma).bind fun t104=>(some (t104,Pa,Qa,Oa,Wc)))=some (r1,r2,r3,r4,r5):=h;clear h;replace H:=Option.bind_eq_some_iff.mp H;obtain ⟨t104,tJ,H⟩:=H
 try dsimp only at H
 have A2:=aa.mk tJ;clear tJ;simp only [Option.some.injEq,Prod.mk.injEq] at H;obtain ⟨rfl,rfl,rfl,rfl,rfl⟩:=H;go_enter Try.func103,Try.ntmps103;go_wp2_with (first|((with_reducible refine Lb (N:=1) rfl ?_);refine Jc ?hg (N:=1) ?hd (cs:=#[.slice Bb Ma.length Ab,.int .i64 Pa,.int .i64 Qa,.int .i64 Oa,.int .i64 Wc]) (t:=106) ?hr ?_;(case hd|hg=>rfl);(case hr=>exact Vae);intro Ja hg w3 qd hb;have Kb:=aa.mk (Fa Yae hb);have Ob:=aa.mk (qd);have fc:=aa.mk ((by rw [hg];exact (Ra Yae):w.heap.size ≤ Ja));have Sc:=aa.mk ((by rw [hg];exact (Ra Yae):w.heap.size ≤ Ja));clear HB;have HB:=Kb;have ta:=Ob;have Af:=fc;have mb:=Sc;clear Kb Ob fc Sc hb qd hg)|((with_reducible refine Lb (N:=2) rfl ?_);refine Jc ?hg (N:=2) ?hd (cs:=#[.slice none 0 0,.int .i64 0,.int .i64 0,.int .i64 0,.int .i64 0]) (t:=83) ?hr ?_;(case hd|hg=>rfl);(case hr=>exact Vae);intro Pc hg w4 qd hb;have Kb:=aa.mk (Ua (g:=Ja) (o:=.cells #[.slice Bb Ma.length Ab,.int .i64 Pa,.int .i64 Qa,.int .i64 Oa,.int .i64 Wc] 106 (0,0)) Zae hb);have Ob:=aa.mk (Fa Xae hb);have fc:=aa.mk (qd);have Sc:=aa.mk ((by rw [hg];exact (Ra Xae):w.heap.size ≤ Pc));have uf:=aa.mk ((by rw [hg];exact (Ra Xae):w.heap.size ≤ Pc));have qh:=aa.mk ((by rw [hg];exact Nat.ne_of_lt (Le (g:=Ja) (o:=.cells #[.slice Bb Ma.length Ab,.int .i64 Pa,.int .i64 Qa,.int .i64 Oa,.int .i64 Wc] 106 (0,0)) Zae):Ja ≠ Pc));have Rs:=aa.mk ((by rw [hg];exact Nat.ne_of_gt (Le (g:=Ja) (o:=.cells #[.slice Bb Ma.length Ab,.int .i64 Pa,.int .i64 Qa,.int .i64 Oa,.int .i64 Wc] 106 (0,0)) Zae):Pc ≠ Ja));clear ta HB;have ta:=Kb;have HB:=Ob;have Qc:=fc;have zN:=Sc;have ni:=uf;have Wl:=qh;have Vl:=Rs;clear Kb Ob fc Sc uf qh Rs hb qd hg)|((with_reducible refine Lb (N:=3) rfl ?_);refine Jc ?hg (N:=3) ?hd (cs:=#[.slice none 0 0,.int .i64 0,.int .i64 0,.int .i64 0,.int .i64 0]) (t:=83) ?hr ?_;(case hd|hg=>rfl);(case hr=>exact Vae);intro Jd hg w5 qd hb;have Kb:=aa.mk (Ua (g:=Ja) (o:=.cells #[.slice Bb Ma.length Ab,.int .i64 Pa,.int .i64 Qa,.int .i64 Oa,.int .i64 Wc] 106 (0,0)) Zae hb);have Ob:=aa.mk (Ua (g:=Pc) (o:=.cells #[.slice none 0 0,.int .i64 0,.int .i64 0,.int .i64 0,.int .i64 0] 83 (0,0)) qaf hb);have fc:=aa.mk (Fa jaf hb);have Sc:=aa.mk (qd);have uf:=aa.mk ((by rw [hg];exact (Ra jaf):w.heap.size ≤ Jd));have qh:=aa.mk ((by rw [hg];exact (Ra jaf):w.heap.size ≤ Jd));have Rs:=aa.mk ((by rw [hg];exact Nat.ne_of_lt (Le (g:=Ja) (o:=.cells #[.slice Bb Ma.length Ab,.int .i64 Pa,.int .i64 Qa,.int .i64 Oa,.int .i64 Wc] 106 (0,0)) Zae):Ja ≠ Jd));have RL:=aa.mk ((by rw [hg];exact Nat.ne_of_gt (Le (g:=Ja) (o:=.cells #[.slice Bb Ma.length Ab,.int .i64 Pa,.int .i64 Qa,.int .i64 Oa,.int .i64 Wc] 106 (0,0)) Zae):Jd ≠ Ja));have QL:=aa.mk ((by rw [hg];exact Nat.ne_of_lt (Le (g:=Pc) (o:=.cells #[.slice none 0 0,.int .i64 0,.int .i64 0,.int .i64 0,.int .i64 0] 83 (0,0)) qaf):Pc ≠ Jd));have PL:=aa.mk ((by rw [hg];exact Nat.ne_of_gt (Le (g:=Pc) (o:=.cells #[.slice none 0 0,.int .i64 0,.int .i64 0,.int .i64 0,.int .i64 0] 83 (0,0)) qaf):Jd ≠ Pc));clear ta Qc HB;have ta:=Kb;have Qc:=Ob;have HB:=fc;have td:=Sc;have yN:=uf;have Zm:=qh;have Sh:=Rs;have Ul:=RL;have Qd:=QL;have Tl:=PL;clear Kb Ob fc Sc uf qh Rs RL QL PL hb qd hg;have G0:=Wl.out;have YZ:=Vl.out;have C0:=Sh.out;have XZ:=Ul.out;have Y1:w5.cell? ⟨Ja,0,none⟩=some (.slice Bb Ma.length Ab):=(qa ta.out 0).trans rfl;have X1:w5.cell? ⟨Ja,1,none⟩=some (.int .i64 Pa):=(qa ta.out 1).trans rfl;have V1:w5.cell? ⟨Ja,2,none⟩=some (.int .i64 Qa):=(qa ta.out 2).trans rfl;have U1:w5.cell? ⟨Ja,3,none⟩=some (.int .i64 Oa):=(qa ta.out 3).trans rfl;have T1:w5.cell? ⟨Ja,4,none⟩=some (.int .i64 Wc):=(qa ta.out 4).trans rfl;have W0:=Aa ta.out 0;have V0:=Aa ta.out 1;have U0:=Aa ta.out 2;have S0:=Aa ta.out 3;have Q0:=Aa ta.out 4)|((with_reducible refine Sb (f:=122) rfl ?_);refine Ke (some 6) rfl rfl Try.func122 (by kernel_rfl) rfl #[.slice Bb Ma.length Ab] rfl baf ?_;(with_reducible refine (qc.calls k _ _ Ma t104 _ ?Gd ?Ed A2.out).mono ?_);(case Gd=>repeat (first|exact (Kd.yb Qg.out HB.out)|(with_reducible refine Kd.ee ?_ _)|(with_reducible refine Kd.Zd ?_ _)|(with_reducible refine Kd.We ?_)));(case Ed=>exact Sg.out);rintro e w9 ⟨v105,rfl,uh,hb⟩;refine ⟨_,rfl,?_⟩;have Kb:=aa.mk (Kd.Xc uh (Ra oaf));have Ob:=aa.mk (Ua (g:=Ja) (o:=.cells #[.slice Bb Ma.length Ab,.int .i64 Pa,.int .i64 Qa,.int .i64 Oa,.int .i64 Wc] 106 (0,0)) Zae hb);have fc:=aa.mk (Ua (g:=Pc) (o:=.cells #[.slice none 0 0,.int .i64 0,.int .i64 0,.int .i64 0,.int .i64 0] 83 (0,0)) qaf hb);have Sc:=aa.mk (Ua (g:=Jd) (o:=.cells #[.slice none 0 0,.int .i64 0,.int .i64 0,.int .i64 0,.int .i64 0] 83 (0,0)) (by (with_reducible repeat (first|refine Da ?_ _|refine Ea ?_|refine Ca ?_ _));exact td.out) hb);have uf:=aa.mk (Fa oaf hb);clear ta Qc td HB;have vp:=Kb;have ta:=Ob;have Qc:=fc;have td:=Sc;have HB:=uf;clear Kb Ob fc Sc uf;(try clear hb);(try clear Vk);(try clear hk);(try clear hi);(try clear uh);obtain ⟨mC,Yr,DB⟩:=Kd.ic vp.out;subst DB;have N8:=Tl.out;have J8:=Qd.out;have Fm:w9.cell? ⟨Jd,0,none⟩=some (.slice none 0 0):=(qa td.out 0).trans rfl;have Em:w9.cell? ⟨Jd,1,none⟩=some (.int .i64 0):=(qa td.out 1).trans rfl;have Dm:w9.cell? ⟨Jd,2,none⟩=some (.int .i64 0):=(qa td.out 2).trans rfl;have Cm:w9.cell? ⟨Jd,3,none⟩=some (.int .i64 0):=(qa td.out 3).trans rfl;have Bm:w9.cell? ⟨Jd,4,none⟩=some (.int .i64 0):=(qa td.out 4).trans rfl;have Am:=Aa td.out 0;have zm:=Aa td.out 1;have ym:=Aa td.out 2;have xm:=Aa td.out 3;have wm:=Aa td.out 4;have iu:w9.cell? ⟨Ja,0,none⟩=some (.slice Bb Ma.length Ab):=(qa ta.out 0).trans rfl;have gu:w9.cell? ⟨Ja,1,none⟩=some (.int .i64 Pa):=(qa ta.out 1).trans rfl;have fu:w9.cell? ⟨Ja,2,none⟩=some (.int .i64 Qa):=(qa ta.out 2).trans rfl;have eu:w9.cell? ⟨Ja,3,none⟩=some (.int .i64 Oa):=(qa ta.out 3).trans rfl;have cu:w9.cell? ⟨Ja,4,none⟩=some (.int .i64 Wc):=(qa ta.out 4).trans rfl;have Wt:=Aa ta.out 0;have Vt:=Aa ta.out 1;have Ut:=Aa ta.out 2;have Tt:=Aa ta.out 3;have St:=Aa ta.out 4;have bu:w9.cell? ⟨Pc,0,none⟩=some (.slice none 0 0):=(qa Qc.out 0).trans rfl;have au:w9.cell? ⟨Pc,1,none⟩=some (.int .i64 0):=(qa Qc.out 1).trans rfl;have Zt:w9.cell? ⟨Pc,2,none⟩=some (.int .i64 0):=(qa Qc.out 2).trans rfl;have Yt:w9.cell? ⟨Pc,3,none⟩=some (.int .i64 0):=(qa Qc.out 3).trans rfl;have Xt:w9.cell? ⟨Pc,4,none⟩=some (.int .i64 0):=(qa Qc.out 4).trans rfl;have Rt:=Aa Qc.out 0;have Qt:=Aa Qc.out 1;have Pt:=Aa Qc.out 2;have Ot:=Aa Qc.out 3;have Nt:=Aa Qc.out 4));refine bodyPost_ret (results_cell_row rfl _ _ Pc 83 #[.slice mC t104.length Yr,.int .i64 Pa,.int .i64 Qa,.int .i64 Oa,.int .i64 Wc] (0,0) _ rfl (by (with_reducible repeat (first|refine Da ?_ _|refine Ea ?_|refine Ca ?_ _));refine Td (cs:=#[.slice mC t104.length Yr,.int .i64 Pa,.int .i64 Qa,.int .i64 Oa,.int .i64 0]) ?_ 4 _ rfl;(with_reducible repeat (first|refine Da ?_ _|refine Ea ?_|refine Ca ?_ _));refine Td (cs:=#[.slice mC t104.length Yr,.int .i64 Pa,.int .i64 Qa,.int .i64 0,.int .i64 0]) ?_ 3 _ rfl;(with_reducible repeat (first|refine Da ?_ _|refine Ea ?_|refine Ca ?_ _));refine Td (cs:=#[.slice mC t104.length Yr,.int .i64 Pa,.int .i64 0,.int .i64 0,.int .i64 0]) ?_ 2 _ rfl;(with_reducible repeat (first|refine Da ?_ _|refine Ea ?_|refine Ca ?_ _));refine Td (cs:=#[.slice mC t104.length Yr,.int .i64 0,.int .i64 0,.int .i64 0,.int .i64 0]) ?_ 1 _ rfl;(with_reducible repeat (first|refine Da ?_ _|refine Ea ?_|refine Ca ?_ _));refine Td (cs:=#[.slice none 0 0,.int .i64 0,.int .i64 0,.int .i64 0,.int .i64 0]) ?_ 0 _ rfl;(with_reducible repeat (first|refine Da ?_ _|refine Ea ?_|refine Ca ?_ _));refine Ld ?_ Qd.out _;(with_reducible repeat (first|refine Da ?_ _|refine Ea ?_|refine Ca ?_ _));refine Ld ?_ Qd.out _;(with_reducible repeat (first|refine Da ?_ _|refine Ea ?_|refine Ca ?_ _));refine Ld ?_ Qd.out _;(with_reducible repeat (first|refine Da ?_ _|refine Ea ?_|refine Ca ?_ _));refine Ld ?_ Qd.out _;(with_reducible repeat (first|refine Da ?_ _|refine Ea ?_|refine Ca ?_ _));refine Ld ?_ Qd.out _;(with_reducible repeat (first|refine Da ?_ _|refine Ea ?_|refine Ca ?_ _));exact Qc.out) Try.underlying83 rfl (by kernel_rfl)) rfl ?_;exact ⟨_,eaf,by (with_reducible repeat (first|apply Kd.Ka|apply Kd.La|apply Kd.Sa));exact Kd.Db (Kd.ei (p:=⟨Pc,4,none⟩) (Kd.ei (p:=⟨Pc,3,none⟩) (Kd.ei (p:=⟨Pc,2,none⟩) (Kd.ei (p:=⟨Pc,1,none⟩) (Kd.ei (p:=⟨Pc,0,none⟩) (Kd.ei (p:=⟨Jd,4,none⟩) (Kd.ei (p:=⟨Jd,3,none⟩) (Kd.ei (p:=⟨Jd,2,none⟩) (Kd.ei (p:=⟨Jd,1,none⟩) (Kd.ei (p:=⟨Jd,0,none⟩) (Kd.Om (Kd.Om vp.out td.out (by decide)) Qc.out (by decide)) (fun _ hk=>hk.1.2) (.slice mC t104.length Yr)) (fun _ hk=>hk.1.2) (.int .i64 Pa)) (fun _ hk=>hk.1.2) (.int .i64 Qa)) (fun _ hk=>hk.1.2) (.int .i64 Oa)) (fun _ hk=>hk.1.2) (.int .i64 Wc)) (fun _ hk=>hk.2) (.slice mC t104.length Yr)) (fun _ hk=>hk.2) (.int .i64 Pa)) (fun _ hk=>hk.2) (.int .i64 Qa)) (fun _ hk=>hk.2) (.int .i64 Oa)) (fun _ hk=>hk.2) (.int .i64 Wc)) (fun _ hk=>trivial),Iaf⟩
def xg.f (l0:List Int) (a1:Int):Option (Int):=if (wrap64 (a1 - (l0.length:Int))) < 0 then (some (-1)) else (some (wrap64 (a1 - (l0.length:Int))))
theorem xg.calls (A0:Option Addr) (c0:Nat) (l0:List Int) (a1:Int) (r:Int) (w:World) (Jh:Kd.C (Kd.int .i64) w A0 l0.length l0) (hc0:l0.length ≤ c0) (h:xg.f l0 a1=some r) :
  Calls Try.prog 51 #[.slice A0 l0.length c0,.int .i64 a1] w fun e w'=>e = .returned (.int .i64 r)∧Nb w w':=by
 have xk:=aa.mk Jh;have ey:=aa.mk hc0;clear Jh hc0;have H:(if (wrap64 (a1 - (l0.length:Int))) < 0 then (some (-1)) else (some (wrap64 (a1 - (l0.length:Int)))))=some r:=h;clear h
 by_cases c3:(wrap64 (a1 - (l0.length:Int))) < 0
 ·rw [if_pos c3] at H;have Yg:decide ((wrap64 (a1 - (l0.length:Int))) < 0)=true:=decide_eq_true c3;clear c3;obtain rfl:=Option.some.inj H;go_enter Try.func51,Try.ntmps51;go_wp2;go_ret;exact ⟨waf,kaf⟩
 ·rw [if_neg c3] at H;have Yg:decide ((wrap64 (a1 - (l0.length:Int))) < 0)=false:=decide_eq_false c3;clear c3;obtain rfl:=Option.some.inj H;go_enter Try.func51,Try.ntmps51;go_wp2;go_ret;exact ⟨waf,kaf⟩
def Ic.l0:Nat→List (Bi)→Int→Int→Option (Int)
 | 0,_,_,_=>none
 | k + 1,x0,x1,x5=>if x5 < (x0.length:Int) then (if 0 ≤ x5 then ((Ug.f k ((mc x0 x5).f0) ((mc x0 x5).f1) ((mc x0 x5).f2) ((mc x0 x5).f3) ((mc x0 x5).f4) x1).bind fun t102=>(if t102 < 0 then (some (-1)) else (Ic.l0 k x0 t102 (wrap64 (x5 + 1))))) else (none)) else (some x1)
def Ic.f (k:Nat) (l0:List (Bi)) (a1:Int):Option (Int):=if (wrap64 (a1 - (l0.length:Int))) < 0 then (some (-1)) else (Ic.l0 k l0 (wrap64 (a1 - (l0.length:Int))) 0)
theorem Ic.calls (k:Nat) (A0:Option Addr) (c0:Nat) (l0:List (Bi)) (a1:Int) (r:Int) (w:World) (Jh:Kd.C Iu w A0 l0.length l0) (hc0:l0.length ≤ c0) (h:Ic.f k l0 a1=some r) :
  Calls Try.prog 65 #[.slice A0 l0.length c0,.int .i64 a1] w fun e w'=>e = .returned (.int .i64 r)∧Below w.heap.size w w':=by
 have YG:=Try.underlying106;have xk:=aa.mk Jh;have ey:=aa.mk hc0;clear Jh hc0;have HB:=aa.mk (Below.refl w.heap.size w);have H:(if (wrap64 (a1 - (l0.length:Int))) < 0 then (some (-1)) else (Ic.l0 k l0 (wrap64 (a1 - (l0.length:Int))) 0))=some r:=h;clear h
 by_cases c3:(wrap64 (a1 - (l0.length:Int))) < 0
 ·rw [if_pos c3] at H;have Yg:decide ((wrap64 (a1 - (l0.length:Int))) < 0)=true:=decide_eq_true c3;clear c3;obtain rfl:=Option.some.inj H;go_enter Try.func65,Try.ntmps65;go_wp2;go_ret;exact ⟨eaf,caf⟩
 ·rw [if_neg c3] at H;have Yg:decide ((wrap64 (a1 - (l0.length:Int))) < 0)=false:=decide_eq_false c3;clear c3;have H':=aa.mk H;clear H;go_enter Try.func65,Try.ntmps65;go_wp2
  go_loopg [1,5] k (fun kq v1 v5 w'=>∃ (ld:Int) (Ba:Int),v1 = .int .i64 ld∧v5 = .int .i64 Ba∧aa (Ic.l0 kq l0 ld Ba=some r)∧aa (kq ≤ k)∧aa (Below w.heap.size w w'))
  case atStart=>exact ⟨(wrap64 (a1 - (l0.length:Int))),(0),daf,daf,H',⟨Nat.le_refl _⟩,⟨caf⟩⟩
  case round =>
   clear H'
   try clear p2
   try clear c3
   try clear Yg
   (try clear HA);(try clear Gf);(try clear HB);obtain ⟨ld,Ba,rfl,rfl,HA,Gf,HB⟩:=hrel;cases gk with
   | zero=>exact absurd HA.out (by simp [Ic.l0])
   | succ k1 =>
    have H:=HA.out;clear HA;simp only [Ic.l0] at H
    by_cases c4:Ba < (l0.length:Int)
    ·rw [if_pos c4] at H;have Yk:decide (Ba < (l0.length:Int))=true:=decide_eq_true c4;clear c4
     by_cases c5:0 ≤ Ba
     ·rw [if_pos c5] at H;have Yq:decide (0 ≤ Ba)=true:=decide_eq_true c5;clear c5;replace H:=Option.bind_eq_some_iff.mp H;obtain ⟨t102,CN,H⟩:=H
      try dsimp only at H
      have A6:=aa.mk CN;clear CN
      by_cases c7:t102 < 0
      ·rw [if_pos c7] at H;have Zr:decide (t102 < 0)=true:=decide_eq_true c7;clear c7;obtain rfl:=Option.some.inj H;have Pf:0 ≤ (Ba:Int):=Ia;have Nf:Ba < (l0.length:Int):=Ia;obtain ⟨Rl,nC,QB,bk,gf,Ri,Qi,Oi,Mi,zq,Bq⟩:=Lx xk.out Ba Pf Nf;cases bk;replace gf:=Jb HB.out gf;replace Ri:=Jb HB.out Ri;replace Qi:=Jb HB.out Qi;replace Oi:=Jb HB.out Oi;replace Mi:=Jb HB.out Mi;have Zx:=aa.mk Bq;have dy:=aa.mk zq;clear Bq zq;replace Pf:=eq_true Pf;replace Nf:=eq_true Nf;go_wp2_with (first|((with_reducible refine Sb (f:=100) rfl ?_);refine Ke (some 23) rfl rfl Try.func100 (by kernel_rfl) rfl #[.agg #[.slice nC ((mc l0 Ba).f0).length QB,.int .i64 ((mc l0 Ba).f1),.int .i64 ((mc l0 Ba).f2),.int .i64 ((mc l0 Ba).f3),.int .i64 ((mc l0 Ba).f4)],.int .i64 ld] rfl baf ?_;(with_reducible refine (Ug.calls k1 _ _ ((mc l0 Ba).f0) ((mc l0 Ba).f1) ((mc l0 Ba).f2) ((mc l0 Ba).f3) ((mc l0 Ba).f4) ld t102 _ ?Gd ?Ed A6.out).mono ?_);(case Gd=>repeat (first|exact (Kd.yb Zx.out HB.out)|(with_reducible refine Kd.ee ?_ _)|(with_reducible refine Kd.Zd ?_ _)|(with_reducible refine Kd.We ?_)));(case Ed=>exact dy.out);rintro e w8 ⟨rfl,hb⟩;refine ⟨_,rfl,?_⟩;have Kb:=aa.mk (Fa Yae hb);clear HB;have HB:=Kb;clear Kb;(try clear hb);(try clear Vk);(try clear hk);(try clear hi)));go_ret;exact ⟨eaf,caf⟩
      ·rw [if_neg c7] at H;have Zr:decide (t102 < 0)=false:=decide_eq_false c7;clear c7;have H':=aa.mk H;clear H;have Pf:0 ≤ (Ba:Int):=Ia;have Nf:Ba < (l0.length:Int):=Ia;obtain ⟨Rl,nC,QB,bk,gf,Ri,Qi,Oi,Mi,zq,Bq⟩:=Lx xk.out Ba Pf Nf;cases bk;replace gf:=Jb HB.out gf;replace Ri:=Jb HB.out Ri;replace Qi:=Jb HB.out Qi;replace Oi:=Jb HB.out Oi;replace Mi:=Jb HB.out Mi;have Zx:=aa.mk Bq;have dy:=aa.mk zq;clear Bq zq;replace Pf:=eq_true Pf;replace Nf:=eq_true Nf;go_wp2_with (first|((with_reducible refine Sb (f:=100) rfl ?_);refine Ke (some 23) rfl rfl Try.func100 (by kernel_rfl) rfl #[.agg #[.slice nC ((mc l0 Ba).f0).length QB,.int .i64 ((mc l0 Ba).f1),.int .i64 ((mc l0 Ba).f2),.int .i64 ((mc l0 Ba).f3),.int .i64 ((mc l0 Ba).f4)],.int .i64 ld] rfl baf ?_;(with_reducible refine (Ug.calls k1 _ _ ((mc l0 Ba).f0) ((mc l0 Ba).f1) ((mc l0 Ba).f2) ((mc l0 Ba).f3) ((mc l0 Ba).f4) ld t102 _ ?Gd ?Ed A6.out).mono ?_);(case Gd=>repeat (first|exact (Kd.yb Zx.out HB.out)|(with_reducible refine Kd.ee ?_ _)|(with_reducible refine Kd.Zd ?_ _)|(with_reducible refine Kd.We ?_)));(case Ed=>exact dy.out);rintro e w9 ⟨rfl,hb⟩;refine ⟨_,rfl,?_⟩;have Kb:=aa.mk (Fa Yae hb);clear HB;have HB:=Kb;clear Kb;(try clear hb);(try clear Vk);(try clear hk);(try clear hi)))
       go_roundg k1
       case measure=>have:=Gf.out;omega
       case rel=>exact ⟨(t102),(wrap64 (Ba + 1)),daf,daf,H',⟨by have:=Gf.out;omega⟩,⟨caf⟩⟩
     ·rw [if_neg c5] at H;exact absurd H (by simp)
    ·rw [if_neg c4] at H;have Yk:decide (Ba < (l0.length:Int))=false:=decide_eq_false c4;clear c4;obtain rfl:=Option.some.inj H;go_wp2;go_ret;exact ⟨eaf,caf⟩
def yg.f (k:Nat) (Ma:List Int) (Pa:Int) (Qa:Int) (Oa:Int) (za:List (Bi)) (a1:Int):Option (Int):=(xg.f Ma a1).bind fun t102=>(if t102 < 0 then (some (-1)) else ((Ic.f k za t102).bind fun t103=>(if t103 < 0 then (some (-1)) else (some t103))))
theorem yg.calls (k:Nat) (Bb:Option Addr) (Ab:Nat) (Ma:List Int) (Pa:Int) (Qa:Int) (Oa:Int) (Qb:Option Addr) (Gb:Nat) (za:List (Bi)) (a1:Int) (r:Int) (w:World) (od:Kd.C (Kd.int .i64) w Bb Ma.length Ma) (Nd:Ma.length ≤ Ab) (ze:Kd.C Iu w Qb za.length za) (Ve:za.length ≤ Gb) (h:yg.f k Ma Pa Qa Oa za a1=some r) :
  Calls Try.prog 25 #[.agg #[.slice Bb Ma.length Ab,.int .i64 Pa,.int .i64 Qa,.int .i64 Oa,.slice Qb za.length Gb],.int .i64 a1] w fun e w'=>e = .returned (.int .i64 r)∧Below w.heap.size w w':=by
 have MZ:=Try.underlying40;have Qg:=aa.mk od;have Sg:=aa.mk Nd;clear od Nd;have Ei:=aa.mk ze;have Uk:=aa.mk Ve;clear ze Ve;have HB:=aa.mk (Below.refl w.heap.size w);have H:((xg.f Ma a1).bind fun t102=>(if t102 < 0 then (some (-1)) else ((Ic.f k za t102).bind fun t103=>(if t103 < 0 then (some (-1)) else (some t103)))))=some r:=h;clear h;replace H:=Option.bind_eq_some_iff.mp H;obtain ⟨t102,wE,H⟩:=H
 try dsimp only at H
 have A3:=aa.mk wE;clear wE
 by_cases c4:t102 < 0
 ·rw [if_pos c4] at H;have Yk:decide (t102 < 0)=true:=decide_eq_true c4;clear c4;obtain rfl:=Option.some.inj H;go_enter Try.func25,Try.ntmps25;go_wp2_with (first|((with_reducible refine Lb (N:=2) rfl ?_);refine Jc ?hg (N:=2) ?hd (cs:=#[.slice Bb Ma.length Ab,.int .i64 Pa,.int .i64 Qa,.int .i64 Oa,.slice Qb za.length Gb]) (t:=40) ?hr ?_;(case hd|hg=>rfl);(case hr=>exact Vae);intro Ja hg w5 qd hb;have Kb:=aa.mk (Fa Yae hb);have Ob:=aa.mk (qd);have fc:=aa.mk ((by rw [hg];exact (Ra Yae):w.heap.size ≤ Ja));have Sc:=aa.mk ((by rw [hg];exact (Ra Yae):w.heap.size ≤ Ja));clear HB;have HB:=Kb;have ta:=Ob;have Af:=fc;have mb:=Sc;clear Kb Ob fc Sc hb qd hg;have Vr:w5.cell? ⟨Ja,0,none⟩=some (.slice Bb Ma.length Ab):=(qa ta.out 0).trans rfl;have Ur:w5.cell? ⟨Ja,1,none⟩=some (.int .i64 Pa):=(qa ta.out 1).trans rfl;have Tr:w5.cell? ⟨Ja,2,none⟩=some (.int .i64 Qa):=(qa ta.out 2).trans rfl;have Sr:w5.cell? ⟨Ja,3,none⟩=some (.int .i64 Oa):=(qa ta.out 3).trans rfl;have Qr:w5.cell? ⟨Ja,4,none⟩=some (.slice Qb za.length Gb):=(qa ta.out 4).trans rfl;have Nr:=Aa ta.out 0;have Mr:=Aa ta.out 1;have Lr:=Aa ta.out 2;have Kr:=Aa ta.out 3;have Jr:=Aa ta.out 4)|((with_reducible refine Sb (f:=51) rfl ?_);refine Ke (some 8) rfl rfl Try.func51 (by kernel_rfl) rfl #[.slice Bb Ma.length Ab,.int .i64 a1] rfl baf ?_;(with_reducible refine (xg.calls _ _ Ma a1 t102 _ ?Gd ?Ed A3.out).mono ?_);(case Gd=>repeat (first|exact (Kd.yb Qg.out HB.out)|(with_reducible refine Kd.ee ?_ _)|(with_reducible refine Kd.Zd ?_ _)|(with_reducible refine Kd.We ?_)));(case Ed=>exact Sg.out);rintro e w' ⟨rfl,⟨nd,rfl⟩⟩;refine ⟨_,rfl,?_⟩));go_ret;exact ⟨eaf,aaf⟩
 ·rw [if_neg c4] at H;have Yk:decide (t102 < 0)=false:=decide_eq_false c4;clear c4;replace H:=Option.bind_eq_some_iff.mp H;obtain ⟨t103,A70,H⟩:=H
  try dsimp only at H
  have A7:=aa.mk A70;clear A70
  by_cases c8:t103 < 0
  ·rw [if_pos c8] at H;have jQ:decide (t103 < 0)=true:=decide_eq_true c8;clear c8;obtain rfl:=Option.some.inj H;go_enter Try.func25,Try.ntmps25;go_wp2_with (first|((with_reducible refine Lb (N:=2) rfl ?_);refine Jc ?hg (N:=2) ?hd (cs:=#[.slice Bb Ma.length Ab,.int .i64 Pa,.int .i64 Qa,.int .i64 Oa,.slice Qb za.length Gb]) (t:=40) ?hr ?_;(case hd|hg=>rfl);(case hr=>exact Vae);intro Ja hg w9 qd hb;have Kb:=aa.mk (Fa Yae hb);have Ob:=aa.mk (qd);have fc:=aa.mk ((by rw [hg];exact (Ra Yae):w.heap.size ≤ Ja));have Sc:=aa.mk ((by rw [hg];exact (Ra Yae):w.heap.size ≤ Ja));clear HB;have HB:=Kb;have ta:=Ob;have Af:=fc;have mb:=Sc;clear Kb Ob fc Sc hb qd hg;have Nq:w9.cell? ⟨Ja,0,none⟩=some (.slice Bb Ma.length Ab):=(qa ta.out 0).trans rfl;have Mq:w9.cell? ⟨Ja,1,none⟩=some (.int .i64 Pa):=(qa ta.out 1).trans rfl;have Kq:w9.cell? ⟨Ja,2,none⟩=some (.int .i64 Qa):=(qa ta.out 2).trans rfl;have Jq:w9.cell? ⟨Ja,3,none⟩=some (.int .i64 Oa):=(qa ta.out 3).trans rfl;have Iq:w9.cell? ⟨Ja,4,none⟩=some (.slice Qb za.length Gb):=(qa ta.out 4).trans rfl;have Hq:=Aa ta.out 0;have Gq:=Aa ta.out 1;have Fq:=Aa ta.out 2;have Dq:=Aa ta.out 3;have Cq:=Aa ta.out 4)|((with_reducible refine Sb (f:=51) rfl ?_);refine Ke (some 8) rfl rfl Try.func51 (by kernel_rfl) rfl #[.slice Bb Ma.length Ab,.int .i64 a1] rfl baf ?_;(with_reducible refine (xg.calls _ _ Ma a1 t102 _ ?Gd ?Ed A3.out).mono ?_);(case Gd=>repeat (first|exact (Kd.yb Qg.out HB.out)|(with_reducible refine Kd.ee ?_ _)|(with_reducible refine Kd.Zd ?_ _)|(with_reducible refine Kd.We ?_)));(case Ed=>exact Sg.out);rintro e w' ⟨rfl,⟨nd,rfl⟩⟩;refine ⟨_,rfl,?_⟩)|((with_reducible refine Sb (f:=65) rfl ?_);refine Ke (some 14) rfl rfl Try.func65 (by kernel_rfl) rfl #[.slice Qb za.length Gb,.int .i64 t102] rfl baf ?_;(with_reducible refine (Ic.calls k _ _ za t102 t103 _ ?Gd ?Ed A7.out).mono ?_);(case Gd=>repeat (first|exact (Kd.yb Ei.out Xae)|(with_reducible refine Kd.ee ?_ _)|(with_reducible refine Kd.Zd ?_ _)|(with_reducible refine Kd.We ?_)));(case Ed=>exact Uk.out);rintro e cl ⟨rfl,hb⟩;refine ⟨_,rfl,?_⟩;have Kb:=aa.mk (Ua (g:=Ja) (o:=.cells #[.slice Bb Ma.length Ab,.int .i64 Pa,.int .i64 Qa,.int .i64 Oa,.slice Qb za.length Gb] 40 (0,0)) Zae hb);have Ob:=aa.mk (Fa Xae hb);clear ta HB;have ta:=Kb;have HB:=Ob;clear Kb Ob;(try clear hb);(try clear Vk);(try clear hk);(try clear hi)));go_ret;exact ⟨eaf,aaf⟩
  ·rw [if_neg c8] at H;have jQ:decide (t103 < 0)=false:=decide_eq_false c8;clear c8;obtain rfl:=Option.some.inj H;go_enter Try.func25,Try.ntmps25;go_wp2_with (first|((with_reducible refine Lb (N:=2) rfl ?_);refine Jc ?hg (N:=2) ?hd (cs:=#[.slice Bb Ma.length Ab,.int .i64 Pa,.int .i64 Qa,.int .i64 Oa,.slice Qb za.length Gb]) (t:=40) ?hr ?_;(case hd|hg=>rfl);(case hr=>exact Vae);intro Ja hg vu qd hb;have Kb:=aa.mk (Fa Yae hb);have Ob:=aa.mk (qd);have fc:=aa.mk ((by rw [hg];exact (Ra Yae):w.heap.size ≤ Ja));have Sc:=aa.mk ((by rw [hg];exact (Ra Yae):w.heap.size ≤ Ja));clear HB;have HB:=Kb;have ta:=Ob;have Af:=fc;have mb:=Sc;clear Kb Ob fc Sc hb qd hg;have iu:vu.cell? ⟨Ja,0,none⟩=some (.slice Bb Ma.length Ab):=(qa ta.out 0).trans rfl;have gu:vu.cell? ⟨Ja,1,none⟩=some (.int .i64 Pa):=(qa ta.out 1).trans rfl;have fu:vu.cell? ⟨Ja,2,none⟩=some (.int .i64 Qa):=(qa ta.out 2).trans rfl;have eu:vu.cell? ⟨Ja,3,none⟩=some (.int .i64 Oa):=(qa ta.out 3).trans rfl;have cu:vu.cell? ⟨Ja,4,none⟩=some (.slice Qb za.length Gb):=(qa ta.out 4).trans rfl;have Wt:=Aa ta.out 0;have Vt:=Aa ta.out 1;have Ut:=Aa ta.out 2;have Tt:=Aa ta.out 3;have St:=Aa ta.out 4)|((with_reducible refine Sb (f:=51) rfl ?_);refine Ke (some 8) rfl rfl Try.func51 (by kernel_rfl) rfl #[.slice Bb Ma.length Ab,.int .i64 a1] rfl baf ?_;(with_reducible refine (xg.calls _ _ Ma a1 t102 _ ?Gd ?Ed A3.out).mono ?_);(case Gd=>repeat (first|exact (Kd.yb Qg.out HB.out)|(with_reducible refine Kd.ee ?_ _)|(with_reducible refine Kd.Zd ?_ _)|(with_reducible refine Kd.We ?_)));(case Ed=>exact Sg.out);rintro e w' ⟨rfl,⟨nd,rfl⟩⟩;refine ⟨_,rfl,?_⟩)|((with_reducible refine Sb (f:=65) rfl ?_);refine Ke (some 14) rfl rfl Try.func65 (by kernel_rfl) rfl #[.slice Qb za.length Gb,.int .i64 t102] rfl baf ?_;(with_reducible refine (Ic.calls k _ _ za t102 t103 _ ?Gd ?Ed A7.out).mono ?_);(case Gd=>repeat (first|exact (Kd.yb Ei.out Xae)|(with_reducible refine Kd.ee ?_ _)|(with_reducible refine Kd.Zd ?_ _)|(with_reducible refine Kd.We ?_)));(case Ed=>exact Uk.out);rintro e RR ⟨rfl,hb⟩;refine ⟨_,rfl,?_⟩;have Kb:=aa.mk (Ua (g:=Ja) (o:=.cells #[.slice Bb Ma.length Ab,.int .i64 Pa,.int .i64 Qa,.int .i64 Oa,.slice Qb za.length Gb] 40 (0,0)) Zae hb);have Ob:=aa.mk (Fa Xae hb);clear ta HB;have ta:=Kb;have HB:=Ob;clear Kb Ob;(try clear hb);(try clear Vk);(try clear hk);(try clear hi)));go_ret;exact ⟨eaf,aaf⟩
def Vc.l0:Nat→List Int→List Int→Int→Option (List Int)
 | 0,_,_,_=>none
 | k + 1,x0,x3,x4=>if x4 < (x0.length:Int) then (if 0 ≤ x4 then (if x4 < (x3.length:Int) then (Vc.l0 k x0 (x3.set (x4:Int).toNat (rd x0 x4)) (wrap64 (x4 + 1))) else (none)) else (none)) else (some x3)
def Vc.f (k:Nat) (l0:List Int):Option (List Int):=if 0 ≤ (l0.length:Int) then (if ((l0.length:Int):Int).toNat ≤ 35184372088832 then (Vc.l0 k l0 (List.replicate ((l0.length:Int):Int).toNat 0) 0) else (none)) else (none)
theorem Vc.calls (k:Nat) (A0:Option Addr) (c0:Nat) (l0:List Int) (r:List Int) (w:World) (Jh:Kd.C (Kd.int .i64) w A0 l0.length l0) (hc0:l0.length ≤ c0) (h:Vc.f k l0=some r) :
  Calls Try.prog 56 #[.slice A0 l0.length c0] w fun e w'=>∃ zj:Value,e = .returned (zj)∧Kd.R (Kd.int .i64) 3 w' w.heap.size (fun _=>True) zj r∧Below w.heap.size w w':=by
 have xk:=aa.mk Jh;have ey:=aa.mk hc0;clear Jh hc0;have HB:=aa.mk (Below.refl w.heap.size w);have H:(if 0 ≤ (l0.length:Int) then (if ((l0.length:Int):Int).toNat ≤ 35184372088832 then (Vc.l0 k l0 (List.replicate ((l0.length:Int):Int).toNat 0) 0) else (none)) else (none))=some r:=h;clear h
 by_cases c2:0 ≤ (l0.length:Int)
 ·rw [if_pos c2] at H;have Jm:=eq_true c2;have Ro:decide (0 ≤ (l0.length:Int))=true:=decide_eq_true c2;clear c2
  by_cases c3:((l0.length:Int):Int).toNat ≤ 35184372088832
  ·rw [if_pos c3] at H;have Yg:=eq_true c3;have Mp:decide (((l0.length:Int):Int).toNat ≤ 35184372088832)=true:=decide_eq_true c3;clear c3;obtain ⟨ue,ye⟩:∃ y_:List Int,y_=(List.replicate ((l0.length:Int):Int).toNat 0):=⟨_,rfl⟩;replace H:(Vc.l0 k l0 ue 0)=some r:=by first|(rw [ye];with_reducible exact H)|(have Mc:=(Option.bind_some _ _).symm.trans H;rw [ye];with_reducible exact Mc)|(have Mc:=(Option.bind_some _ _).symm.trans H;with_reducible exact Mc)|with_reducible exact H|(rw [ye];exact H)|exact H
   have ki:=aa.mk ye;clear ye;have H':=aa.mk H;clear H;go_enter Try.func56,Try.ntmps56;go_wp2_with (first|((with_reducible refine Lb (N:=7) rfl ?_);refine Kd.Qp (Kd.int .i64) _ 3 rfl (N:=7) rfl 22 _ _ rfl (l0.length:Int) rfl rfl Try.underlying22 (.int .i64 0) 8 info3 rfl (by decide) (by omega) 0 (ok:=fun _=>True) (Ag:=fun _=>True) rfl (fun _ hk=>hk) trivial (Ia) (Nat.le_trans (Nat.mul_le_mul_right _ (Ia:(l0.length:Int).toNat ≤ 35184372088832)) (by omega)) (Below.refl _ _) (Nat.le_refl _) ?_;intro yy w4 fz hb Hl Je;clear Hl Je;(first|rw [← ki.out] at fz|(simp only [Int.reduceToNat] at fz;rw [← ki.out] at fz));have Kb:=aa.mk (Kd.Xc fz (Ra Yae));have Ob:=aa.mk (Fa Yae hb);clear HB;have Xl:=Kb;have HB:=Ob;clear Kb Ob hb fz))
   go_loopg [4] k (fun kq v4 w'=>∃ (jc:List Int) (Cb:Int),v4 = .int .i64 Cb∧aa (Vc.l0 kq l0 jc Cb=some r)∧aa (kq ≤ k)∧aa (Kd.R (Kd.int .i64) 3 w' w.heap.size (fun _=>True) yy jc)∧aa (Below w.heap.size w w'))
   case atStart=>exact ⟨(ue),(0),daf,H',⟨Nat.le_refl _⟩,⟨by (with_reducible repeat (first|apply Kd.Ka|apply Kd.La|apply Kd.Sa));exact Xl.out⟩,⟨caf⟩⟩
   case round =>
    clear H'
    try clear c2
    try clear Jm
    try clear Ro
    try clear p2
    try clear c3
    try clear Yg
    try clear Mp
    try clear c5
    (try clear HA);(try clear Gf);(try clear Ub);(try clear HB);obtain ⟨jc,Cb,rfl,HA,Gf,Ub,HB⟩:=hrel;cases gk with
    | zero=>exact absurd HA.out (by simp [Vc.l0])
    | succ k1 =>
     have H:=HA.out;clear HA;simp only [Vc.l0] at H
     by_cases c6:Cb < (l0.length:Int)
     ·rw [if_pos c6] at H;have Xq:decide (Cb < (l0.length:Int))=true:=decide_eq_true c6;clear c6
      by_cases c7:0 ≤ Cb
      ·rw [if_pos c7] at H;have Zr:decide (0 ≤ Cb)=true:=decide_eq_true c7;clear c7
       by_cases c8:Cb < (jc.length:Int)
       ·rw [if_pos c8] at H;have jQ:decide (Cb < (jc.length:Int))=true:=decide_eq_true c8;clear c8;obtain ⟨Yc,Ff⟩:∃ y_:List Int,y_=(jc.set (Cb:Int).toNat (rd l0 Cb)):=⟨_,rfl⟩;replace H:(Vc.l0 k1 l0 Yc (wrap64 (Cb + 1)))=some r:=by first|(rw [Ff];with_reducible exact H)|(have Mc:=(Option.bind_some _ _).symm.trans H;rw [Ff];with_reducible exact Mc)|(have Mc:=(Option.bind_some _ _).symm.trans H;with_reducible exact Mc)|with_reducible exact H|(rw [Ff];exact H)|exact H
        have zl:=aa.mk Ff;clear Ff;have H':=aa.mk H;clear H;have Cu:0 ≤ (Cb:Int):=Ia;have Au:Cb < (l0.length:Int):=Ia;obtain ⟨MM,gI,vl⟩:=Kd.Ud xk.out Cb Cu Au;cases gI;replace vl:=Jb HB.out vl;replace Cu:=eq_true Cu;replace Au:=eq_true Au;have p9:0 ≤ (Cb:Int):=Ia;have q9:(Cb:Int) < ((jc.length:Int):Int):=Ia;obtain ⟨j3,A_,cY,t_,gl9,cl9,uN⟩:=Kd.Uh Ub.out (by omega);(first|cases cY|(injection cY with qi Dt Et;(first|subst qi|(injection qi with qi;subst qi));subst Et;clear Dt));have GB9:=aa.mk t_;have GG9:=aa.mk uN;clear t_ gl9 uN;obtain ⟨MG,oH⟩:=Kd.Yf 0 Ub.out (Cb:Int) p9 q9;replace p9:=eq_true p9;replace q9:=eq_true q9;have YQ:=Kd.kj Ub.out (Cb:Int) (rd l0 Cb);go_wp2_with (first|((with_reducible refine Od (t:=3) (p:=20) rfl ?_);refine Uc (t:=3) (p:=20) (v:=?dZ) (w1:=(wr.setCell ⟨j3,(Cb:Int).toNat,none⟩ (.int .i64 (rd l0 Cb)))) ?hg ?ho ?hn ?hr ?_;(case ho=>rfl);(case hg=>rfl);(case hn=>rfl);(case hr=>exact Vae);intro cl hw;have hg:wr.grownBy cl (some j3):=(by rw [hw];exact YQ.2);have Si:Kd.R (Kd.int .i64) 3 cl w.heap.size (fun _=>True) (.slice (some ⟨j3,0,none⟩) jc.length A_) Yc:=(by rw [hw,zl.out];exact YQ.1);clear YQ;have Kb:=aa.mk (Si);have Ob:=aa.mk ((by rw [hw];exact ya (HB.out) GB9.out:Below w.heap.size w cl));clear Ub HB;have Ub:=Kb;have HB:=Ob;clear Kb Ob hg hw Si))
        go_roundg k1
        case measure=>have:=Gf.out;omega
        case rel=>exact ⟨(Yc),(wrap64 (Cb + 1)),daf,H',⟨by have:=Gf.out;omega⟩,⟨zaf⟩,⟨caf⟩⟩
       ·rw [if_neg c8] at H;exact absurd H (by simp)
      ·rw [if_neg c7] at H;exact absurd H (by simp)
     ·rw [if_neg c6] at H;have Xq:decide (Cb < (l0.length:Int))=false:=decide_eq_false c6;clear c6;obtain rfl:=Option.some.inj H;go_wp2;go_ret;exact ⟨_,eaf,zaf,caf⟩
  ·rw [if_neg c3] at H;exact absurd H (by simp)
 ·rw [if_neg c2] at H;exact absurd H (by simp)
end Go.Proofs.Ytoomcmaifgkkfaa.P
end
