import Derived.Test.YtoomcmaifgkkfaaQBelow1
import Derived.Test.YtoomcmaifgkkfaaQBelow3
import Derived.Shelf.Abstract
import Derived.Outline
import Derived.RegionTactic
import Derived.Deep.QuietTactic
import Derived.BigQuiet
import Derived.Test.YtoomcmaifgkkfaaQBelow2
set_option maxHeartbeats 8000000
set_option maxRecDepth 100000
section
namespace Go.Proofs.Ytoomcmaifgkkfaa.P
open Go.RowKit Go.Proofs.Ia.Qb Go.Proofs.Ia.Dd Go.Proofs.Ia.ze
set_option linter.unusedVariables false
set_option linter.unusedSimpArgs false
attribute [local go_sem] Eh Ch Ji Ii Jg Ig Dh Bh
def Mc.f (k:Nat) (l0:List ByteArray) (a1:ByteArray):Option (Bool):=(Ab.f k l0 a1).bind fun t101=>(some (decide (t101 ≥ 0)))
theorem Mc.mono:∀ a0 a1 k,Lh (Mc.f k a0 a1) (Mc.f (k + 1) a0 a1):=by
 intro a0 a1 k;unfold Mc.f
 repeat' first
   | (with_reducible exact Ab.mono _ _ _)
   | (with_reducible exact Lh.refl _)
   | (with_reducible exact Lh.none _)
   | (with_reducible refine Lh.ite ?_ ?_)
   | (with_reducible refine Lh.bind ?_ (fun _=>?_))
   | exact Ab.mono _ _ _
   | exact Lh.none _
   | refine Lh.ite ?_ ?_
   | refine Lh.bind ?_ (fun _=>?_)
theorem Mc.calls (k:Nat) (A0:Option Addr) (c0:Nat) (l0:List ByteArray) (a1:ByteArray) (r:Bool) (w:World) (aj:Kd.C Kd.string w A0 l0.length l0) (hc0:l0.length ≤ c0) (h:Mc.f k l0 a1=some r) :
  Calls Try.prog 154 #[.slice A0 l0.length c0,.string a1] w fun e w'=>e = .returned (.bool r)∧tc w w':=by
 have Pk:=ga.mk aj;have KE:=ga.mk hc0;clear aj hc0;have H:((Ab.f k l0 a1).bind fun t101=>(some (decide (t101 ≥ 0))))=some r:=h;clear h;replace H:=Option.bind_eq_some_iff.mp H;obtain ⟨t101,Ux,H⟩:=H;replace H:(some (decide (t101 ≥ 0)))=some r:=H;have A3:=ga.mk Ux;clear Ux;obtain rfl:=Option.some.inj H;go_enter Try.func154,Try.ntmps154;go_wp2_with (first|((with_reducible refine zb (f:=161) rfl ?_);refine Fc (some 7) rfl rfl Try.func161 (by kernel_rfl) rfl #[.slice A0 l0.length c0,.string a1] rfl (by (try simp only [List.map_toArray,List.map_cons,List.map_nil]);first|done|rfl|(simp only [List.length_drop,List.length_take];rfl)) ?_;(with_reducible refine (Ab.calls k _ _ l0 a1 t101 _ ?Ic ?Gc A3.out).mono ?_);(case Ic=>repeat (first|exact Pk.out|(with_reducible refine Kd.ec ?_ _)|(with_reducible refine Kd.dc ?_ _)|(with_reducible refine Kd.Dc ?_)));(case Gc=>exact KE.out);rintro e w' ⟨rfl,⟨nd,rfl⟩⟩;refine ⟨_,rfl,?_⟩));go_ret;exact ⟨by first|rfl|(simp;done)|(simp [*];done),by repeat (first|exact tc.refl _|apply tc.step)⟩
def Dl.f (k:Nat) (a0:ByteArray):Option (Bool):=(Mc.f k (([(⟨#[61,61]⟩:ByteArray),(⟨#[60]⟩:ByteArray),(⟨#[38]⟩:ByteArray),(⟨#[43]⟩:ByteArray),(⟨#[45]⟩:ByteArray),(⟨#[42]⟩:ByteArray)]:List ByteArray)) a0).bind fun t104=>(some t104)
theorem Dl.calls (k:Nat) (a0:ByteArray) (r:Bool) (w:World) (h:Dl.f k a0=some r) :
  Calls Try.prog 139 #[.string a0] w fun e w'=>e = .returned (.bool r)∧Below w.heap.size w w':=by
 have HB:=ga.mk (Below.refl w.heap.size w);have H:((Mc.f k (([(⟨#[61,61]⟩:ByteArray),(⟨#[60]⟩:ByteArray),(⟨#[38]⟩:ByteArray),(⟨#[43]⟩:ByteArray),(⟨#[45]⟩:ByteArray),(⟨#[42]⟩:ByteArray)]:List ByteArray)) a0).bind fun t104=>(some t104))=some r:=h;clear h;obtain ⟨Bf,Ef⟩:∃ y_:List ByteArray,y_=(([(⟨#[61,61]⟩:ByteArray),(⟨#[60]⟩:ByteArray),(⟨#[38]⟩:ByteArray),(⟨#[43]⟩:ByteArray),(⟨#[45]⟩:ByteArray),(⟨#[42]⟩:ByteArray)]:List ByteArray)):=⟨_,rfl⟩;replace H:((Mc.f k Bf a0).bind fun t104=>(some t104))=some r:=by first|(rw [Ef];with_reducible exact H)|(have Od:=(Option.bind_some _ _).symm.trans H;rw [Ef];with_reducible exact Od)|(have Od:=(Option.bind_some _ _).symm.trans H;with_reducible exact Od)|with_reducible exact H|(rw [Ef];exact H)|exact H
 have Bj:=ga.mk Ef;clear Ef;replace H:=Option.bind_eq_some_iff.mp H;obtain ⟨t104,bN,H⟩:=H;replace H:(some t104)=some r:=H;have A2:=ga.mk bN;clear bN;obtain rfl:=Option.some.inj H;go_enter Try.func139,Try.ntmps139;go_wp2_with (first|((with_reducible refine Db (N:=3) rfl ?_);refine Kd.Tk Kd.string _ 9 ?hg (N:=3) ?hd (xs:=([(⟨#[61,61]⟩:ByteArray),(⟨#[60]⟩:ByteArray),(⟨#[38]⟩:ByteArray),(⟨#[43]⟩:ByteArray),(⟨#[45]⟩:ByteArray),(⟨#[42]⟩:ByteArray)]:List ByteArray)) (inner:=[.string (⟨#[61,61]⟩:ByteArray),.string (⟨#[60]⟩:ByteArray),.string (⟨#[38]⟩:ByteArray),.string (⟨#[43]⟩:ByteArray),.string (⟨#[45]⟩:ByteArray),.string (⟨#[42]⟩:ByteArray)]) (ok:=fun _=>True) (Ah:=fun _=>True) ?hr ?hp (fun _ hk=>hk) trivial (Below.refl _ _) (Nat.le_refl _) (by simp) ?_;(case hd=>rfl);(case hg=>rfl);(case hr=>first|(go_simp;done)|(go_simp;rfl));(case hp=>exact (Ld.one (show Kd.M Kd.string _ _ _ (⟨#[61,61]⟩:ByteArray) [.string (⟨#[61,61]⟩:ByteArray)] from rfl) (Ld.one (show Kd.M Kd.string _ _ _ (⟨#[60]⟩:ByteArray) [.string (⟨#[60]⟩:ByteArray)] from rfl) (Ld.one (show Kd.M Kd.string _ _ _ (⟨#[38]⟩:ByteArray) [.string (⟨#[38]⟩:ByteArray)] from rfl) (Ld.one (show Kd.M Kd.string _ _ _ (⟨#[43]⟩:ByteArray) [.string (⟨#[43]⟩:ByteArray)] from rfl) (Ld.one (show Kd.M Kd.string _ _ _ (⟨#[45]⟩:ByteArray) [.string (⟨#[45]⟩:ByteArray)] from rfl) (Ld.one (show Kd.M Kd.string _ _ _ (⟨#[42]⟩:ByteArray) [.string (⟨#[42]⟩:ByteArray)] from rfl) (Ld.none _ _))))))));intro YE w3 MA hb Um Gf;clear Um Gf;(first|rw [← Bj.out] at MA|(simp only [Int.reduceToNat] at MA;rw [← Bj.out] at MA));have Jb:=ga.mk (Kd.Fe MA (La (by repeat (first|(with_reducible first|exact HB.out|apply oa|apply ia|apply qa)|exact HB.out))));have Ob:=ga.mk (Ra (by repeat (first|(with_reducible first|exact HB.out|apply oa|apply ia|apply qa)|exact HB.out)) hb);clear HB;have yp:=Jb;have HB:=Ob;clear Jb Ob hb MA;obtain ⟨Ao5,co5,tZ⟩:=Kd.xd yp.out;subst tZ)|((with_reducible refine zb (f:=154) rfl ?_);refine Fc (some 5) rfl rfl Try.func154 (by kernel_rfl) rfl #[.slice Ao5 Bf.length co5,.string a0] rfl (by (try simp only [List.map_toArray,List.map_cons,List.map_nil]);first|done|rfl|(simp only [List.length_drop,List.length_take];rfl)) ?_;(with_reducible refine (Mc.calls k _ _ Bf a0 t104 _ ?Ic ?Gc A2.out).mono ?_);(case Ic=>repeat (first|exact (Kd.Fb yp.out).2.2|(with_reducible refine Kd.ec ?_ _)|(with_reducible refine Kd.dc ?_ _)|(with_reducible refine Kd.Dc ?_)));(case Gc=>exact (Kd.Fb yp.out).2.1);rintro e w' ⟨rfl,⟨nd,rfl⟩⟩;refine ⟨_,rfl,?_⟩));go_ret;exact ⟨by first|rfl|(simp [Na,Ma] <;> rfl)|(simp [*,Na,Ma] <;> rfl),by repeat (first|(with_reducible first|exact HB.out|apply oa|apply ia|apply qa)|exact HB.out)⟩
def Sg.f (a0:Int) (a1:Int) (a2:Int):Option (Bool):=if a0 ≥ a1 then (some (decide (a0 ≤ a2))) else (some false)
theorem Sg.calls (a0:Int) (a1:Int) (a2:Int) (r:Bool) (w:World) (h:Sg.f a0 a1 a2=some r) :
  Calls Try.prog 94 #[.int .i64 a0,.int .i64 a1,.int .i64 a2] w fun e w'=>e = .returned (.bool r)∧tc w w':=by
 have H:(if a0 ≥ a1 then (some (decide (a0 ≤ a2))) else (some false))=some r:=h;clear h
 by_cases c4:a0 ≥ a1
 ·rw [if_pos c4] at H;have yj:decide (a1 ≤ a0)=true:=decide_eq_true c4;clear c4;obtain rfl:=Option.some.inj H;go_enter Try.func94,Try.ntmps94;go_wp2;go_ret;exact ⟨by first|rfl|(simp;done)|(simp [*];done),by repeat (first|exact tc.refl _|apply tc.step)⟩
 ·rw [if_neg c4] at H;have yj:decide (a1 ≤ a0)=false:=decide_eq_false c4;clear c4;obtain rfl:=Option.some.inj H;go_enter Try.func94,Try.ntmps94;go_wp2;go_ret;exact ⟨by first|rfl|(simp;done)|(simp [*];done),by repeat (first|exact tc.refl _|apply tc.step)⟩
theorem qF (g:Nat) (lb:Array Value) (p:Int→Bool) (eg:∀ args w,(callFunc g args).run Try.prog w = .ok (.enter g args) w) (A0:Option Addr) (c0:Nat) (l0:List Int) (w:World) (aj:Kd.C (Kd.int .i64) w A0 l0.length l0) (hc0:l0.length ≤ c0)
  (hp:∀ (W:World) (x:Int),Below w.heap.size w W→Calls Try.prog g (#[(.int .i64 x)] ++ lb) W fun e w'=>e = .returned (.bool (p x))∧Below W.heap.size W w') :
  Calls Try.prog 105 #[.slice A0 l0.length c0,.func (.func g) #[] lb] w fun e w'=>(∃ i:Int,e = .returned (.int .i64 i)∧decide (0 ≤ i)=l0.any p)∧Below w.heap.size w w':=by
 have Z5:=aj.2.1;have Pk:=ga.mk aj;have KE:=ga.mk hc0;have HP:=ga.mk hp;clear aj hc0 hp;go_enter Try.func105,Try.ntmps105;go_wp2
 go_loopg [5,8] l0.length (fun gg _ s8 wr=>∃ kk:Nat,kk ≤ l0.length∧l0.length - kk ≤ gg∧s8 = .int .i64 kk∧ga (Below w.heap.size w wr)∧ga ((l0.take kk).any p=false))
 case atStart=>exact ⟨0,Nat.zero_le _,by omega,rfl,⟨Below.refl _ w⟩,⟨by simp⟩⟩
 case round =>
  (try clear BW);(try clear HA);obtain ⟨kk,hkk,hg,rfl,BW,HA⟩:=hrel
  by_cases hlt:kk < l0.length
  ·have p1:0 ≤ (kk:Int):=by omega
   have q1:(kk:Int) < (l0.length:Int):=by omega
   obtain ⟨ad,e1,hx0⟩:=Kd.qf Pk.out (kk:Int) p1 q1;cases e1;simp only [Int.toNat_natCast] at hx0;replace hx0:=(BW.out.cell (World.block_lt_of_cell? w _ hx0)).trans hx0;have hcall:=HP.out wr (rd l0 (kk:Int)) BW.out;cases hq:p (rd l0 (kk:Int)) with
   | true =>
    rw [hq] at hcall;go_wp2_with (go_at_fn g;refine hcall.mono ?_;rintro e w1 ⟨rfl,Ap⟩);go_ret;exact ⟨⟨_,rfl,by rw [IL (d:=0) hlt hq];simp⟩,BW.out.trans (Ap.mono BW.out.size)⟩
   | false =>
    rw [hq] at hcall;go_wp2_with (go_at_fn g;refine hcall.mono ?_;rintro e w1 ⟨rfl,Ap⟩)
    go_roundg (l0.length - (kk + 1))
    case measure=>omega
    case rel=>exact ⟨kk + 1,by omega,by omega,by go_num,⟨BW.out.trans (Ap.mono BW.out.size)⟩,⟨Ro (d:=0) hlt HA.out hq⟩⟩
  ·have IY:¬ (kk:Int) < (l0.length:Int):=by omega
   have he:kk=l0.length:=by omega
   subst he;go_wp2;go_ret;exact ⟨⟨_,rfl,by have h_:=HA.out;rw [List.take_length] at h_;rw [h_];simp⟩,BW.out⟩
theorem jx (g:Nat) (lb:Array Value) (p:Int→Bool) (eg:∀ args w,(callFunc g args).run Try.prog w = .ok (.enter g args) w) (A0:Option Addr) (c0:Nat) (l0:List Int) (w:World) (aj:Kd.C (Kd.int .i64) w A0 l0.length l0) (hc0:l0.length ≤ c0)
  (hp:∀ (W:World) (x:Int),Below w.heap.size w W→Calls Try.prog g (#[(.int .i64 x)] ++ lb) W fun e w'=>e = .returned (.bool (p x))∧Below W.heap.size W w') :
  Calls Try.prog 115 #[.slice A0 l0.length c0,.func (.func g) #[] lb] w fun e w'=>e = .returned (.bool (l0.any p))∧Below w.heap.size w w':=by
 have HI:=ga.mk (qF g lb p eg A0 c0 l0 w aj hc0 hp);clear aj hc0 hp;go_enter Try.func115,Try.ntmps115;go_wp2_with (go_at_call 105;refine HI.out.mono ?_;rintro e w1 ⟨⟨i,rfl,hi⟩,Ap⟩;have HD:=ga.mk hi;clear hi);go_ret;exact ⟨by rw [← HD.out];first|rfl|simp,Ap⟩
def Di (a b c:Int):Bool:=decide (b ≤ a) && decide (a ≤ c)
theorem Sj (a b c:Int) (w:World):Calls Try.prog 94 #[.int .i64 a,.int .i64 b,.int .i64 c] w fun e w'=>e = .returned (.bool (Di a b c))∧tc w w' :=
 Sg.calls a b c (Di a b c) w (by
  unfold Sg.f Di
  by_cases h:a ≥ b
  ·rw [if_pos h];have h':b ≤ a:=h;simp [h']
  ·rw [if_neg h];have h':¬ b ≤ a:=h
   simp [h'])
def iu (l:List Int) (p v:Int):Bool:=Di (l.length:Int) 1 4 && !(l.any fun n=>!Di n 1 16) && Di p 0 (if v < 6 then v else 6) && decide (v ≤ 20)
theorem lF (W:World) (x:Int):Calls Try.prog 116 #[.int .i64 x] W fun e w'=>e = .returned (.bool (!Di x 1 16))∧Below W.heap.size W w':=by
 have HC:=ga.mk (Sj x 1 16);generalize Di x 1 16=b at HC ⊢;go_enter Try.func116,Try.ntmps116;go_wp2_with (go_at_call 94;refine (HC.out _).mono ?_;rintro e w1 ⟨rfl,Ap⟩;have HD:=ga.mk Ap.below;clear Ap);go_ret;exact ⟨rfl,HD.out⟩
theorem uE (p0 p1 p2 p3:Value) (A:Option Addr) (c:Nat) (w:World) :
  Calls Try.prog 117 #[.agg #[p0,p1,p2,p3],.slice A 0 c,.int .i64 0] w fun e w'=>e = .returned (.bool true)∧Below w.heap.size w w':=by
 go_enter Try.func117,Try.ntmps117;go_wp2
 go_loop [25] (fun i=>i = .int .i64 0) (fun _=>0)
 case atStart=>exact rfl
 case round =>
  obtain rfl:=hrel;go_wp2;go_ret;exact ⟨rfl,oa (oa (Below.refl _ _) _) _⟩
theorem IA (A0 A3:Option Addr) (c0 c3:Nat) (l0:List Int) (a1 a2:Int) (w:World) (aj:Kd.C (Kd.int .i64) w A0 l0.length l0) (hc0:l0.length ≤ c0) :
  Calls Try.prog 93 #[.agg #[.slice A0 l0.length c0,.int .i64 a1,.int .i64 a2,.slice A3 0 c3]] w fun e w'=>e = .returned (.bool (iu l0 a1 a2))∧Below w.heap.size w w':=by
 have eg:=enters_of Try.func116 (by kernel_rfl) rfl;have Z5:=aj.2.1;have C4:=ga.mk (Sj (l0.length:Int) 1 4);have BX:=ga.mk (Sj a1 0 (if a2 < 6 then a2 else 6));have HF:=ga.mk (fun (W:World) (hb:Below w.heap.size w W)=>jx 116 #[] (fun n=>!Di n 1 16) eg A0 c0 l0 W (Kd.Mb aj hb) hc0 (fun W x _=>lF W x));clear aj hc0;unfold iu
 by_cases h6:a2 < 6
 all_goals
  have hmin:min 6 a2=if a2 < 6 then a2 else 6:=by split <;> omega
  first|rw [if_pos h6] at BX hmin ⊢|rw [if_neg h6] at BX hmin ⊢
  cases Ap:Di (l0.length:Int) 1 4 with
  | false =>
   go_enter Try.func93,Try.ntmps93;go_wp2_with (first|(go_at_call 94;refine (Sj _ _ _ _).mono ?_;rintro e w1 ⟨rfl,⟨n,rfl⟩⟩));go_ret;exact ⟨rfl,ia (oa (Below.refl _ _) _) _⟩
  | true =>
   cases mj:(l0.any fun n=>!Di n 1 16) with
   | true =>
    rw [mj] at HF;go_enter Try.func93,Try.ntmps93;go_wp2_with (first|(go_at_call 94;refine (Sj _ _ _ _).mono ?_;rintro e w1 ⟨rfl,⟨n,rfl⟩⟩)|(go_at_call 115;refine (HF.out _ (ia (oa (Below.refl _ _) _) _)).mono ?_;rintro e w1 ⟨rfl,hb⟩;have HB:=ga.mk (Ra (ia (oa (Below.refl _ _) _) _) hb);clear hb));go_ret;exact ⟨rfl,HB.out⟩
   | false =>
    rw [mj] at HF;go_enter Try.func93,Try.ntmps93;go_wp2_with (first|(go_at_call 94;(with_reducible refine (Sj _ _ _ _).mono ?_);rintro e w1 ⟨rfl,⟨n,rfl⟩⟩)|(go_at_call 115;(with_reducible refine (HF.out _ (ia (oa (Below.refl _ _) _) _)).mono ?_);rintro e w1 ⟨rfl,hb⟩;have HB:=ga.mk (Ra (ia (oa (Below.refl _ _) _) _) hb);obtain ⟨MU,oT⟩:=PW hb;have cO:=hb.size;simp at cO;clear hb)|(go_at_call 117;(with_reducible refine (uE _ _ _ _ _ _ _).mono ?_);rintro e w2 ⟨rfl,hb⟩;have Wo:=ga.mk (Ra (ia HB.out _) hb);clear hb))
    all_goals
     go_ret
     first
      | exact ⟨by simp [*],Wo.out⟩
      | exact ⟨by simp [*],ia HB.out _⟩
def sg.f (Oa:List Int) (Ka:Int) (Pa:Int) (RH:List (Ax)):Option Bool:=if RH.length=0 then some (iu Oa Ka Pa) else none
theorem sg.calls (yb:Option Addr) (xb:Nat) (Oa:List Int) (Ka:Int) (Pa:Int) (K3:Option Addr) (S0:Nat) (RH:List (Ax)) (r:Bool) (w:World) (fe:Kd.C (Kd.int .i64) w yb Oa.length Oa) (Yd:Oa.length ≤ xb) (haq:Kd.C wal w K3 RH.length RH) (Aas:RH.length ≤ S0) (h:sg.f Oa Ka Pa RH=some r) :
  Calls Try.prog 93 #[.agg #[.slice yb Oa.length xb,.int .i64 Ka,.int .i64 Pa,.slice K3 RH.length S0]] w fun e w'=>e = .returned (.bool r)∧Below w.heap.size w w':=by
 unfold sg.f at h
 split at h
 ·rename_i h0;injection h with h
  subst h;rw [h0];exact IA yb K3 xb S0 Oa Ka Pa w fe Yd
 ·cases h
theorem sZ (d:Nat) (w:World) (x0 y0:Int) (x1 y1:Int) (x2 y2:Int) (x3 y3:Int) (x4 y4:Int) (x5 y5:Int) (x6 y6:ByteArray) :
  (Op.equalIn (d + 2) 122 (.agg #[.int .i64 x0,.int .i64 x1,.int .i64 x2,.int .i64 x3,.int .i64 x4,.int .i64 x5,.string x6]) (.agg #[.int .i64 y0,.int .i64 y1,.int .i64 y2,.int .i64 y3,.int .i64 y4,.int .i64 y5,.string y6])).run Try.prog w = .ok (x0 == y0 && (x1 == y1 && (x2 == y2 && (x3 == y3 && (x4 == y4 && (x5 == y5 && (x6.toList == y6.toList))))))) w:=by
 refine vP Try.underlying122 (by kernel_rfl) ?_;refine wj (by rfl) (by go_simp;rfl) (by go_simp;rfl) (by go_simp) ?_;refine wj (by rfl) (by go_simp;rfl) (by go_simp;rfl) (by go_simp) ?_;refine wj (by rfl) (by go_simp;rfl) (by go_simp;rfl) (by go_simp) ?_;refine wj (by rfl) (by go_simp;rfl) (by go_simp;rfl) (by go_simp) ?_;refine wj (by rfl) (by go_simp;rfl) (by go_simp;rfl) (by go_simp) ?_;refine wj (by rfl) (by go_simp;rfl) (by go_simp;rfl) (by go_simp) ?_;exact mG (by rfl) (by go_simp;rfl) (by go_simp;rfl) (by go_simp)
attribute [local go_sem high] sZ
def tH:List ByteArray:=[⟨#[61,61]⟩,⟨#[60]⟩,⟨#[38]⟩,⟨#[43]⟩,⟨#[45]⟩,⟨#[42]⟩]
def yu (s:ByteArray):Bool:=tH.any fun y=>decide (s.toList=y.toList)
theorem qM (s:ByteArray):Dl.f 8 s=some (yu s):=by
 unfold Dl.f Mc.f Ab.f yu tH;simp only [Ab.l0,List.any_cons,List.any_nil]
 by_cases h0:s.toList=[61,61]
 ·simp [lg,h0]
 by_cases h1:s.toList=[60]
 ·simp [lg,h1,wrap64]
 by_cases h2:s.toList=[38]
 ·simp [lg,h2,wrap64]
 by_cases h3:s.toList=[43]
 ·simp [lg,h3,wrap64]
 by_cases h4:s.toList=[45]
 ·simp [lg,h4,wrap64]
 by_cases h5:s.toList=[42]
 ·simp [lg,h5,wrap64]
 simp [lg,h0,h1,h2,h3,h4,h5,wrap64]
theorem SH (s:ByteArray) (w:World):Calls Try.prog 139 #[.string s] w fun e w'=>e = .returned (.bool (yu s))∧Below w.heap.size w w':=Dl.calls 8 s (yu s) w (qM s)
def Mk (slots s:Int):Bool:=decide (0 ≤ s) && decide (s < slots)
theorem Xi (B:Nat) (slots s:Int) (W:World) (hb3:W.cell? ⟨B,3,none⟩=some (.int .i64 slots)):Calls Try.prog 138 #[.int .i64 s,.pointer (some ⟨B,0,none⟩)] W fun e w'=>e = .returned (.bool (Mk slots s))∧W=w':=by
 unfold Mk
 by_cases h:0 ≤ s
 all_goals
  go_enter Try.func138,Try.ntmps138;go_wp2;go_ret;exact ⟨by simp [*];try omega,rfl⟩
theorem yM (A0 A4:Option Addr) (c0 c4 n0 n4:Nat) (p1 p2 slots d a b c n:Int) (t:ByteArray) (w:World) (hn0:n0 ≤ 9223372036854775807) (lB:n4 ≤ 9223372036854775807) :
  Calls Try.prog 125 #[.agg #[.slice A0 n0 c0,.int .i64 p1,.int .i64 p2,.int .i64 slots,.slice A4 n4 c4],.agg #[.int .i64 0,.int .i64 d,.int .i64 a,.int .i64 b,.int .i64 c,.int .i64 n,.string t]] w fun e w'=>e = .returned (.bool (Mk slots d && (a == 0 && (b == 0 && (c == 0 && t.toList.isEmpty)))))∧Below w.heap.size w w':=by
 obtain ⟨W1,Kf⟩:∃ W1,W1=(w.alloc (.cells #[.slice A0 n0 c0,.int .i64 p1,.int .i64 p2,.int .i64 slots,.slice A4 n4 c4] 45 (0,0))).alloc (.cells #[.int .i64 0,.int .i64 d,.int .i64 a,.int .i64 b,.int .i64 c,.int .i64 n,.string t] 122 (0,0)):=⟨_,rfl⟩;have HW:=ga.mk Kf;have HB:=ga.mk (show Below w.heap.size w W1 from by rw [Kf];exact oa (oa (Below.refl _ _) _) _);have hz:W1.heap.size=w.heap.size + 2:=by rw [Kf];simp
 have TQ:W1.cell? ⟨w.heap.size,3,none⟩=some (.int .i64 slots):=by rw [Kf];simp
 have hx0:W1.cell? ⟨w.heap.size + 1,0,none⟩=some (.int .i64 0):=by rw [Kf];simp
 have hx1:W1.cell? ⟨w.heap.size + 1,1,none⟩=some (.int .i64 d):=by rw [Kf];simp
 have hx2:W1.cell? ⟨w.heap.size + 1,2,none⟩=some (.int .i64 a):=by rw [Kf];simp
 have vu:W1.cell? ⟨w.heap.size + 1,3,none⟩=some (.int .i64 b):=by rw [Kf];simp
 have Uq:W1.cell? ⟨w.heap.size + 1,4,none⟩=some (.int .i64 c):=by rw [Kf];simp
 have eN:W1.cell? ⟨w.heap.size + 1,5,none⟩=some (.int .i64 n):=by rw [Kf];simp
 have SB:W1.cell? ⟨w.heap.size + 1,6,none⟩=some (.string t):=by rw [Kf];simp
 clear Kf;go_enter Try.func125,Try.ntmps125;go_wp2_with (first|(go_at_call 94;(with_reducible refine (Sj _ _ _ _).mono ?_);rintro e w1 ⟨rfl,⟨k1,rfl⟩⟩));rw [← HW.out];clear HW
 go_region
 all_goals go_wp2_with (first|(go_at_call 138;(refine (Xi _ slots _ _ ?hc).mono ?_);(case hc=>first|(go_simp;done)|(go_simp;rfl));rintro e w1 ⟨rfl,rfl⟩))
 all_goals go_ret
 all_goals exact ⟨by (try clear MU oT cO Wo);simp [*],by repeat (first|exact HB.out|(refine Ra ?_ Wo.out)|apply ia|apply qa|apply oa|refine ua ?_ (by first|omega|(simp;done)|(simp;omega)))⟩
theorem xM (A0 A4:Option Addr) (c0 c4 n0 n4:Nat) (p1 p2 slots d a b c n:Int) (t:ByteArray) (w:World) (hn0:n0 ≤ 9223372036854775807) (lB:n4 ≤ 9223372036854775807) :
  Calls Try.prog 125 #[.agg #[.slice A0 n0 c0,.int .i64 p1,.int .i64 p2,.int .i64 slots,.slice A4 n4 c4],.agg #[.int .i64 1,.int .i64 d,.int .i64 a,.int .i64 b,.int .i64 c,.int .i64 n,.string t]] w fun e w'=>e = .returned (.bool (Mk slots d && Mk slots a && (b == 0 && (c == 0 && (n == 0 && t.toList.isEmpty)))))∧Below w.heap.size w w':=by
 obtain ⟨W1,Kf⟩:∃ W1,W1=(w.alloc (.cells #[.slice A0 n0 c0,.int .i64 p1,.int .i64 p2,.int .i64 slots,.slice A4 n4 c4] 45 (0,0))).alloc (.cells #[.int .i64 1,.int .i64 d,.int .i64 a,.int .i64 b,.int .i64 c,.int .i64 n,.string t] 122 (0,0)):=⟨_,rfl⟩;have HW:=ga.mk Kf;have HB:=ga.mk (show Below w.heap.size w W1 from by rw [Kf];exact oa (oa (Below.refl _ _) _) _);have hz:W1.heap.size=w.heap.size + 2:=by rw [Kf];simp
 have TQ:W1.cell? ⟨w.heap.size,3,none⟩=some (.int .i64 slots):=by rw [Kf];simp
 have hx0:W1.cell? ⟨w.heap.size + 1,0,none⟩=some (.int .i64 1):=by rw [Kf];simp
 have hx1:W1.cell? ⟨w.heap.size + 1,1,none⟩=some (.int .i64 d):=by rw [Kf];simp
 have hx2:W1.cell? ⟨w.heap.size + 1,2,none⟩=some (.int .i64 a):=by rw [Kf];simp
 have vu:W1.cell? ⟨w.heap.size + 1,3,none⟩=some (.int .i64 b):=by rw [Kf];simp
 have Uq:W1.cell? ⟨w.heap.size + 1,4,none⟩=some (.int .i64 c):=by rw [Kf];simp
 have eN:W1.cell? ⟨w.heap.size + 1,5,none⟩=some (.int .i64 n):=by rw [Kf];simp
 have SB:W1.cell? ⟨w.heap.size + 1,6,none⟩=some (.string t):=by rw [Kf];simp
 clear Kf;go_enter Try.func125,Try.ntmps125;go_wp2_with (first|(go_at_call 94;(with_reducible refine (Sj _ _ _ _).mono ?_);rintro e w1 ⟨rfl,⟨k1,rfl⟩⟩));rw [← HW.out];clear HW
 go_region
 all_goals go_wp2_with (first|(go_at_call 138;(refine (Xi _ slots _ _ ?hc).mono ?_);(case hc=>first|(go_simp;done)|(go_simp;rfl));rintro e w1 ⟨rfl,rfl⟩))
 all_goals go_ret
 all_goals exact ⟨by (try clear MU oT cO Wo);simp [*],by repeat (first|exact HB.out|(refine Ra ?_ Wo.out)|apply ia|apply qa|apply oa|refine ua ?_ (by first|omega|(simp;done)|(simp;omega)))⟩
theorem wM (A0 A4:Option Addr) (c0 c4 n0 n4:Nat) (p1 p2 slots d a b c n:Int) (t:ByteArray) (w:World) (hn0:n0 ≤ 9223372036854775807) (lB:n4 ≤ 9223372036854775807) :
  Calls Try.prog 125 #[.agg #[.slice A0 n0 c0,.int .i64 p1,.int .i64 p2,.int .i64 slots,.slice A4 n4 c4],.agg #[.int .i64 2,.int .i64 d,.int .i64 a,.int .i64 b,.int .i64 c,.int .i64 n,.string t]] w fun e w'=>e = .returned (.bool (Mk slots d && Mk slots a && Mk slots b && yu t && (c == 0 && n == 0)))∧Below w.heap.size w w':=by
 obtain ⟨W1,Kf⟩:∃ W1,W1=(w.alloc (.cells #[.slice A0 n0 c0,.int .i64 p1,.int .i64 p2,.int .i64 slots,.slice A4 n4 c4] 45 (0,0))).alloc (.cells #[.int .i64 2,.int .i64 d,.int .i64 a,.int .i64 b,.int .i64 c,.int .i64 n,.string t] 122 (0,0)):=⟨_,rfl⟩;have HW:=ga.mk Kf;have HB:=ga.mk (show Below w.heap.size w W1 from by rw [Kf];exact oa (oa (Below.refl _ _) _) _);have hz:W1.heap.size=w.heap.size + 2:=by rw [Kf];simp
 have TQ:W1.cell? ⟨w.heap.size,3,none⟩=some (.int .i64 slots):=by rw [Kf];simp
 have hx0:W1.cell? ⟨w.heap.size + 1,0,none⟩=some (.int .i64 2):=by rw [Kf];simp
 have hx1:W1.cell? ⟨w.heap.size + 1,1,none⟩=some (.int .i64 d):=by rw [Kf];simp
 have hx2:W1.cell? ⟨w.heap.size + 1,2,none⟩=some (.int .i64 a):=by rw [Kf];simp
 have vu:W1.cell? ⟨w.heap.size + 1,3,none⟩=some (.int .i64 b):=by rw [Kf];simp
 have Uq:W1.cell? ⟨w.heap.size + 1,4,none⟩=some (.int .i64 c):=by rw [Kf];simp
 have eN:W1.cell? ⟨w.heap.size + 1,5,none⟩=some (.int .i64 n):=by rw [Kf];simp
 have SB:W1.cell? ⟨w.heap.size + 1,6,none⟩=some (.string t):=by rw [Kf];simp
 clear Kf;go_enter Try.func125,Try.ntmps125;go_wp2_with (first|(go_at_call 94;(with_reducible refine (Sj _ _ _ _).mono ?_);rintro e w1 ⟨rfl,⟨k1,rfl⟩⟩));rw [← HW.out];clear HW
 go_region
 all_goals go_wp2_with (first|(go_at_call 138;(refine (Xi _ slots _ _ ?hc).mono ?_);(case hc=>first|(go_simp;done)|(go_simp;rfl));rintro e w1 ⟨rfl,rfl⟩)|(go_at_call 139;(with_reducible refine (SH _ _).mono ?_);rintro e w2 ⟨rfl,mj⟩;have Wo:=ga.mk mj;obtain ⟨MU,oT⟩:=PW mj;have cO:=mj.size;simp at cO;clear mj))
 all_goals go_ret
 all_goals exact ⟨by (try clear MU oT cO Wo);simp [*],by repeat (first|exact HB.out|(refine Ra ?_ Wo.out)|apply ia|apply qa|apply oa|refine ua ?_ (by first|omega|(simp;done)|(simp;omega)))⟩
theorem vM (A0 A4:Option Addr) (c0 c4 n0 n4:Nat) (p1 p2 slots d a b c n:Int) (t:ByteArray) (w:World) (hn0:n0 ≤ 9223372036854775807) (lB:n4 ≤ 9223372036854775807) :
  Calls Try.prog 125 #[.agg #[.slice A0 n0 c0,.int .i64 p1,.int .i64 p2,.int .i64 slots,.slice A4 n4 c4],.agg #[.int .i64 3,.int .i64 d,.int .i64 a,.int .i64 b,.int .i64 c,.int .i64 n,.string t]] w fun e w'=>e = .returned (.bool (Mk slots d && Mk slots b && Di n 0 ((n0:Int) - 1) && (Mk slots a || a == -1) && (c == 0 && t.toList.isEmpty)))∧Below w.heap.size w w':=by
 obtain ⟨W1,Kf⟩:∃ W1,W1=(w.alloc (.cells #[.slice A0 n0 c0,.int .i64 p1,.int .i64 p2,.int .i64 slots,.slice A4 n4 c4] 45 (0,0))).alloc (.cells #[.int .i64 3,.int .i64 d,.int .i64 a,.int .i64 b,.int .i64 c,.int .i64 n,.string t] 122 (0,0)):=⟨_,rfl⟩;have HW:=ga.mk Kf;have HB:=ga.mk (show Below w.heap.size w W1 from by rw [Kf];exact oa (oa (Below.refl _ _) _) _);have hz:W1.heap.size=w.heap.size + 2:=by rw [Kf];simp
 have TQ:W1.cell? ⟨w.heap.size,3,none⟩=some (.int .i64 slots):=by rw [Kf];simp
 have hx0:W1.cell? ⟨w.heap.size + 1,0,none⟩=some (.int .i64 3):=by rw [Kf];simp
 have hx1:W1.cell? ⟨w.heap.size + 1,1,none⟩=some (.int .i64 d):=by rw [Kf];simp
 have hx2:W1.cell? ⟨w.heap.size + 1,2,none⟩=some (.int .i64 a):=by rw [Kf];simp
 have vu:W1.cell? ⟨w.heap.size + 1,3,none⟩=some (.int .i64 b):=by rw [Kf];simp
 have Uq:W1.cell? ⟨w.heap.size + 1,4,none⟩=some (.int .i64 c):=by rw [Kf];simp
 have eN:W1.cell? ⟨w.heap.size + 1,5,none⟩=some (.int .i64 n):=by rw [Kf];simp
 have SB:W1.cell? ⟨w.heap.size + 1,6,none⟩=some (.string t):=by rw [Kf];simp
 clear Kf;go_enter Try.func125,Try.ntmps125;go_wp2_with (first|(go_at_call 94;(with_reducible refine (Sj _ _ _ _).mono ?_);rintro e w1 ⟨rfl,⟨k1,rfl⟩⟩));rw [← HW.out];clear HW
 go_region
 all_goals go_wp2_with (first|(go_at_call 138;(refine (Xi _ slots _ _ ?hc).mono ?_);(case hc=>first|(go_simp;done)|(go_simp;rfl));rintro e w1 ⟨rfl,rfl⟩))
 all_goals go_ret
 all_goals exact ⟨by (try clear MU oT cO Wo);simp [*],by repeat (first|exact HB.out|(refine Ra ?_ Wo.out)|apply ia|apply qa|apply oa|refine ua ?_ (by first|omega|(simp;done)|(simp;omega)))⟩
theorem uM (A0 A4:Option Addr) (c0 c4 n0 n4:Nat) (p1 p2 slots d a b c n:Int) (t:ByteArray) (w:World) (hn0:n0 ≤ 9223372036854775807) (lB:n4 ≤ 9223372036854775807) :
  Calls Try.prog 125 #[.agg #[.slice A0 n0 c0,.int .i64 p1,.int .i64 p2,.int .i64 slots,.slice A4 n4 c4],.agg #[.int .i64 4,.int .i64 d,.int .i64 a,.int .i64 b,.int .i64 c,.int .i64 n,.string t]] w fun e w'=>e = .returned (.bool (Mk slots c && Mk slots b && Di n 0 ((n0:Int) - 1) && (Mk slots a || a == -1) && (d == 0 && t.toList.isEmpty)))∧Below w.heap.size w w':=by
 obtain ⟨W1,Kf⟩:∃ W1,W1=(w.alloc (.cells #[.slice A0 n0 c0,.int .i64 p1,.int .i64 p2,.int .i64 slots,.slice A4 n4 c4] 45 (0,0))).alloc (.cells #[.int .i64 4,.int .i64 d,.int .i64 a,.int .i64 b,.int .i64 c,.int .i64 n,.string t] 122 (0,0)):=⟨_,rfl⟩;have HW:=ga.mk Kf;have HB:=ga.mk (show Below w.heap.size w W1 from by rw [Kf];exact oa (oa (Below.refl _ _) _) _);have hz:W1.heap.size=w.heap.size + 2:=by rw [Kf];simp
 have TQ:W1.cell? ⟨w.heap.size,3,none⟩=some (.int .i64 slots):=by rw [Kf];simp
 have hx0:W1.cell? ⟨w.heap.size + 1,0,none⟩=some (.int .i64 4):=by rw [Kf];simp
 have hx1:W1.cell? ⟨w.heap.size + 1,1,none⟩=some (.int .i64 d):=by rw [Kf];simp
 have hx2:W1.cell? ⟨w.heap.size + 1,2,none⟩=some (.int .i64 a):=by rw [Kf];simp
 have vu:W1.cell? ⟨w.heap.size + 1,3,none⟩=some (.int .i64 b):=by rw [Kf];simp
 have Uq:W1.cell? ⟨w.heap.size + 1,4,none⟩=some (.int .i64 c):=by rw [Kf];simp
 have eN:W1.cell? ⟨w.heap.size + 1,5,none⟩=some (.int .i64 n):=by rw [Kf];simp
 have SB:W1.cell? ⟨w.heap.size + 1,6,none⟩=some (.string t):=by rw [Kf];simp
 clear Kf;go_enter Try.func125,Try.ntmps125;go_wp2_with (first|(go_at_call 94;(with_reducible refine (Sj _ _ _ _).mono ?_);rintro e w1 ⟨rfl,⟨k1,rfl⟩⟩));rw [← HW.out];clear HW
 go_region
 all_goals go_wp2_with (first|(go_at_call 138;(refine (Xi _ slots _ _ ?hc).mono ?_);(case hc=>first|(go_simp;done)|(go_simp;rfl));rintro e w1 ⟨rfl,rfl⟩))
 all_goals go_ret
 all_goals exact ⟨by (try clear MU oT cO Wo);simp [*],by repeat (first|exact HB.out|(refine Ra ?_ Wo.out)|apply ia|apply qa|apply oa|refine ua ?_ (by first|omega|(simp;done)|(simp;omega)))⟩
theorem sM (A0 A4:Option Addr) (c0 c4 n0 n4:Nat) (p1 p2 slots d a b c n:Int) (t:ByteArray) (w:World) (hn0:n0 ≤ 9223372036854775807) (lB:n4 ≤ 9223372036854775807) :
  Calls Try.prog 125 #[.agg #[.slice A0 n0 c0,.int .i64 p1,.int .i64 p2,.int .i64 slots,.slice A4 n4 c4],.agg #[.int .i64 5,.int .i64 d,.int .i64 a,.int .i64 b,.int .i64 c,.int .i64 n,.string t]] w fun e w'=>e = .returned (.bool (Mk slots d && (a == 0 && (b == 0 && (c == 0 && (n == 0 && t.toList.isEmpty))))))∧Below w.heap.size w w':=by
 obtain ⟨W1,Kf⟩:∃ W1,W1=(w.alloc (.cells #[.slice A0 n0 c0,.int .i64 p1,.int .i64 p2,.int .i64 slots,.slice A4 n4 c4] 45 (0,0))).alloc (.cells #[.int .i64 5,.int .i64 d,.int .i64 a,.int .i64 b,.int .i64 c,.int .i64 n,.string t] 122 (0,0)):=⟨_,rfl⟩;have HW:=ga.mk Kf;have HB:=ga.mk (show Below w.heap.size w W1 from by rw [Kf];exact oa (oa (Below.refl _ _) _) _);have hz:W1.heap.size=w.heap.size + 2:=by rw [Kf];simp
 have TQ:W1.cell? ⟨w.heap.size,3,none⟩=some (.int .i64 slots):=by rw [Kf];simp
 have hx0:W1.cell? ⟨w.heap.size + 1,0,none⟩=some (.int .i64 5):=by rw [Kf];simp
 have hx1:W1.cell? ⟨w.heap.size + 1,1,none⟩=some (.int .i64 d):=by rw [Kf];simp
 have hx2:W1.cell? ⟨w.heap.size + 1,2,none⟩=some (.int .i64 a):=by rw [Kf];simp
 have vu:W1.cell? ⟨w.heap.size + 1,3,none⟩=some (.int .i64 b):=by rw [Kf];simp
 have Uq:W1.cell? ⟨w.heap.size + 1,4,none⟩=some (.int .i64 c):=by rw [Kf];simp
 have eN:W1.cell? ⟨w.heap.size + 1,5,none⟩=some (.int .i64 n):=by rw [Kf];simp
 have SB:W1.cell? ⟨w.heap.size + 1,6,none⟩=some (.string t):=by rw [Kf];simp
 clear Kf;go_enter Try.func125,Try.ntmps125;go_wp2_with (first|(go_at_call 94;(with_reducible refine (Sj _ _ _ _).mono ?_);rintro e w1 ⟨rfl,⟨k1,rfl⟩⟩));rw [← HW.out];clear HW
 go_region
 all_goals go_wp2_with (first|(go_at_call 138;(refine (Xi _ slots _ _ ?hc).mono ?_);(case hc=>first|(go_simp;done)|(go_simp;rfl));rintro e w1 ⟨rfl,rfl⟩))
 all_goals go_ret
 all_goals exact ⟨by (try clear MU oT cO Wo);simp [*],by repeat (first|exact HB.out|(refine Ra ?_ Wo.out)|apply ia|apply qa|apply oa|refine ua ?_ (by first|omega|(simp;done)|(simp;omega)))⟩
theorem rM (A0 A4:Option Addr) (c0 c4 n0 n4:Nat) (p1 p2 slots d a b c n:Int) (t:ByteArray) (w:World) (hn0:n0 ≤ 9223372036854775807) (lB:n4 ≤ 9223372036854775807) :
  Calls Try.prog 125 #[.agg #[.slice A0 n0 c0,.int .i64 p1,.int .i64 p2,.int .i64 slots,.slice A4 n4 c4],.agg #[.int .i64 6,.int .i64 d,.int .i64 a,.int .i64 b,.int .i64 c,.int .i64 n,.string t]] w fun e w'=>e = .returned (.bool (Mk slots a && (d == 0 && (b == 0 && (c == 0 && (n == 0 && t.toList.isEmpty))))))∧Below w.heap.size w w':=by
 obtain ⟨W1,Kf⟩:∃ W1,W1=(w.alloc (.cells #[.slice A0 n0 c0,.int .i64 p1,.int .i64 p2,.int .i64 slots,.slice A4 n4 c4] 45 (0,0))).alloc (.cells #[.int .i64 6,.int .i64 d,.int .i64 a,.int .i64 b,.int .i64 c,.int .i64 n,.string t] 122 (0,0)):=⟨_,rfl⟩;have HW:=ga.mk Kf;have HB:=ga.mk (show Below w.heap.size w W1 from by rw [Kf];exact oa (oa (Below.refl _ _) _) _);have hz:W1.heap.size=w.heap.size + 2:=by rw [Kf];simp
 have TQ:W1.cell? ⟨w.heap.size,3,none⟩=some (.int .i64 slots):=by rw [Kf];simp
 have hx0:W1.cell? ⟨w.heap.size + 1,0,none⟩=some (.int .i64 6):=by rw [Kf];simp
 have hx1:W1.cell? ⟨w.heap.size + 1,1,none⟩=some (.int .i64 d):=by rw [Kf];simp
 have hx2:W1.cell? ⟨w.heap.size + 1,2,none⟩=some (.int .i64 a):=by rw [Kf];simp
 have vu:W1.cell? ⟨w.heap.size + 1,3,none⟩=some (.int .i64 b):=by rw [Kf];simp
 have Uq:W1.cell? ⟨w.heap.size + 1,4,none⟩=some (.int .i64 c):=by rw [Kf];simp
 have eN:W1.cell? ⟨w.heap.size + 1,5,none⟩=some (.int .i64 n):=by rw [Kf];simp
 have SB:W1.cell? ⟨w.heap.size + 1,6,none⟩=some (.string t):=by rw [Kf];simp
 clear Kf;go_enter Try.func125,Try.ntmps125;go_wp2_with (first|(go_at_call 94;(with_reducible refine (Sj _ _ _ _).mono ?_);rintro e w1 ⟨rfl,⟨k1,rfl⟩⟩));rw [← HW.out];clear HW
 go_region
 all_goals go_wp2_with (first|(go_at_call 138;(refine (Xi _ slots _ _ ?hc).mono ?_);(case hc=>first|(go_simp;done)|(go_simp;rfl));rintro e w1 ⟨rfl,rfl⟩))
 all_goals go_ret
 all_goals exact ⟨by (try clear MU oT cO Wo);simp [*],by repeat (first|exact HB.out|(refine Ra ?_ Wo.out)|apply ia|apply qa|apply oa|refine ua ?_ (by first|omega|(simp;done)|(simp;omega)))⟩
theorem TH (A0 A4:Option Addr) (c0 c4 n0 n4:Nat) (p1 p2 slots d a b c n:Int) (t:ByteArray) (w:World) (hn0:n0 ≤ 9223372036854775807) (lB:n4 ≤ 9223372036854775807) (o:Int) (h0:(o == 0)=false) (h1:(o == 1)=false) (h2:(o == 2)=false) (h3:(o == 3)=false) (h4:(o == 4)=false) (h5:(o == 5)=false) (h6:(o == 6)=false) :
  Calls Try.prog 125 #[.agg #[.slice A0 n0 c0,.int .i64 p1,.int .i64 p2,.int .i64 slots,.slice A4 n4 c4],.agg #[.int .i64 o,.int .i64 d,.int .i64 a,.int .i64 b,.int .i64 c,.int .i64 n,.string t]] w fun e w'=>e = .returned (.bool (false))∧Below w.heap.size w w':=by
 obtain ⟨W1,Kf⟩:∃ W1,W1=(w.alloc (.cells #[.slice A0 n0 c0,.int .i64 p1,.int .i64 p2,.int .i64 slots,.slice A4 n4 c4] 45 (0,0))).alloc (.cells #[.int .i64 o,.int .i64 d,.int .i64 a,.int .i64 b,.int .i64 c,.int .i64 n,.string t] 122 (0,0)):=⟨_,rfl⟩;have HW:=ga.mk Kf;have HB:=ga.mk (show Below w.heap.size w W1 from by rw [Kf];exact oa (oa (Below.refl _ _) _) _);have hz:W1.heap.size=w.heap.size + 2:=by rw [Kf];simp
 have TQ:W1.cell? ⟨w.heap.size,3,none⟩=some (.int .i64 slots):=by rw [Kf];simp
 have hx0:W1.cell? ⟨w.heap.size + 1,0,none⟩=some (.int .i64 o):=by rw [Kf];simp
 have hx1:W1.cell? ⟨w.heap.size + 1,1,none⟩=some (.int .i64 d):=by rw [Kf];simp
 have hx2:W1.cell? ⟨w.heap.size + 1,2,none⟩=some (.int .i64 a):=by rw [Kf];simp
 have vu:W1.cell? ⟨w.heap.size + 1,3,none⟩=some (.int .i64 b):=by rw [Kf];simp
 have Uq:W1.cell? ⟨w.heap.size + 1,4,none⟩=some (.int .i64 c):=by rw [Kf];simp
 have eN:W1.cell? ⟨w.heap.size + 1,5,none⟩=some (.int .i64 n):=by rw [Kf];simp
 have SB:W1.cell? ⟨w.heap.size + 1,6,none⟩=some (.string t):=by rw [Kf];simp
 clear Kf;go_enter Try.func125,Try.ntmps125;go_wp2_with (first|(go_at_call 94;(with_reducible refine (Sj _ _ _ _).mono ?_);rintro e w1 ⟨rfl,⟨k1,rfl⟩⟩));rw [← HW.out];clear HW
 go_region
 all_goals go_wp2_with (first|(go_at_call 138;(refine (Xi _ slots _ _ ?hc).mono ?_);(case hc=>first|(go_simp;done)|(go_simp;rfl));rintro e w1 ⟨rfl,rfl⟩))
 all_goals go_ret
 all_goals exact ⟨by (try clear MU oT cO Wo);simp [*],by repeat (first|exact HB.out|(refine Ra ?_ Wo.out)|apply ia|apply qa|apply oa|refine ua ?_ (by first|omega|(simp;done)|(simp;omega)))⟩
def vl (n0:Nat) (slots:Int) (o d a b c n:Int) (t:ByteArray):Bool :=
 if o=0 then Mk slots d && (a == 0 && (b == 0 && (c == 0 && t.toList.isEmpty)))
 else if o=1 then Mk slots d && Mk slots a && (b == 0 && (c == 0 && (n == 0 && t.toList.isEmpty)))
 else if o=2 then Mk slots d && Mk slots a && Mk slots b && yu t && (c == 0 && n == 0)
 else if o=3 then Mk slots d && Mk slots b && Di n 0 ((n0:Int) - 1) && (Mk slots a || a == -1) && (c == 0 && t.toList.isEmpty)
 else if o=4 then Mk slots c && Mk slots b && Di n 0 ((n0:Int) - 1) && (Mk slots a || a == -1) && (d == 0 && t.toList.isEmpty)
 else if o=5 then Mk slots d && (a == 0 && (b == 0 && (c == 0 && (n == 0 && t.toList.isEmpty))))
 else if o=6 then Mk slots a && (d == 0 && (b == 0 && (c == 0 && (n == 0 && t.toList.isEmpty))))
 else false
theorem mF (A0 A4:Option Addr) (c0 c4 n0 n4:Nat) (p1 p2 slots:Int) (w:World) (hn0:n0 ≤ 9223372036854775807) (lB:n4 ≤ 9223372036854775807) (o d a b c n:Int) (t:ByteArray) :
  Calls Try.prog 125 #[.agg #[.slice A0 n0 c0,.int .i64 p1,.int .i64 p2,.int .i64 slots,.slice A4 n4 c4],.agg #[.int .i64 o,.int .i64 d,.int .i64 a,.int .i64 b,.int .i64 c,.int .i64 n,.string t]] w fun e w'=>e = .returned (.bool (vl n0 slots o d a b c n t))∧Below w.heap.size w w':=by
 unfold vl
 by_cases h0:o=0
 ·rw [if_pos h0,h0];exact yM A0 A4 c0 c4 n0 n4 p1 p2 slots d a b c n t w hn0 lB
 rw [if_neg h0]
 by_cases h1:o=1
 ·rw [if_pos h1,h1];exact xM A0 A4 c0 c4 n0 n4 p1 p2 slots d a b c n t w hn0 lB
 rw [if_neg h1]
 by_cases h2:o=2
 ·rw [if_pos h2,h2];exact wM A0 A4 c0 c4 n0 n4 p1 p2 slots d a b c n t w hn0 lB
 rw [if_neg h2]
 by_cases h3:o=3
 ·rw [if_pos h3,h3];exact vM A0 A4 c0 c4 n0 n4 p1 p2 slots d a b c n t w hn0 lB
 rw [if_neg h3]
 by_cases h4:o=4
 ·rw [if_pos h4,h4];exact uM A0 A4 c0 c4 n0 n4 p1 p2 slots d a b c n t w hn0 lB
 rw [if_neg h4]
 by_cases h5:o=5
 ·rw [if_pos h5,h5];exact sM A0 A4 c0 c4 n0 n4 p1 p2 slots d a b c n t w hn0 lB
 rw [if_neg h5]
 by_cases h6:o=6
 ·rw [if_pos h6,h6];exact rM A0 A4 c0 c4 n0 n4 p1 p2 slots d a b c n t w hn0 lB
 rw [if_neg h6];exact TH A0 A4 c0 c4 n0 n4 p1 p2 slots d a b c n t w hn0 lB o (beq_eq_false_iff_ne.mpr h0) (beq_eq_false_iff_ne.mpr h1) (beq_eq_false_iff_ne.mpr h2) (beq_eq_false_iff_ne.mpr h3) (beq_eq_false_iff_ne.mpr h4) (beq_eq_false_iff_ne.mpr h5) (beq_eq_false_iff_ne.mpr h6)
def Bn (n0:Nat) (slots:Int) (x:Uc):Bool:=vl n0 slots x.f0 x.f1 x.f2 x.f3 x.f4 x.f5 x.f6
def Qj (n0:Nat) (slots:Int) (n4:Nat) (code:List Uc) (j a tg els:Int):Bool :=
 !(code.any fun x=>!Bn n0 slots x) && decide (0 ≤ slots) &&
  (if j=0 then Di tg 0 ((n4:Int) - 1) && a == 0 && els == 0
   else if j=1 then Di tg 0 ((n4:Int) - 1) && Di els 0 ((n4:Int) - 1) && Mk slots a
   else if j=2 then Mk slots a && tg == 0 && els == 0
   else false)
theorem zM (B:Nat) (A0 A4:Option Addr) (c0 c4 n0 n4:Nat) (p1 p2 slots:Int) (hn0:n0 ≤ 9223372036854775807) (lB:n4 ≤ 9223372036854775807) (W:World) (x:Uc)
  (hb0:W.cell? ⟨B,0,none⟩=some (.slice A0 n0 c0)) (Ap:W.cell? ⟨B,1,none⟩=some (.int .i64 p1)) (mj:W.cell? ⟨B,2,none⟩=some (.int .i64 p2)) (hb3:W.cell? ⟨B,3,none⟩=some (.int .i64 slots)) (hb4:W.cell? ⟨B,4,none⟩=some (.slice A4 n4 c4)) (hB:B < W.heap.size) :
  Calls Try.prog 124 #[.agg #[.int .i64 x.f0,.int .i64 x.f1,.int .i64 x.f2,.int .i64 x.f3,.int .i64 x.f4,.int .i64 x.f5,.string x.f6],.pointer (some ⟨B,0,none⟩)] W
   fun e w'=>e = .returned (.bool (!Bn n0 slots x))∧Below W.heap.size W w':=by
 have hne:B ≠ W.heap.size:=by omega
 unfold Bn;have HC:=ga.mk (fun W'=>mF A0 A4 c0 c4 n0 n4 p1 p2 slots W' hn0 lB x.f0 x.f1 x.f2 x.f3 x.f4 x.f5 x.f6);generalize vl n0 slots x.f0 x.f1 x.f2 x.f3 x.f4 x.f5 x.f6=b at HC ⊢;go_enter Try.func124,Try.ntmps124;go_wp2_with (go_at_call 125;(with_reducible refine (HC.out _).mono ?_);rintro e w1 ⟨rfl,hb⟩;have HD:=ga.mk (Ra (oa (Below.refl _ _) _) hb);clear hb);go_ret;exact ⟨rfl,HD.out⟩
theorem nF (A0 A4 A5:Option Addr) (c0 c4 c5 n0 n4:Nat) (p1 p2 slots:Int) (l5:List Uc) (j a tg els:Int) (w:World) (hn0:n0 ≤ 9223372036854775807) (lB:n4 ≤ 9223372036854775807) (hr5:Kd.C Cf w A5 l5.length l5) (hc5:l5.length ≤ c5) :
  Calls Try.prog 104 #[.agg #[.slice A0 n0 c0,.int .i64 p1,.int .i64 p2,.int .i64 slots,.slice A4 n4 c4],.agg #[.slice A5 l5.length c5,.int .i64 j,.int .i64 a,.int .i64 tg,.int .i64 els]] w fun e w'=>e = .returned (.bool (Qj n0 slots n4 l5 j a tg els))∧Below w.heap.size w w':=by
 have eg:=enters_of Try.func124 (by kernel_rfl) rfl;have hm5:=hr5.2.1;obtain ⟨W1,Kf⟩:∃ W1,W1=(w.alloc (.cells #[.slice A0 n0 c0,.int .i64 p1,.int .i64 p2,.int .i64 slots,.slice A4 n4 c4] 45 (0,0))).alloc (.cells #[.slice A5 l5.length c5,.int .i64 j,.int .i64 a,.int .i64 tg,.int .i64 els] 83 (0,0)):=⟨_,rfl⟩;have HW:=ga.mk Kf;have hB1:Below w.heap.size w W1:=by rw [Kf];exact oa (oa (Below.refl _ _) _) _
 have hz:W1.heap.size=w.heap.size + 2:=by rw [Kf];simp
 have DM:W1.cell? ⟨w.heap.size,0,none⟩=some (.slice A0 n0 c0):=by rw [Kf];simp
 have uA:W1.cell? ⟨w.heap.size,1,none⟩=some (.int .i64 p1):=by rw [Kf];simp
 have hg2:W1.cell? ⟨w.heap.size,2,none⟩=some (.int .i64 p2):=by rw [Kf];simp
 have iH:W1.cell? ⟨w.heap.size,3,none⟩=some (.int .i64 slots):=by rw [Kf];simp
 have gH:W1.cell? ⟨w.heap.size,4,none⟩=some (.slice A4 n4 c4):=by rw [Kf];simp
 have hx0:W1.cell? ⟨w.heap.size + 1,0,none⟩=some (.slice A5 l5.length c5):=by rw [Kf];simp
 have hx1:W1.cell? ⟨w.heap.size + 1,1,none⟩=some (.int .i64 j):=by rw [Kf];simp
 have hx2:W1.cell? ⟨w.heap.size + 1,2,none⟩=some (.int .i64 a):=by rw [Kf];simp
 have vu:W1.cell? ⟨w.heap.size + 1,3,none⟩=some (.int .i64 tg):=by rw [Kf];simp
 have Uq:W1.cell? ⟨w.heap.size + 1,4,none⟩=some (.int .i64 els):=by rw [Kf];simp
 have hr1:=Kd.Mb hr5 hB1;clear Kf hr5
 have HF:=ga.mk (ru 124 #[.pointer (some ⟨w.heap.size,0,none⟩)] (fun x=>!Bn n0 slots x) eg A5 c5 l5 W1 hr1 hc5
  (fun W2 x hb'=>zM w.heap.size A0 A4 c0 c4 n0 n4 p1 p2 slots hn0 lB W2 x ((hb'.cell (p:=⟨w.heap.size,0,none⟩) (by simp;omega)).trans DM) ((hb'.cell (p:=⟨w.heap.size,1,none⟩) (by simp;omega)).trans uA) ((hb'.cell (p:=⟨w.heap.size,2,none⟩) (by simp;omega)).trans hg2) ((hb'.cell (p:=⟨w.heap.size,3,none⟩) (by simp;omega)).trans iH) ((hb'.cell (p:=⟨w.heap.size,4,none⟩) (by simp;omega)).trans gH) (Nat.lt_of_lt_of_le (by omega) hb'.size)))
 have HB:=ga.mk hB1;clear hr1 hB1 eg;unfold Qj;cases hq:l5.any (fun x=>!Bn n0 slots x) with
 | true =>
  rw [hq] at HF;go_enter Try.func104,Try.ntmps104
  go_upto_region 1 with (fail)
  rw [← HW.out];clear HW;go_wp2_with (first|(go_at_call 123;(with_reducible refine HF.out.mono ?_);rintro e w2 ⟨rfl,mj⟩;have Wo:=ga.mk mj;clear mj))
  all_goals
   go_ret;exact ⟨by simp,Ra HB.out Wo.out⟩
 | false =>
  rw [hq] at HF;cases ha0:decide (0 ≤ a)
  all_goals
   go_enter Try.func104,Try.ntmps104
   go_upto_region 1 with (fail)
   rw [← HW.out];clear HW
   go_upto_region 3 with (first|(go_at_call 123;(with_reducible refine HF.out.mono ?_);rintro e w2 ⟨rfl,mj⟩;replace iH:=(mj.cell (World.block_lt_of_cell? W1 _ iH)).trans iH;replace gH:=(mj.cell (World.block_lt_of_cell? W1 _ gH)).trans gH;replace hx1:=(mj.cell (World.block_lt_of_cell? W1 _ hx1)).trans hx1;replace hx2:=(mj.cell (World.block_lt_of_cell? W1 _ hx2)).trans hx2;replace vu:=(mj.cell (World.block_lt_of_cell? W1 _ vu)).trans vu;replace Uq:=(mj.cell (World.block_lt_of_cell? W1 _ Uq)).trans Uq;have Wo:=ga.mk (Ra HB.out mj);clear mj HB DM uA hg2 hx0))
   go_quiet ((go_at_call 94;exact Calls.quiet_of ((Sj _ _ _ _).mono fun _ _ ⟨he,hm⟩=>⟨he,hm.out⟩)))
   go_wp2
   all_goals go_ret
   all_goals exact ⟨by first|(simp [Mk, *];done)|(simp [Mk, *];intros;omega)|(clear HF iH gH hx1 hx2 vu Uq;simp_all [Mk];done)|(clear HF iH gH hx1 hx2 vu Uq;simp_all [Mk];omega),by repeat (first|exact Wo.out|apply ia)⟩
def Yh.f (Oa:List Int) (Ka:Int) (Pa:Int) (Ja:Int) (Ga:List (jf)) (Jc:List (Uc)) (Sb:Int) (Nb:Int) (Pb:Int) (mc:Int):Option Bool:=some (Qj Oa.length Ja Ga.length Jc Sb Nb Pb mc)
theorem Yh.calls (yb:Option Addr) (xb:Nat) (Oa:List Int) (Ka:Int) (Pa:Int) (Ja:Int) (Rb:Option Addr) (Ib:Nat) (Ga:List (jf)) (tf:Option Addr) (Xe:Nat) (Jc:List (Uc)) (Sb:Int) (Nb:Int) (Pb:Int) (mc:Int) (r:Bool) (w:World) (fe:Kd.C (Kd.int .i64) w yb Oa.length Oa) (Yd:Oa.length ≤ xb) (Ff:Kd.C Po w Rb Ga.length Ga) (Hf:Ga.length ≤ Ib) (Vt:Kd.C Cf w tf Jc.length Jc) (Wt:Jc.length ≤ Xe) (h:Yh.f Oa Ka Pa Ja Ga Jc Sb Nb Pb mc=some r) :
  Calls Try.prog 104 #[.agg #[.slice yb Oa.length xb,.int .i64 Ka,.int .i64 Pa,.int .i64 Ja,.slice Rb Ga.length Ib],.agg #[.slice tf Jc.length Xe,.int .i64 Sb,.int .i64 Nb,.int .i64 Pb,.int .i64 mc]] w fun e w'=>e = .returned (.bool r)∧Below w.heap.size w w':=by
 injection h with h
 subst h;exact nF yb Rb tf xb Ib Xe Oa.length Ga.length Ka Pa Ja Jc Sb Nb Pb mc w fe.2.1 Ff.2.1 Vt Wt
theorem Ev.pos {α:Type} {c:Prop} [Decidable c] {f g:Nat→Option α} {r:α} (h:c) (k:Ev f r):Ev (fun n=>if c then f n else g n) r:=Ev.congr (fun n=>if_pos h) k
theorem Ev.neg {α:Type} {c:Prop} [Decidable c] {f g:Nat→Option α} {r:α} (h:¬ c) (k:Ev g r):Ev (fun n=>if c then f n else g n) r:=Ev.congr (fun n=>if_neg h) k
theorem Ev.val {α β:Type} {a:α} {f:Nat→α→Option β} {r:β} (k:Ev (fun n=>f n a) r):Ev (fun n=>(some a).bind (f n)) r:=Ev.congr (fun n=>rfl) k
theorem Ev.here {α:Type} {o:Option α} {r:α} (h:o=some r):Ev (fun _=>o) r:=Ev.congr (fun n=>h) (Ev.now r)
theorem kg {x:Int} (h:-9223372036854775808 ≤ x) (h':x ≤ 9223372036854775807):wrap64 x=x:=by
 unfold wrap64;omega
theorem Ke {i n:Nat} (h:i < n) (hn:n ≤ 9223372036854775807):wrap64 ((i:Int) + 1)=((i + 1:Nat):Int):=by
 rw [kg (by omega) (by omega)];omega
theorem mh {ρ:Type} {n:Nat} {r:ρ} (P:Nat→Prop) (hend:P n) (hstep:∀ i,i < n→P (i + 1)→P i):∀ i,i ≤ n→P i:=by
 have key:∀ d i,i + d=n→P i:=by
  intro d
  induction d with
  | zero =>
   intro i hi;have:i=n:=by omega
   exact this ▸ hend
  | succ d ih =>
   intro i hi;exact hstep i (by omega) (ih (i + 1) (by omega))
 intro i hi;exact key (n - i) i (by omega)
theorem bw {α:Type} {m:List α} {z:α} {i:Nat} (h:i < m.length):(m.take i ++ List.replicate (m.length - i) z).set i (m.getD i z)=m.take (i + 1) ++ List.replicate (m.length - (i + 1)) z:=by
 rw [List.set_append_right _ _ (by rw [List.length_take];omega),List.length_take,Nat.min_eq_left (by omega),Nat.sub_self];rw [show m.length - i=(m.length - (i + 1)) + 1 from by omega,List.replicate_succ,List.set_cons_zero,List.take_succ_eq_append_getElem h,List.append_assoc];simp [List.getD_eq_getElem?_getD,List.getElem?_eq_getElem h]
theorem nB {α:Type} {m:List α} {z:α}:m.take 0 ++ List.replicate (m.length - 0) z=List.replicate m.length z:=by simp
theorem Nz {α:Type} {m:List α} {z:α}:m.take m.length ++ List.replicate (m.length - m.length) z=m:=by simp
theorem JB (l:List Int) (i:Nat):rd l (i:Int)=l.getD i 0:=rfl
def iota (m:Int) (n:Nat):List Int:=(List.range n).map fun (j:Nat)=>m + (j:Int)
theorem Yi (m:Int) (n:Nat):(iota m n).length=n:=by simp [iota]
theorem jB {m:Int} {n i:Nat} (h:i < n):(iota m n).getD i 0=m + i:=by simp [iota,List.getD_eq_getElem?_getD,h]
theorem fF {α:Type} {m l:List α} {z:α} {i:Nat} (hl:l.length=m.length) (h:i < m.length):(m.take i ++ l.drop i).set i (m.getD i z)=m.take (i + 1) ++ l.drop (i + 1):=by
 rw [List.set_append_right _ _ (by rw [List.length_take];omega),List.length_take,Nat.min_eq_left (by omega),Nat.sub_self];rw [List.drop_eq_getElem_cons (by omega),List.set_cons_zero,List.take_succ_eq_append_getElem h,List.append_assoc];simp [List.getD_eq_getElem?_getD,List.getElem?_eq_getElem h]
theorem oF (a b c:Int):Sg.f a b c=some (Di a b c):=by
 unfold Sg.f Di
 by_cases h:a ≥ b
 ·rw [if_pos h];have h':b ≤ a:=h;simp [h']
 ·rw [if_neg h];have h':¬ b ≤ a:=h;simp [h']
theorem FM (l:List Int) (hl:l.length ≤ 35184372088832):Ev (fun k=>me.f k l) l:=by
 refine Ev.congr (f:=fun k=>me.l0 k l (List.replicate l.length 0) 0) (fun k=>?_) ?_
 ·unfold me.f;rw [if_pos (by omega),if_pos (by omega)]
  rfl
 ·have key:=mh (r:=l) (n:=l.length) (fun i=>Ev (fun k=>me.l0 k l (l.take i ++ List.replicate (l.length - i) 0) (i:Int)) l) ?_ ?_ 0 (by omega)
  ·simpa using key
  ·refine Ev.step (fun k=>by rw [me.l0]) ?_;refine Ev.neg (by omega) ?_;rw [Nz];exact Ev.now l
  ·intro i hi h;refine Ev.step (fun k=>by rw [me.l0]) ?_;refine Ev.pos (by omega) (Ev.pos (by omega) (Ev.pos (by simp;omega) ?_));rw [Ke hi (by omega),JB,Int.toNat_natCast,bw hi];exact h
theorem qB (l:List Int) (hl:l.length ≤ 9223372036854775807):Ev (fun k=>ud.f k l l) true:=by
 refine Ev.congr (f:=fun k=>ud.l0 k l l 0) (fun k=>?_) ?_
 ·unfold ud.f;rw [if_pos rfl]
 ·refine mh (r:=true) (n:=l.length) (fun i=>Ev (fun k=>ud.l0 k l l (i:Int)) true) ?_ ?_ 0 (by omega)
  ·refine Ev.step (fun k=>by rw [ud.l0]) ?_;exact Ev.neg (by omega) (Ev.now _)
  ·intro i hi h;refine Ev.step (fun k=>by rw [ud.l0]) ?_;refine Ev.pos (by omega) (Ev.pos (by omega) (Ev.pos (by omega) (Ev.pos rfl ?_)));rw [Ke hi hl];exact h
theorem dR (l:List Int) (a:Int) (ha:0 ≤ a) (ha':a ≤ 1048576) (hl:l.length ≤ 9223372036854775807):∃ t,Fh.f l a=some t∧t ≤ a∧(0 ≤ t→t + l.length=a):=by
 unfold Fh.f;rw [kg (by omega) (by omega)]
 split
 ·exact ⟨-1,rfl,by omega,by omega⟩
 ·exact ⟨_,rfl,by omega,by omega⟩
def gl (x:Jl):Uc:=⟨x.f0,x.f1,x.f2,x.f3,x.f4,x.f5,x.f6⟩
theorem ZF (l:List Jl) (hl:l.length ≤ 4398046511104):Ev (fun k=>yd.f k l) (l.map gl):=by
 refine Ev.congr (f:=fun k=>yd.l0 k l (List.replicate l.length gj) 0) (fun k=>?_) ?_
 ·unfold yd.f;rw [if_pos (by omega),if_pos (by omega)]
  rfl
 ·have key:=mh (r:=l.map gl) (n:=l.length) (fun i=>Ev (fun k=>yd.l0 k l ((l.map gl).take i ++ List.replicate ((l.map gl).length - i) gj) (i:Int)) (l.map gl)) ?_ ?_ 0 (by omega)
  ·rw [nB,List.length_map] at key;exact key
  ·refine Ev.step (fun k=>by rw [yd.l0]) ?_;refine Ev.neg (by omega) ?_;have e:=Nz (m:=l.map gl) (z:=gj);rw [List.length_map] at e;rw [List.length_map,e];exact Ev.now _
  ·intro i hi h;refine Ev.step (fun k=>by rw [yd.l0]) ?_;refine Ev.pos (by omega) (Ev.pos (by omega) ?_);unfold ek.f;refine Ev.val (Ev.pos (by simp;omega) ?_)
   have hc:gl (yc l (i:Int))=(l.map gl).getD i gj:=by
    simp [yc,List.getD_eq_getElem?_getD,hi]
   have hf:=bw (m:=l.map gl) (z:=gj) (i:=i) (by rw [List.length_map];exact hi);rw [← hc] at hf;rw [Ke hi (by omega),Int.toNat_natCast];have e:=hf ▸ h;exact e
theorem iG (l:List Uc) (hl:l.length ≤ 9223372036854775807):Ev (fun k=>ic.f k l l) true:=by
 refine Ev.congr (f:=fun k=>ic.l0 k l l 0) (fun k=>?_) ?_
 ·unfold ic.f;rw [if_pos rfl]
 ·refine mh (r:=true) (n:=l.length) (fun i=>Ev (fun k=>ic.l0 k l l (i:Int)) true) ?_ ?_ 0 (by omega)
  ·refine Ev.step (fun k=>by rw [ic.l0]) ?_;exact Ev.neg (by omega) (Ev.now _)
  ·intro i hi h;refine Ev.step (fun k=>by rw [ic.l0]) ?_;refine Ev.pos (by omega) (Ev.pos (by omega) (Ev.pos (by omega) ?_));unfold jj.f;simp only [if_true];refine Ev.val (Ev.pos rfl ?_);rw [Ke hi hl];exact h
def Bw (l:List Jl):Nat:=(l.map fun x=>x.f6.size).sum
def YL (l:List Jl):Nat:=l.length + Bw l
def VX (l:List Uj):Nat:=l.length + (l.map fun x=>YL x.f0).sum
theorem Tt {l:List Jl} {i:Nat} (h:i < l.length):yc l (i:Int)=l[i]:=by simp [yc,List.getD_eq_getElem?_getD,h]
theorem Jo {l:List Uj} {i:Nat} (h:i < l.length):od l (i:Int)=l[i]:=by simp [od,List.getD_eq_getElem?_getD,h]
theorem bG (l:List Jl) (a:Int) (ha:0 ≤ a) (ha':a ≤ 1048576) (hl:l.length ≤ 9223372036854775807) (ht:∀ x ∈ l,x.f6.size ≤ 9223372036854775807) :
  ∃ t,Ev (fun k=>Ed.f k l a) t∧t ≤ a∧(0 ≤ t→t + YL l=a):=by
 have key:=mh (ρ:=Unit) (r:=()) (n:=l.length) (fun i=>∀ a:Int,0 ≤ a→a ≤ 1048576→∃ t,Ev (fun k=>Ed.l0 k l a (i:Int)) t∧t ≤ a∧(0 ≤ t→t + Bw (l.drop i)=a)) ?_ ?_ 0 (by omega)
 ·unfold Ed.f;rw [kg (by omega) (by omega)]
  by_cases h:a - (l.length:Int) < 0
  ·exact ⟨-1,Ev.pos h (Ev.now _),by omega,by omega⟩
  ·obtain ⟨t,e1,e2,e3⟩:=key (a - l.length) (by omega) (by omega);refine ⟨t,Ev.neg h e1,by omega,fun h0=>?_⟩;have:=e3 h0;rw [List.drop_zero] at this;unfold YL;omega
 ·intro a h0 h1;refine ⟨a,?_,by omega,?_⟩
  ·refine Ev.step (fun k=>by rw [Ed.l0]) ?_;exact Ev.neg (by omega) (Ev.now _)
  ·intro _;rw [List.drop_length];simp [Bw]
 ·intro i hi ih a h0 h1;have hx:=ht l[i] (List.getElem_mem hi)
  have hd:Bw (l.drop i)=l[i].f6.size + Bw (l.drop (i + 1)):=by
   rw [List.drop_eq_getElem_cons hi];simp only [Bw,List.map_cons,List.sum_cons]
  by_cases h:a - (l[i].f6.size:Int) < 0
  ·refine ⟨-1,?_,by omega,by omega⟩;refine Ev.step (fun k=>by rw [Ed.l0]) ?_;refine Ev.pos (by omega) (Ev.pos (by omega) ?_);rw [Tt hi];unfold Vh.f;rw [kg (by omega) (by omega),if_pos h];exact Ev.val (Ev.pos (by decide) (Ev.now _))
  ·obtain ⟨t,e1,e2,e3⟩:=ih (a - l[i].f6.size) (by omega) (by omega);refine ⟨t,?_,by omega,fun hh=>by have:=e3 hh;omega⟩;refine Ev.step (fun k=>by rw [Ed.l0]) ?_;refine Ev.pos (by omega) (Ev.pos (by omega) ?_);rw [Tt hi];unfold Vh.f;rw [kg (by omega) (by omega),if_neg h];refine Ev.val (Ev.neg (by omega) ?_);rw [Ke hi hl];exact e1
theorem cG (l:List Uj) (a:Int) (ha:0 ≤ a) (ha':a ≤ 1048576) (hl:l.length ≤ 9223372036854775807) (ht:∀ x ∈ l,x.f0.length ≤ 9223372036854775807∧∀ y ∈ x.f0,y.f6.size ≤ 9223372036854775807) :
  ∃ t,Ev (fun k=>Ad.f k l a) t∧t ≤ a∧(0 ≤ t→t + VX l=a):=by
 have key:=mh (ρ:=Unit) (r:=()) (n:=l.length) (fun i=>∀ a:Int,0 ≤ a→a ≤ 1048576→∃ t,Ev (fun k=>Ad.l0 k l a (i:Int)) t∧t ≤ a∧(0 ≤ t→t + ((l.drop i).map fun x=>YL x.f0).sum=a)) ?_ ?_ 0 (by omega)
 ·unfold Ad.f;rw [kg (by omega) (by omega)]
  by_cases h:a - (l.length:Int) < 0
  ·exact ⟨-1,Ev.pos h (Ev.now _),by omega,by omega⟩
  ·obtain ⟨t,e1,e2,e3⟩:=key (a - l.length) (by omega) (by omega);refine ⟨t,Ev.neg h e1,by omega,fun h0=>?_⟩;have:=e3 h0;rw [List.drop_zero] at this;unfold VX;omega
 ·intro a h0 h1;refine ⟨a,?_,by omega,?_⟩
  ·refine Ev.step (fun k=>by rw [Ad.l0]) ?_;exact Ev.neg (by omega) (Ev.now _)
  ·intro _;rw [List.drop_length];simp
 ·intro i hi ih a h0 h1;have hx:=ht l[i] (List.getElem_mem hi)
  have hd:((l.drop i).map fun x=>YL x.f0).sum=YL l[i].f0 + ((l.drop (i + 1)).map fun x=>YL x.f0).sum:=by
   rw [List.drop_eq_getElem_cons hi];simp only [List.map_cons,List.sum_cons]
  obtain ⟨u,f1,f2,f3⟩:=bG l[i].f0 a h0 h1 hx.1 hx.2
  by_cases h:u < 0
  ·refine ⟨-1,?_,by omega,by omega⟩;refine Ev.step (fun k=>by rw [Ad.l0]) ?_;refine Ev.pos (by omega) (Ev.pos (by omega) ?_);rw [Jo hi];unfold Wh.f;refine Ev.bind (Ev.bind f1 (Ev.pos h (Ev.now _))) ?_;exact Ev.pos (by decide) (Ev.now _)
  ·obtain ⟨t,e1,e2,e3⟩:=ih u (by omega) (by omega);have:=f3 (by omega);refine ⟨t,?_,by omega,fun hh=>by have:=e3 hh;omega⟩;refine Ev.step (fun k=>by rw [Ad.l0]) ?_;refine Ev.pos (by omega) (Ev.pos (by omega) ?_);rw [Jo hi];unfold Wh.f;refine Ev.bind (Ev.bind f1 (Ev.neg h (Ev.now _))) ?_;refine Ev.neg (by omega) ?_;rw [Ke hi hl];exact e1
theorem Bz {l:List Nat} {n:Nat} (h:n ∈ l):n ≤ l.sum:=by
 induction l with
 | nil=>cases h
 | cons a l ih =>
  rw [List.sum_cons];cases h with
  | head=>omega
  | tail _ h=>have:=ih h;omega
theorem dF {l:List Uj} {n:Nat} (h:VX l ≤ n):l.length ≤ n∧∀ x ∈ l,x.f0.length ≤ n:=by
 unfold VX at h;refine ⟨by omega,fun x hx=>?_⟩;have:YL x.f0 ≤ (l.map fun x=>YL x.f0).sum:=Bz (List.mem_map.mpr ⟨x,hx,rfl⟩);unfold YL at this h;omega
theorem vI (x0:List Int) (x1 x2 x3:Int) (x4:List Uj) (a:Int) (ha:0 ≤ a) (ha':a ≤ 1048576) (h0:x0.length ≤ 9223372036854775807) (hl:x4.length ≤ 9223372036854775807) (ht:∀ x ∈ x4,x.f0.length ≤ 9223372036854775807∧∀ y ∈ x.f0,y.f6.size ≤ 9223372036854775807) :
  ∃ t,Ev (fun k=>Gh.f k x0 x1 x2 x3 x4 a) t∧t ≤ a∧(0 ≤ t→t + x0.length + VX x4=a):=by
 obtain ⟨t,e1,e2,e3⟩:=dR x0 a ha ha' h0;unfold Gh.f;rw [e1];simp only [Option.bind_some]
 by_cases ht':t < 0
 ·exact ⟨-1,Ev.pos ht' (Ev.now _),by omega,by omega⟩
 ·obtain ⟨u,f1,f2,f3⟩:=cG x4 t (by omega) (by omega) hl ht
  by_cases hu:u < 0
  ·exact ⟨-1,Ev.neg ht' (Ev.bind f1 (Ev.pos hu (Ev.now _))),by omega,by omega⟩
  ·exact ⟨u,Ev.neg ht' (Ev.bind f1 (Ev.neg hu (Ev.now _))),by omega,fun _=>by have:=e3 (by omega);have:=f3 (by omega);omega⟩
def cg (x:Uj):jf:=⟨x.f0.map gl,x.f1,x.f2,x.f3,x.f4⟩
theorem aG (l:List Uj) (hl:l.length ≤ 1048576) (hb:∀ x ∈ l,x.f0.length ≤ 1048576):Ev (fun k=>td.f k l) (l.map cg):=by
 refine Ev.congr (f:=fun k=>td.l0 k l (List.replicate l.length ME) 0) (fun k=>?_) ?_
 ·unfold td.f;rw [if_pos (by omega),if_pos (by omega)]
  rfl
 ·have key:=mh (r:=l.map cg) (n:=l.length) (fun i=>Ev (fun k=>td.l0 k l ((l.map cg).take i ++ List.replicate ((l.map cg).length - i) ME) (i:Int)) (l.map cg)) ?_ ?_ 0 (by omega)
  ·rw [nB,List.length_map] at key;exact key
  ·refine Ev.step (fun k=>by rw [td.l0]) ?_;refine Ev.neg (by omega) ?_;have e:=Nz (m:=l.map cg) (z:=ME);rw [List.length_map] at e;rw [List.length_map,e];exact Ev.now _
  ·intro i hi h;refine Ev.step (fun k=>by rw [td.l0]) ?_;refine Ev.pos (by omega) (Ev.pos (by omega) ?_);unfold fk.f;have hx:=hb l[i] (List.getElem_mem hi);rw [Jo hi];refine Ev.bind (Ev.bind (ZF l[i].f0 (by omega)) (Ev.now _)) ?_;refine Ev.pos (by simp;omega) ?_
   have hc:cg l[i]=(l.map cg).getD i ME:=by
    simp [List.getD_eq_getElem?_getD,hi]
   have hf:=bw (m:=l.map cg) (z:=ME) (i:=i) (by rw [List.length_map];exact hi);rw [← hc] at hf;rw [Ke hi (by omega),Int.toNat_natCast];have e:=hf ▸ h;exact e
theorem ql {l:List jf} {i:Nat} (h:i < l.length):Sa l (i:Int)=l[i]:=by simp [Sa,List.getD_eq_getElem?_getD,h]
theorem jG (l:List jf) (hl:l.length ≤ 9223372036854775807) (hb:∀ x ∈ l,x.f0.length ≤ 9223372036854775807):Ev (fun k=>oc.f k l l) true:=by
 refine Ev.congr (f:=fun k=>oc.l0 k l l 0) (fun k=>?_) ?_
 ·unfold oc.f;rw [if_pos rfl]
 ·refine mh (r:=true) (n:=l.length) (fun i=>Ev (fun k=>oc.l0 k l l (i:Int)) true) ?_ ?_ 0 (by omega)
  ·refine Ev.step (fun k=>by rw [oc.l0]) ?_;exact Ev.neg (by omega) (Ev.now _)
  ·intro i hi h;refine Ev.step (fun k=>by rw [oc.l0]) ?_;refine Ev.pos (by omega) (Ev.pos (by omega) (Ev.pos (by omega) ?_));unfold kj.f;rw [ql hi];refine Ev.bind (Ev.bind (iG l[i].f0 (hb _ (List.getElem_mem hi))) (Ev.pos rfl (Ev.pos rfl (Ev.pos rfl (Ev.pos rfl (Ev.pos rfl (Ev.now _))))))) (Ev.pos rfl ?_);rw [Ke hi hl];exact h
theorem uI (x0:List Int) (x1 x2 x3:Int) (x4:List Uj) (h0:x0.length ≤ 1048576) (hl:x4.length ≤ 1048576) (hb:∀ x ∈ x4,x.f0.length ≤ 1048576):Ev (fun k=>Dg.f k x0 x1 x2 x3 x4) (x0,x1,x2,x3,x4.map cg):=by
 unfold Dg.f;exact Ev.bind (FM x0 (by omega)) (Ev.bind (aG x4 hl hb) (Ev.now _))
theorem wI (x0:List Int) (x1 x2 x3:Int) (x4:List jf) (h0:x0.length ≤ 9223372036854775807) (hl:x4.length ≤ 9223372036854775807) (hb:∀ x ∈ x4,x.f0.length ≤ 9223372036854775807):Ev (fun k=>Xh.f k x0 x1 x2 x3 x4 x0 x1 x2 x3 x4) true:=by
 unfold Xh.f;refine Ev.bind (qB x0 h0) ?_;refine Ev.pos rfl (Ev.pos rfl (Ev.pos rfl (Ev.pos rfl ?_)));exact Ev.bind (jG x4 hl hb) (Ev.pos rfl (Ev.now _))
def Ae.l0:Nat→List ByteArray→ByteArray→Int→Option (Bool)
 | 0,_,_,_=>none
 | k + 1,x0,x1,x5=>if x5 < (x0.length:Int) then (if 0 ≤ x5 then (if (lg ByteArray.empty x0 x5).toList=x1.toList then (some true) else (Ae.l0 k x0 x1 (wrap64 (x5 + 1)))) else (none)) else (some false)
def Ae.f (k:Nat) (l0:List ByteArray) (a1:ByteArray):Option (Bool):=Ae.l0 k l0 a1 0
theorem Ae.calls (k:Nat) (A0:Option Addr) (c0:Nat) (l0:List ByteArray) (a1:ByteArray) (r:Bool) (w:World) (aj:Kd.C Kd.string w A0 l0.length l0) (hc0:l0.length ≤ c0) (h:Ae.f k l0 a1=some r) :
  Calls Try.prog 135 #[.slice A0 l0.length c0,.string a1] w fun e w'=>e = .returned (.bool r)∧tc w w':=by
 have Pk:=ga.mk aj;have KE:=ga.mk hc0;clear aj hc0;have H:(Ae.l0 k l0 a1 0)=some r:=h;clear h;have H':=ga.mk H;clear H;go_enter Try.func135,Try.ntmps135;go_wp2
 go_loopg [5] k (fun kq v5 w'=>∃ (Ba:Int),v5 = .int .i64 Ba∧ga (Ae.l0 kq l0 a1 Ba=some r)∧ga (kq ≤ k)∧tc w w')
 case atStart=>exact ⟨(0),(by first|rfl|(simp;done)|(simp [*];done)),H',⟨Nat.le_refl _⟩,by repeat (first|exact tc.refl _|apply tc.step)⟩
 case round =>
  clear H'
  try clear c1
  try clear p2
  (try clear HA);(try clear Nf);obtain ⟨Ba,rfl,HA,Nf,⟨m1,rfl⟩⟩:=hrel;cases gk with
  | zero=>exact absurd HA.out (by simp [Ae.l0])
  | succ k1 =>
   have H:=HA.out;clear HA;simp only [Ae.l0] at H
   by_cases c3:Ba < (l0.length:Int)
   ·rw [if_pos c3] at H;have Gg:decide (Ba < (l0.length:Int))=true:=decide_eq_true c3;clear c3
    by_cases c4:0 ≤ Ba
    ·rw [if_pos c4] at H;have yj:decide (0 ≤ Ba)=true:=decide_eq_true c4;clear c4
     by_cases c5:(lg ByteArray.empty l0 Ba).toList=a1.toList
     ·rw [if_pos c5] at H;have Il:((lg ByteArray.empty l0 Ba).toList == a1.toList)=true:=beq_iff_eq.mpr c5;have sx:((lg ByteArray.empty l0 Ba).toList != a1.toList)=false:=bne_eq_false_iff_eq.mpr c5;clear c5;obtain rfl:=Option.some.inj H;have lf:0 ≤ (Ba:Int):=of_decide_eq_true (by first|(with_reducible assumption)|assumption);have kf:Ba < (l0.length:Int):=of_decide_eq_true (by first|(with_reducible assumption)|assumption);obtain ⟨ie,Ei,Gd⟩:=Kd.Bt Pk.out Ba lf kf;cases Ei;replace lf:=eq_true lf;replace kf:=eq_true kf;go_wp2;go_ret;exact ⟨by first|rfl|(simp;done)|(simp [*];done),by repeat (first|exact tc.refl _|apply tc.step)⟩
     ·rw [if_neg c5] at H;have Il:((lg ByteArray.empty l0 Ba).toList == a1.toList)=false:=beq_eq_false_iff_ne.mpr c5;have sx:((lg ByteArray.empty l0 Ba).toList != a1.toList)=true:=bne_iff_ne.mpr c5;have H':=ga.mk H;clear H;have lf:0 ≤ (Ba:Int):=of_decide_eq_true (by first|(with_reducible assumption)|assumption);have kf:Ba < (l0.length:Int):=of_decide_eq_true (by first|(with_reducible assumption)|assumption);obtain ⟨ie,Ei,Gd⟩:=Kd.Bt Pk.out Ba lf kf;cases Ei;replace lf:=eq_true lf;replace kf:=eq_true kf;go_wp2
      go_roundg k1
      case measure=>have:=Nf.out;omega
      case rel=>exact ⟨(wrap64 (Ba + 1)),(by first|rfl|(simp;done)|(simp [*];done)),H',⟨by have:=Nf.out;omega⟩,by repeat (first|exact tc.refl _|apply tc.step)⟩
    ·rw [if_neg c4] at H;exact absurd H (by simp)
   ·rw [if_neg c3] at H;have Gg:decide (Ba < (l0.length:Int))=false:=decide_eq_false c3;clear c3;obtain rfl:=Option.some.inj H;go_wp2;go_ret;exact ⟨by first|rfl|(simp;done)|(simp [*];done),by repeat (first|exact tc.refl _|apply tc.step)⟩
def Za.f (a0:Int) (a1:Int) (a2:Int):Option (Bool):=if a0 ≥ a1 then (some (decide (a0 ≤ a2))) else (some false)
theorem Za.calls (a0:Int) (a1:Int) (a2:Int) (r:Bool) (w:World) (h:Za.f a0 a1 a2=some r) :
  Calls Try.prog 81 #[.int .i64 a0,.int .i64 a1,.int .i64 a2] w fun e w'=>e = .returned (.bool r)∧tc w w':=by
 have H:(if a0 ≥ a1 then (some (decide (a0 ≤ a2))) else (some false))=some r:=h;clear h
 by_cases c4:a0 ≥ a1
 ·rw [if_pos c4] at H;have yj:decide (a1 ≤ a0)=true:=decide_eq_true c4;clear c4;obtain rfl:=Option.some.inj H;go_enter Try.func81,Try.ntmps81;go_wp2;go_ret;exact ⟨by first|rfl|(simp;done)|(simp [*];done),by repeat (first|exact tc.refl _|apply tc.step)⟩
 ·rw [if_neg c4] at H;have yj:decide (a1 ≤ a0)=false:=decide_eq_false c4;clear c4;obtain rfl:=Option.some.inj H;go_enter Try.func81,Try.ntmps81;go_wp2;go_ret;exact ⟨by first|rfl|(simp;done)|(simp [*];done),by repeat (first|exact tc.refl _|apply tc.step)⟩
end Go.Proofs.Ytoomcmaifgkkfaa.P
end
