import Derived.Shelf.Abstract
import Derived.Test.YtkigbdceceeenaaQLiveIn1
import Derived.Test.YtkigbdceceeenaaQLiveIn4
import Derived.Outline
import Derived.RegionTactic
import Derived.Deep.QuietTactic
import Derived.BigQuiet
set_option maxHeartbeats 8000000
set_option maxRecDepth 100000
section
namespace Go.Proofs.Ytkigbdceceeenaa.P
open Go.RowKit Go.Proofs.Sa.Wb Go.Proofs.Sa.je Go.Proofs.Sa.Qf
set_option linter.unusedVariables false
set_option linter.unusedSimpArgs false
theorem uC (g:Nat) (lb:Array Value) (p:ye→Bool) (eg:∀ args w,(callFunc g args).run Try.prog w = .ok (.enter g args) w) (A0:Option Addr) (c0:Nat) (l0:List ye) (w:World) (nk:Kd.C Gi w A0 l0.length l0) (hc0:l0.length ≤ c0)
  (hp:∀ (W:World) (x:ye),Below w.heap.size w W→Calls Try.prog g (#[(.agg #[.int .i64 x.f0,.int .i64 x.f1,.int .i64 x.f2,.int .i64 x.f3,.int .i64 x.f4,.int .i64 x.f5,.string x.f6])] ++ lb) W fun e w'=>e = .returned (.bool (p x))∧Below W.heap.size W w') :
  Calls Try.prog 120 #[.slice A0 l0.length c0,.func (.func g) #[] lb] w fun e w'=>(∃ i:Int,e = .returned (.int .i64 i)∧decide (0 ≤ i)=l0.any p)∧Below w.heap.size w w':=by
 have hmx:=nk.2.1;have mo:=ja.mk nk;have ZH:=ja.mk hc0;have HP:=ja.mk hp;clear nk hc0 hp;go_enter Try.func120,Try.ntmps120;go_wp2
 go_loopg [5,8] l0.length (fun gg _ s8 wr=>∃ kk:Nat,kk ≤ l0.length∧l0.length - kk ≤ gg∧s8 = .int .i64 kk∧ja (Below w.heap.size w wr)∧ja ((l0.take kk).any p=false))
 case atStart=>exact ⟨0,Nat.zero_le _,by omega,rfl,⟨Below.refl _ w⟩,⟨by simp⟩⟩
 case round =>
  (try clear BW);(try clear HA);obtain ⟨kk,hkk,hg,rfl,BW,HA⟩:=hrel
  by_cases hlt:kk < l0.length
  ·have p1:0 ≤ (kk:Int):=by omega
   have q1:(kk:Int) < (l0.length:Int):=by omega
   obtain ⟨ad,e1,hx0,hx1,iC,Zy,Qx,vO,kI⟩:=Hp mo.out (kk:Int) p1 q1;cases e1;simp only [Int.toNat_natCast] at hx0 hx1 iC Zy Qx vO kI;replace hx0:=(BW.out.cell (World.block_lt_of_cell? w _ hx0)).trans hx0;replace hx1:=(BW.out.cell (World.block_lt_of_cell? w _ hx1)).trans hx1;replace iC:=(BW.out.cell (World.block_lt_of_cell? w _ iC)).trans iC;replace Zy:=(BW.out.cell (World.block_lt_of_cell? w _ Zy)).trans Zy;replace Qx:=(BW.out.cell (World.block_lt_of_cell? w _ Qx)).trans Qx;replace vO:=(BW.out.cell (World.block_lt_of_cell? w _ vO)).trans vO;replace kI:=(BW.out.cell (World.block_lt_of_cell? w _ kI)).trans kI;have ux:=HP.out wr (Ca l0 (kk:Int)) BW.out;cases hq:p (Ca l0 (kk:Int)) with
   | true =>
    rw [hq] at ux;go_wp2_with (go_at_fn g;refine ux.mono ?_;rintro e w1 ⟨rfl,wz⟩);go_ret;exact ⟨⟨_,rfl,by rw [UM (d:=Xr) hlt hq];simp⟩,BW.out.trans (wz.mono BW.out.size)⟩
   | false =>
    rw [hq] at ux;go_wp2_with (go_at_fn g;refine ux.mono ?_;rintro e w1 ⟨rfl,wz⟩)
    go_roundg (l0.length - (kk + 1))
    case measure=>omega
    case rel=>exact ⟨kk + 1,by omega,by omega,by go_num,⟨BW.out.trans (wz.mono BW.out.size)⟩,⟨Au (d:=Xr) hlt HA.out hq⟩⟩
  ·have Nak:¬ (kk:Int) < (l0.length:Int):=by omega
   have he:kk=l0.length:=by omega
   subst he;go_wp2;go_ret;exact ⟨⟨_,rfl,by have h_:=HA.out;rw [List.take_length] at h_;rw [h_];simp⟩,BW.out⟩
theorem Tu (g:Nat) (lb:Array Value) (p:ye→Bool) (eg:∀ args w,(callFunc g args).run Try.prog w = .ok (.enter g args) w) (A0:Option Addr) (c0:Nat) (l0:List ye) (w:World) (nk:Kd.C Gi w A0 l0.length l0) (hc0:l0.length ≤ c0)
  (hp:∀ (W:World) (x:ye),Below w.heap.size w W→Calls Try.prog g (#[(.agg #[.int .i64 x.f0,.int .i64 x.f1,.int .i64 x.f2,.int .i64 x.f3,.int .i64 x.f4,.int .i64 x.f5,.string x.f6])] ++ lb) W fun e w'=>e = .returned (.bool (p x))∧Below W.heap.size W w') :
  Calls Try.prog 102 #[.slice A0 l0.length c0,.func (.func g) #[] lb] w fun e w'=>e = .returned (.bool (l0.any p))∧Below w.heap.size w w':=by
 have HI:=ja.mk (uC g lb p eg A0 c0 l0 w nk hc0 hp);clear nk hc0 hp;go_enter Try.func102,Try.ntmps102;go_wp2_with (go_at_call 120;refine HI.out.mono ?_;rintro e w1 ⟨⟨i,rfl,hi⟩,wz⟩;have HD:=ja.mk hi;clear hi);go_ret;exact ⟨by rw [← HD.out];first|rfl|simp,wz⟩
attribute [local go_sem] ei ai Tj Sj Yg Xg di Zh
def Ab.l0:Nat→List ByteArray→ByteArray→Int→Int→Option (Int)
 | 0,_,_,_,_=>none
 | k + 1,x0,x1,x7,x8=>if x8 < x7 then (if 0 ≤ x8 then (if x8 < (x0.length:Int) then (if x1.toList=(Rf ByteArray.empty x0 x8).toList then (some x8) else (Ab.l0 k x0 x1 x7 (wrap64 (x8 + 1)))) else (none)) else (none)) else (some (-1))
def Ab.f (k:Nat) (l0:List ByteArray) (a1:ByteArray):Option (Int):=Ab.l0 k l0 a1 (l0.length:Int) 0
theorem Ab.jB:∀ k,(∀ y0 y1 y2 y3,Xl (Ab.l0 k y0 y1 y2 y3) (Ab.l0 (k + 1) y0 y1 y2 y3))
 | 0=>fun _ _ _ _ r h=>by simp [Ab.l0] at h
 | k + 1=>by
  have oP:=Ab.jB k
  ·intro y0 y1 y2 y3;unfold Ab.l0
   repeat' first
   | (with_reducible exact oP _ _ _ _)
   | (with_reducible exact Xl.refl _)
   | (with_reducible exact Xl.none _)
   | (with_reducible refine Xl.ite ?_ ?_)
   | (with_reducible refine Xl.bind ?_ (fun _=>?_))
   | exact oP _ _ _ _
   | exact Xl.none _
   | refine Xl.ite ?_ ?_
   | refine Xl.bind ?_ (fun _=>?_)
theorem Ab.mono:∀ a0 a1 k,Xl (Ab.f k a0 a1) (Ab.f (k + 1) a0 a1):=by
 intro a0 a1 k;have oP:=Ab.jB k;unfold Ab.f
 repeat' first
   | (with_reducible exact oP _ _ _ _)
   | (with_reducible exact Xl.refl _)
   | (with_reducible exact Xl.none _)
   | (with_reducible refine Xl.ite ?_ ?_)
   | (with_reducible refine Xl.bind ?_ (fun _=>?_))
   | exact oP _ _ _ _
   | exact Xl.none _
   | refine Xl.ite ?_ ?_
   | refine Xl.bind ?_ (fun _=>?_)
theorem Ab.calls (k:Nat) (A0:Option Addr) (c0:Nat) (l0:List ByteArray) (a1:ByteArray) (r:Int) (w:World) (nk:Kd.C Kd.string w A0 l0.length l0) (hc0:l0.length ≤ c0) (h:Ab.f k l0 a1=some r) :
  Calls Try.prog 109 #[.slice A0 l0.length c0,.string a1] w fun e w'=>e = .returned (.int .i64 r)∧Lc w w':=by
 have mo:=ja.mk nk;have ZH:=ja.mk hc0;clear nk hc0;have H:(Ab.l0 k l0 a1 (l0.length:Int) 0)=some r:=h;clear h;have H':=ja.mk H;clear H;go_enter Try.func109,Try.ntmps109;go_wp2
 go_loopg [8] k (fun kq v8 w'=>∃ (Po:Int),v8 = .int .i64 Po∧ja (Ab.l0 kq l0 a1 (l0.length:Int) Po=some r)∧ja (kq ≤ k)∧Lc w w')
 case atStart=>exact ⟨(0),(by first|rfl|(simp;done)|(simp [*];done)),H',⟨Nat.le_refl _⟩,by repeat (first|exact Lc.refl _|apply Lc.step)⟩
 case round =>
  clear H'
  try clear c1
  try clear p2
  (try clear HA);(try clear qg);obtain ⟨Po,rfl,HA,qg,⟨m1,rfl⟩⟩:=hrel;cases gk with
  | zero=>exact absurd HA.out (by simp [Ab.l0])
  | succ k1 =>
   have H:=HA.out;clear HA;simp only [Ab.l0] at H
   by_cases c3:Po < (l0.length:Int)
   ·rw [if_pos c3] at H;have Wg:decide (Po < (l0.length:Int))=true:=decide_eq_true c3;clear c3
    by_cases c4:0 ≤ Po
    ·rw [if_pos c4] at H;have tj:decide (0 ≤ Po)=true:=decide_eq_true c4;clear c4
     by_cases c5:Po < (l0.length:Int)
     ·rw [if_pos c5] at H;have ki:decide (Po < (l0.length:Int))=true:=decide_eq_true c5;clear c5
      by_cases c6:a1.toList=(Rf ByteArray.empty l0 Po).toList
      ·rw [if_pos c6] at H;have Sm:(a1.toList == (Rf ByteArray.empty l0 Po).toList)=true:=beq_iff_eq.mpr c6;have Bz:(a1.toList != (Rf ByteArray.empty l0 Po).toList)=false:=bne_eq_false_iff_eq.mpr c6;clear c6;obtain rfl:=Option.some.inj H;have zf:0 ≤ (Po:Int):=Ua;have yf:Po < (l0.length:Int):=Ua;obtain ⟨qe,sj,Td⟩:=Kd.eu mo.out Po zf yf;cases sj;replace zf:=eq_true zf;replace yf:=eq_true yf;go_wp2;go_ret;exact ⟨by first|rfl|(simp;done)|(simp [*];done),by repeat (first|exact Lc.refl _|apply Lc.step)⟩
      ·rw [if_neg c6] at H;have Sm:(a1.toList == (Rf ByteArray.empty l0 Po).toList)=false:=beq_eq_false_iff_ne.mpr c6;have Bz:(a1.toList != (Rf ByteArray.empty l0 Po).toList)=true:=bne_iff_ne.mpr c6;have H':=ja.mk H;clear H;have zf:0 ≤ (Po:Int):=Ua;have yf:Po < (l0.length:Int):=Ua;obtain ⟨qe,sj,Td⟩:=Kd.eu mo.out Po zf yf;cases sj;replace zf:=eq_true zf;replace yf:=eq_true yf;go_wp2
       go_roundg k1
       case measure=>have:=qg.out;omega
       case rel=>exact ⟨(wrap64 (Po + 1)),(by first|rfl|(simp;done)|(simp [*];done)),H',⟨by have:=qg.out;omega⟩,by repeat (first|exact Lc.refl _|apply Lc.step)⟩
     ·rw [if_neg c5] at H;exact absurd H (by simp)
    ·rw [if_neg c4] at H;exact absurd H (by simp)
   ·rw [if_neg c3] at H;have Wg:decide (Po < (l0.length:Int))=false:=decide_eq_false c3;clear c3;obtain rfl:=Option.some.inj H;go_wp2;go_ret;exact ⟨by first|rfl|(simp;done)|(simp [*];done),by repeat (first|exact Lc.refl _|apply Lc.step)⟩
def Qc.f (k:Nat) (l0:List ByteArray) (a1:ByteArray):Option (Bool):=(Ab.f k l0 a1).bind fun t101=>(some (decide (t101 ≥ 0)))
theorem Qc.mono:∀ a0 a1 k,Xl (Qc.f k a0 a1) (Qc.f (k + 1) a0 a1):=by
 intro a0 a1 k;unfold Qc.f
 repeat' first
   | (with_reducible exact Ab.mono _ _ _)
   | (with_reducible exact Xl.refl _)
   | (with_reducible exact Xl.none _)
   | (with_reducible refine Xl.ite ?_ ?_)
   | (with_reducible refine Xl.bind ?_ (fun _=>?_))
   | exact Ab.mono _ _ _
   | exact Xl.none _
   | refine Xl.ite ?_ ?_
   | refine Xl.bind ?_ (fun _=>?_)
theorem Qc.calls (k:Nat) (A0:Option Addr) (c0:Nat) (l0:List ByteArray) (a1:ByteArray) (r:Bool) (w:World) (nk:Kd.C Kd.string w A0 l0.length l0) (hc0:l0.length ≤ c0) (h:Qc.f k l0 a1=some r) :
  Calls Try.prog 126 #[.slice A0 l0.length c0,.string a1] w fun e w'=>e = .returned (.bool r)∧Lc w w':=by
 have mo:=ja.mk nk;have ZH:=ja.mk hc0;clear nk hc0;have H:((Ab.f k l0 a1).bind fun t101=>(some (decide (t101 ≥ 0))))=some r:=h;clear h;replace H:=Option.bind_eq_some_iff.mp H;obtain ⟨t101,Zu,H⟩:=H;replace H:(some (decide (t101 ≥ 0)))=some r:=H;have A3:=ja.mk Zu;clear Zu;obtain rfl:=Option.some.inj H;go_enter Try.func126,Try.ntmps126;go_wp2_with (first|((with_reducible refine qb (f:=109) rfl ?_);refine Mc (some 7) rfl rfl Try.func109 (by kernel_rfl) rfl #[.slice A0 l0.length c0,.string a1] rfl (by (try simp only [List.map_toArray,List.map_cons,List.map_nil]);first|done|rfl|(simp only [List.length_drop,List.length_take];rfl)) ?_;(with_reducible refine (Ab.calls k _ _ l0 a1 t101 _ ?Jc ?Ic A3.out).mono ?_);(case Jc=>repeat (first|exact mo.out|(with_reducible refine Kd.Tb ?_ _)|(with_reducible refine Kd.Sb ?_ _)|(with_reducible refine Kd.qc ?_)));(case Ic=>exact ZH.out);rintro e w' ⟨rfl,⟨nd,rfl⟩⟩;refine ⟨_,rfl,?_⟩));go_ret;exact ⟨by first|rfl|(simp;done)|(simp [*];done),by repeat (first|exact Lc.refl _|apply Lc.step)⟩
def Nm.f (k:Nat) (a0:ByteArray):Option (Bool):=(Qc.f k (([(⟨#[61,61]⟩:ByteArray),(⟨#[60]⟩:ByteArray),(⟨#[38]⟩:ByteArray),(⟨#[43]⟩:ByteArray),(⟨#[45]⟩:ByteArray),(⟨#[42]⟩:ByteArray)]:List ByteArray)) a0).bind fun t104=>(some t104)
theorem Nm.calls (k:Nat) (a0:ByteArray) (r:Bool) (w:World) (h:Nm.f k a0=some r) :
  Calls Try.prog 122 #[.string a0] w fun e w'=>e = .returned (.bool r)∧Below w.heap.size w w':=by
 have HB:=ja.mk (Below.refl w.heap.size w);have H:((Qc.f k (([(⟨#[61,61]⟩:ByteArray),(⟨#[60]⟩:ByteArray),(⟨#[38]⟩:ByteArray),(⟨#[43]⟩:ByteArray),(⟨#[45]⟩:ByteArray),(⟨#[42]⟩:ByteArray)]:List ByteArray)) a0).bind fun t104=>(some t104))=some r:=h;clear h;obtain ⟨tf,Af⟩:∃ y_:List ByteArray,y_=(([(⟨#[61,61]⟩:ByteArray),(⟨#[60]⟩:ByteArray),(⟨#[38]⟩:ByteArray),(⟨#[43]⟩:ByteArray),(⟨#[45]⟩:ByteArray),(⟨#[42]⟩:ByteArray)]:List ByteArray)):=⟨_,rfl⟩;replace H:((Qc.f k tf a0).bind fun t104=>(some t104))=some r:=by first|(rw [Af];with_reducible exact H)|(have Gd:=(Option.bind_some _ _).symm.trans H;rw [Af];with_reducible exact Gd)|(have Gd:=(Option.bind_some _ _).symm.trans H;with_reducible exact Gd)|with_reducible exact H|(rw [Af];exact H)|exact H
 have Qj:=ja.mk Af;clear Af;replace H:=Option.bind_eq_some_iff.mp H;obtain ⟨t104,sN,H⟩:=H;replace H:(some t104)=some r:=H;have A2:=ja.mk sN;clear sN;obtain rfl:=Option.some.inj H;go_enter Try.func122,Try.ntmps122;go_wp2_with (first|((with_reducible refine xb (N:=3) rfl ?_);refine Kd.ni Kd.string _ 9 ?hg (N:=3) ?hd (xs:=([(⟨#[61,61]⟩:ByteArray),(⟨#[60]⟩:ByteArray),(⟨#[38]⟩:ByteArray),(⟨#[43]⟩:ByteArray),(⟨#[45]⟩:ByteArray),(⟨#[42]⟩:ByteArray)]:List ByteArray)) (inner:=[.string (⟨#[61,61]⟩:ByteArray),.string (⟨#[60]⟩:ByteArray),.string (⟨#[38]⟩:ByteArray),.string (⟨#[43]⟩:ByteArray),.string (⟨#[45]⟩:ByteArray),.string (⟨#[42]⟩:ByteArray)]) (ok:=fun _=>True) (Lh:=fun _=>True) ?hr ?hp (fun _ hk=>hk) trivial (Below.refl _ _) (Nat.le_refl _) (by simp) ?_;(case hd=>rfl);(case hg=>rfl);(case hr=>first|(go_simp;done)|(go_simp;rfl));(case hp=>exact (td.one (show Kd.M Kd.string _ _ _ (⟨#[61,61]⟩:ByteArray) [.string (⟨#[61,61]⟩:ByteArray)] from rfl) (td.one (show Kd.M Kd.string _ _ _ (⟨#[60]⟩:ByteArray) [.string (⟨#[60]⟩:ByteArray)] from rfl) (td.one (show Kd.M Kd.string _ _ _ (⟨#[38]⟩:ByteArray) [.string (⟨#[38]⟩:ByteArray)] from rfl) (td.one (show Kd.M Kd.string _ _ _ (⟨#[43]⟩:ByteArray) [.string (⟨#[43]⟩:ByteArray)] from rfl) (td.one (show Kd.M Kd.string _ _ _ (⟨#[45]⟩:ByteArray) [.string (⟨#[45]⟩:ByteArray)] from rfl) (td.one (show Kd.M Kd.string _ _ _ (⟨#[42]⟩:ByteArray) [.string (⟨#[42]⟩:ByteArray)] from rfl) (td.none _ _))))))));intro IG w3 jy hb om Le;clear om Le;(first|rw [← Qj.out] at jy|(simp only [Int.reduceToNat] at jy;rw [← Qj.out] at jy));have Bb:=ja.mk (Kd.Dd jy (Ka (by repeat (first|(with_reducible first|exact HB.out|apply qa|apply ia|apply ta)|exact HB.out))));have Gb:=ja.mk (Qa (by repeat (first|(with_reducible first|exact HB.out|apply qa|apply ia|apply ta)|exact HB.out)) hb);clear HB;have Wp:=Bb;have HB:=Gb;clear Bb Gb hb jy;obtain ⟨Ao5,co5,KZ⟩:=Kd.Ud Wp.out;subst KZ)|((with_reducible refine qb (f:=126) rfl ?_);refine Mc (some 5) rfl rfl Try.func126 (by kernel_rfl) rfl #[.slice Ao5 tf.length co5,.string a0] rfl (by (try simp only [List.map_toArray,List.map_cons,List.map_nil]);first|done|rfl|(simp only [List.length_drop,List.length_take];rfl)) ?_;(with_reducible refine (Qc.calls k _ _ tf a0 t104 _ ?Jc ?Ic A2.out).mono ?_);(case Jc=>repeat (first|exact (Kd.dc Wp.out).2.2|(with_reducible refine Kd.Tb ?_ _)|(with_reducible refine Kd.Sb ?_ _)|(with_reducible refine Kd.qc ?_)));(case Ic=>exact (Kd.dc Wp.out).2.1);rintro e w' ⟨rfl,⟨nd,rfl⟩⟩;refine ⟨_,rfl,?_⟩));go_ret;exact ⟨by first|rfl|(simp [Na,Ma] <;> rfl)|(simp [*,Na,Ma] <;> rfl),by repeat (first|(with_reducible first|exact HB.out|apply qa|apply ia|apply ta)|exact HB.out)⟩
theorem VG (g:Nat) (lb:Array Value) (p:Int→Bool) (eg:∀ args w,(callFunc g args).run Try.prog w = .ok (.enter g args) w) (A0:Option Addr) (c0:Nat) (l0:List Int) (w:World) (nk:Kd.C (Kd.int .i64) w A0 l0.length l0) (hc0:l0.length ≤ c0)
  (hp:∀ (W:World) (x:Int),Below w.heap.size w W→Calls Try.prog g (#[(.int .i64 x)] ++ lb) W fun e w'=>e = .returned (.bool (p x))∧Below W.heap.size W w') :
  Calls Try.prog 115 #[.slice A0 l0.length c0,.func (.func g) #[] lb] w fun e w'=>(∃ i:Int,e = .returned (.int .i64 i)∧decide (0 ≤ i)=l0.any p)∧Below w.heap.size w w':=by
 have hmx:=nk.2.1;have mo:=ja.mk nk;have ZH:=ja.mk hc0;have HP:=ja.mk hp;clear nk hc0 hp;go_enter Try.func115,Try.ntmps115;go_wp2
 go_loopg [5,8] l0.length (fun gg _ s8 wr=>∃ kk:Nat,kk ≤ l0.length∧l0.length - kk ≤ gg∧s8 = .int .i64 kk∧ja (Below w.heap.size w wr)∧ja ((l0.take kk).any p=false))
 case atStart=>exact ⟨0,Nat.zero_le _,by omega,rfl,⟨Below.refl _ w⟩,⟨by simp⟩⟩
 case round =>
  (try clear BW);(try clear HA);obtain ⟨kk,hkk,hg,rfl,BW,HA⟩:=hrel
  by_cases hlt:kk < l0.length
  ·have p1:0 ≤ (kk:Int):=by omega
   have q1:(kk:Int) < (l0.length:Int):=by omega
   obtain ⟨ad,e1,hx0⟩:=Kd.ek mo.out (kk:Int) p1 q1;cases e1;simp only [Int.toNat_natCast] at hx0;replace hx0:=(BW.out.cell (World.block_lt_of_cell? w _ hx0)).trans hx0;have ux:=HP.out wr (rd l0 (kk:Int)) BW.out;cases hq:p (rd l0 (kk:Int)) with
   | true =>
    rw [hq] at ux;go_wp2_with (go_at_fn g;refine ux.mono ?_;rintro e w1 ⟨rfl,wz⟩);go_ret;exact ⟨⟨_,rfl,by rw [UM (d:=0) hlt hq];simp⟩,BW.out.trans (wz.mono BW.out.size)⟩
   | false =>
    rw [hq] at ux;go_wp2_with (go_at_fn g;refine ux.mono ?_;rintro e w1 ⟨rfl,wz⟩)
    go_roundg (l0.length - (kk + 1))
    case measure=>omega
    case rel=>exact ⟨kk + 1,by omega,by omega,by go_num,⟨BW.out.trans (wz.mono BW.out.size)⟩,⟨Au (d:=0) hlt HA.out hq⟩⟩
  ·have Nak:¬ (kk:Int) < (l0.length:Int):=by omega
   have he:kk=l0.length:=by omega
   subst he;go_wp2;go_ret;exact ⟨⟨_,rfl,by have h_:=HA.out;rw [List.take_length] at h_;rw [h_];simp⟩,BW.out⟩
theorem Hy (g:Nat) (lb:Array Value) (p:Int→Bool) (eg:∀ args w,(callFunc g args).run Try.prog w = .ok (.enter g args) w) (A0:Option Addr) (c0:Nat) (l0:List Int) (w:World) (nk:Kd.C (Kd.int .i64) w A0 l0.length l0) (hc0:l0.length ≤ c0)
  (hp:∀ (W:World) (x:Int),Below w.heap.size w W→Calls Try.prog g (#[(.int .i64 x)] ++ lb) W fun e w'=>e = .returned (.bool (p x))∧Below W.heap.size W w') :
  Calls Try.prog 99 #[.slice A0 l0.length c0,.func (.func g) #[] lb] w fun e w'=>e = .returned (.bool (l0.any p))∧Below w.heap.size w w':=by
 have HI:=ja.mk (VG g lb p eg A0 c0 l0 w nk hc0 hp);clear nk hc0 hp;go_enter Try.func99,Try.ntmps99;go_wp2_with (go_at_call 115;refine HI.out.mono ?_;rintro e w1 ⟨⟨i,rfl,hi⟩,wz⟩;have HD:=ja.mk hi;clear hi);go_ret;exact ⟨by rw [← HD.out];first|rfl|simp,wz⟩
def Nj (a b c:Int):Bool:=decide (b ≤ a) && decide (a ≤ c)
theorem Zj (a b c:Int) (w:World):Calls Try.prog 55 #[.int .i64 a,.int .i64 b,.int .i64 c] w fun e w'=>e = .returned (.bool (Nj a b c))∧Lc w w' :=
 Zf.calls a b c (Nj a b c) w (by
  unfold Zf.f Nj
  by_cases h:a ≥ b
  ·rw [if_pos h];have h':b ≤ a:=h;simp [h']
  ·rw [if_neg h];have h':¬ b ≤ a:=h
   simp [h'])
def Cu (l:List Int) (p v:Int):Bool:=Nj (l.length:Int) 1 4 && !(l.any fun n=>!Nj n 1 16) && Nj p 0 (if v < 6 then v else 6) && decide (v ≤ 20)
theorem RG (W:World) (x:Int):Calls Try.prog 100 #[.int .i64 x] W fun e w'=>e = .returned (.bool (!Nj x 1 16))∧Below W.heap.size W w':=by
 have HC:=ja.mk (Zj x 1 16);generalize Nj x 1 16=b at HC ⊢;go_enter Try.func100,Try.ntmps100;go_wp2_with (go_at_call 55;refine (HC.out _).mono ?_;rintro e w1 ⟨rfl,wz⟩;have HD:=ja.mk wz.below;clear wz);go_ret;exact ⟨rfl,HD.out⟩
theorem kG (p0 p1 p2 p3:Value) (A:Option Addr) (c:Nat) (w:World) :
  Calls Try.prog 101 #[.agg #[p0,p1,p2,p3],.slice A 0 c,.int .i64 0] w fun e w'=>e = .returned (.bool true)∧Below w.heap.size w w':=by
 go_enter Try.func101,Try.ntmps101;go_wp2
 go_loop [25] (fun i=>i = .int .i64 0) (fun _=>0)
 case atStart=>exact rfl
 case round =>
  obtain rfl:=hrel;go_wp2;go_ret;exact ⟨rfl,qa (qa (Below.refl _ _) _) _⟩
theorem tC (A0 A3:Option Addr) (c0 c3:Nat) (l0:List Int) (a1 a2:Int) (w:World) (nk:Kd.C (Kd.int .i64) w A0 l0.length l0) (hc0:l0.length ≤ c0) :
  Calls Try.prog 76 #[.agg #[.slice A0 l0.length c0,.int .i64 a1,.int .i64 a2,.slice A3 0 c3]] w fun e w'=>e = .returned (.bool (Cu l0 a1 a2))∧Below w.heap.size w w':=by
 have eg:=enters_of Try.func100 (by kernel_rfl) rfl;have hmx:=nk.2.1;have rO:=ja.mk (Zj (l0.length:Int) 1 4);have qO:=ja.mk (Zj a1 0 (if a2 < 6 then a2 else 6));have HF:=ja.mk (fun (W:World) (hb:Below w.heap.size w W)=>Hy 100 #[] (fun n=>!Nj n 1 16) eg A0 c0 l0 W (Kd.Mb nk hb) hc0 (fun W x _=>RG W x));clear nk hc0;unfold Cu
 by_cases h6:a2 < 6
 all_goals
  have hmin:min 6 a2=if a2 < 6 then a2 else 6:=by split <;> omega
  first|rw [if_pos h6] at qO hmin ⊢|rw [if_neg h6] at qO hmin ⊢
  cases wz:Nj (l0.length:Int) 1 4 with
  | false =>
   go_enter Try.func76,Try.ntmps76;go_wp2_with (first|(go_at_call 55;refine (Zj _ _ _ _).mono ?_;rintro e w1 ⟨rfl,⟨n,rfl⟩⟩));go_ret;exact ⟨rfl,ia (qa (Below.refl _ _) _) _⟩
  | true =>
   cases si:(l0.any fun n=>!Nj n 1 16) with
   | true =>
    rw [si] at HF;go_enter Try.func76,Try.ntmps76;go_wp2_with (first|(go_at_call 55;refine (Zj _ _ _ _).mono ?_;rintro e w1 ⟨rfl,⟨n,rfl⟩⟩)|(go_at_call 99;refine (HF.out _ (ia (qa (Below.refl _ _) _) _)).mono ?_;rintro e w1 ⟨rfl,hb⟩;have HB:=ja.mk (Qa (ia (qa (Below.refl _ _) _) _) hb);clear hb));go_ret;exact ⟨rfl,HB.out⟩
   | false =>
    rw [si] at HF;go_enter Try.func76,Try.ntmps76;go_wp2_with (first|(go_at_call 55;(with_reducible refine (Zj _ _ _ _).mono ?_);rintro e w1 ⟨rfl,⟨n,rfl⟩⟩)|(go_at_call 99;(with_reducible refine (HF.out _ (ia (qa (Below.refl _ _) _) _)).mono ?_);rintro e w1 ⟨rfl,hb⟩;have HB:=ja.mk (Qa (ia (qa (Below.refl _ _) _) _) hb);obtain ⟨jV,bU⟩:=eX hb;have RI:=hb.size;simp at RI;clear hb)|(go_at_call 101;(with_reducible refine (kG _ _ _ _ _ _ _).mono ?_);rintro e w2 ⟨rfl,hb⟩;have Xu:=ja.mk (Qa (ia HB.out _) hb);clear hb))
    all_goals
     go_ret
     first
      | exact ⟨by simp [*],Xu.out⟩
      | exact ⟨by simp [*],ia HB.out _⟩
def ig.f (Ra:List Int) (La:Int) (Ja:Int) (MI:List (Oy)):Option Bool:=if MI.length=0 then some (Cu Ra La Ja) else none
theorem ig.calls (Za:Option Addr) (gb:Nat) (Ra:List Int) (La:Int) (Ja:Int) (n3:Option Addr) (U0:Nat) (MI:List (Oy)) (r:Bool) (w:World) (Zd:Kd.C (Kd.int .i64) w Za Ra.length Ra) (Xd:Ra.length ≤ gb) (gao:Kd.C Uaj w n3 MI.length MI) (vaq:MI.length ≤ U0) (h:ig.f Ra La Ja MI=some r) :
  Calls Try.prog 76 #[.agg #[.slice Za Ra.length gb,.int .i64 La,.int .i64 Ja,.slice n3 MI.length U0]] w fun e w'=>e = .returned (.bool r)∧Below w.heap.size w w':=by
 unfold ig.f at h
 split at h
 ·rename_i h0;injection h with h
  subst h;rw [h0];exact tC Za n3 gb U0 Ra La Ja w Zd Xd
 ·cases h
theorem C_ (d:Nat) (w:World) (x0 y0:Int) (x1 y1:Int) (x2 y2:Int) (x3 y3:Int) (x4 y4:Int) (x5 y5:Int) (x6 y6:ByteArray) :
  (Op.equalIn (d + 2) 65 (.agg #[.int .i64 x0,.int .i64 x1,.int .i64 x2,.int .i64 x3,.int .i64 x4,.int .i64 x5,.string x6]) (.agg #[.int .i64 y0,.int .i64 y1,.int .i64 y2,.int .i64 y3,.int .i64 y4,.int .i64 y5,.string y6])).run Try.prog w = .ok (x0 == y0 && (x1 == y1 && (x2 == y2 && (x3 == y3 && (x4 == y4 && (x5 == y5 && (x6.toList == y6.toList))))))) w:=by
 refine JZ Try.underlying65 (by kernel_rfl) ?_;refine Lp (by rfl) (by go_simp;rfl) (by go_simp;rfl) (by go_simp) ?_;refine Lp (by rfl) (by go_simp;rfl) (by go_simp;rfl) (by go_simp) ?_;refine Lp (by rfl) (by go_simp;rfl) (by go_simp;rfl) (by go_simp) ?_;refine Lp (by rfl) (by go_simp;rfl) (by go_simp;rfl) (by go_simp) ?_;refine Lp (by rfl) (by go_simp;rfl) (by go_simp;rfl) (by go_simp) ?_;refine Lp (by rfl) (by go_simp;rfl) (by go_simp;rfl) (by go_simp) ?_;exact DQ (by rfl) (by go_simp;rfl) (by go_simp;rfl) (by go_simp)
attribute [local go_sem high] C_
def xI:List ByteArray:=[⟨#[61,61]⟩,⟨#[60]⟩,⟨#[38]⟩,⟨#[43]⟩,⟨#[45]⟩,⟨#[42]⟩]
def nv (s:ByteArray):Bool:=xI.any fun y=>decide (s.toList=y.toList)
theorem JN (s:ByteArray):Nm.f 8 s=some (nv s):=by
 unfold Nm.f Qc.f Ab.f nv xI;simp only [Ab.l0,List.any_cons,List.any_nil]
 by_cases h0:s.toList=[61,61]
 ·simp [Rf,h0]
 by_cases h1:s.toList=[60]
 ·simp [Rf,h1,wrap64]
 by_cases h2:s.toList=[38]
 ·simp [Rf,h2,wrap64]
 by_cases h3:s.toList=[43]
 ·simp [Rf,h3,wrap64]
 by_cases h4:s.toList=[45]
 ·simp [Rf,h4,wrap64]
 by_cases h5:s.toList=[42]
 ·simp [Rf,h5,wrap64]
 simp [Rf,h0,h1,h2,h3,h4,h5,wrap64]
theorem NI (s:ByteArray) (w:World):Calls Try.prog 122 #[.string s] w fun e w'=>e = .returned (.bool (nv s))∧Below w.heap.size w w':=Nm.calls 8 s (nv s) w (JN s)
def Dj (slots s:Int):Bool:=decide (0 ≤ s) && decide (s < slots)
theorem qj (B:Nat) (slots s:Int) (W:World) (hb3:W.cell? ⟨B,3,none⟩=some (.int .i64 slots)):Calls Try.prog 121 #[.int .i64 s,.pointer (some ⟨B,0,none⟩)] W fun e w'=>e = .returned (.bool (Dj slots s))∧W=w':=by
 unfold Dj
 by_cases h:0 ≤ s
 all_goals
  go_enter Try.func121,Try.ntmps121;go_wp2;go_ret;exact ⟨by simp [*];try omega,rfl⟩
theorem RN (A0 A4:Option Addr) (c0 c4 n0 n4:Nat) (p1 p2 slots d a b c n:Int) (t:ByteArray) (w:World) (hn0:n0 ≤ 9223372036854775807) (MC:n4 ≤ 9223372036854775807) :
  Calls Try.prog 104 #[.agg #[.slice A0 n0 c0,.int .i64 p1,.int .i64 p2,.int .i64 slots,.slice A4 n4 c4],.agg #[.int .i64 0,.int .i64 d,.int .i64 a,.int .i64 b,.int .i64 c,.int .i64 n,.string t]] w fun e w'=>e = .returned (.bool (Dj slots d && (a == 0 && (b == 0 && (c == 0 && t.toList.isEmpty)))))∧Below w.heap.size w w':=by
 obtain ⟨W1,Pf⟩:∃ W1,W1=(w.alloc (.cells #[.slice A0 n0 c0,.int .i64 p1,.int .i64 p2,.int .i64 slots,.slice A4 n4 c4] 30 (0,0))).alloc (.cells #[.int .i64 0,.int .i64 d,.int .i64 a,.int .i64 b,.int .i64 c,.int .i64 n,.string t] 65 (0,0)):=⟨_,rfl⟩;have HW:=ja.mk Pf;have HB:=ja.mk (show Below w.heap.size w W1 from by rw [Pf];exact qa (qa (Below.refl _ _) _) _);have hz:W1.heap.size=w.heap.size + 2:=by rw [Pf];simp
 have wO:W1.cell? ⟨w.heap.size,3,none⟩=some (.int .i64 slots):=by rw [Pf];simp
 have hx0:W1.cell? ⟨w.heap.size + 1,0,none⟩=some (.int .i64 0):=by rw [Pf];simp
 have hx1:W1.cell? ⟨w.heap.size + 1,1,none⟩=some (.int .i64 d):=by rw [Pf];simp
 have iC:W1.cell? ⟨w.heap.size + 1,2,none⟩=some (.int .i64 a):=by rw [Pf];simp
 have Zy:W1.cell? ⟨w.heap.size + 1,3,none⟩=some (.int .i64 b):=by rw [Pf];simp
 have Qx:W1.cell? ⟨w.heap.size + 1,4,none⟩=some (.int .i64 c):=by rw [Pf];simp
 have vO:W1.cell? ⟨w.heap.size + 1,5,none⟩=some (.int .i64 n):=by rw [Pf];simp
 have kI:W1.cell? ⟨w.heap.size + 1,6,none⟩=some (.string t):=by rw [Pf];simp
 clear Pf;go_enter Try.func104,Try.ntmps104;go_wp2_with (first|(go_at_call 55;(with_reducible refine (Zj _ _ _ _).mono ?_);rintro e w1 ⟨rfl,⟨k1,rfl⟩⟩));rw [← HW.out];clear HW
 go_region
 all_goals go_wp2_with (first|(go_at_call 121;(refine (qj _ slots _ _ ?hc).mono ?_);(case hc=>first|(go_simp;done)|(go_simp;rfl));rintro e w1 ⟨rfl,rfl⟩))
 all_goals go_ret
 all_goals exact ⟨by (try clear jV bU RI Xu);simp [*],by repeat (first|exact HB.out|(refine Qa ?_ Xu.out)|apply ia|apply ta|apply qa|refine ua ?_ (by first|omega|(simp;done)|(simp;omega)))⟩
theorem QN (A0 A4:Option Addr) (c0 c4 n0 n4:Nat) (p1 p2 slots d a b c n:Int) (t:ByteArray) (w:World) (hn0:n0 ≤ 9223372036854775807) (MC:n4 ≤ 9223372036854775807) :
  Calls Try.prog 104 #[.agg #[.slice A0 n0 c0,.int .i64 p1,.int .i64 p2,.int .i64 slots,.slice A4 n4 c4],.agg #[.int .i64 1,.int .i64 d,.int .i64 a,.int .i64 b,.int .i64 c,.int .i64 n,.string t]] w fun e w'=>e = .returned (.bool (Dj slots d && Dj slots a && (b == 0 && (c == 0 && (n == 0 && t.toList.isEmpty)))))∧Below w.heap.size w w':=by
 obtain ⟨W1,Pf⟩:∃ W1,W1=(w.alloc (.cells #[.slice A0 n0 c0,.int .i64 p1,.int .i64 p2,.int .i64 slots,.slice A4 n4 c4] 30 (0,0))).alloc (.cells #[.int .i64 1,.int .i64 d,.int .i64 a,.int .i64 b,.int .i64 c,.int .i64 n,.string t] 65 (0,0)):=⟨_,rfl⟩;have HW:=ja.mk Pf;have HB:=ja.mk (show Below w.heap.size w W1 from by rw [Pf];exact qa (qa (Below.refl _ _) _) _);have hz:W1.heap.size=w.heap.size + 2:=by rw [Pf];simp
 have wO:W1.cell? ⟨w.heap.size,3,none⟩=some (.int .i64 slots):=by rw [Pf];simp
 have hx0:W1.cell? ⟨w.heap.size + 1,0,none⟩=some (.int .i64 1):=by rw [Pf];simp
 have hx1:W1.cell? ⟨w.heap.size + 1,1,none⟩=some (.int .i64 d):=by rw [Pf];simp
 have iC:W1.cell? ⟨w.heap.size + 1,2,none⟩=some (.int .i64 a):=by rw [Pf];simp
 have Zy:W1.cell? ⟨w.heap.size + 1,3,none⟩=some (.int .i64 b):=by rw [Pf];simp
 have Qx:W1.cell? ⟨w.heap.size + 1,4,none⟩=some (.int .i64 c):=by rw [Pf];simp
 have vO:W1.cell? ⟨w.heap.size + 1,5,none⟩=some (.int .i64 n):=by rw [Pf];simp
 have kI:W1.cell? ⟨w.heap.size + 1,6,none⟩=some (.string t):=by rw [Pf];simp
 clear Pf;go_enter Try.func104,Try.ntmps104;go_wp2_with (first|(go_at_call 55;(with_reducible refine (Zj _ _ _ _).mono ?_);rintro e w1 ⟨rfl,⟨k1,rfl⟩⟩));rw [← HW.out];clear HW
 go_region
 all_goals go_wp2_with (first|(go_at_call 121;(refine (qj _ slots _ _ ?hc).mono ?_);(case hc=>first|(go_simp;done)|(go_simp;rfl));rintro e w1 ⟨rfl,rfl⟩))
 all_goals go_ret
 all_goals exact ⟨by (try clear jV bU RI Xu);simp [*],by repeat (first|exact HB.out|(refine Qa ?_ Xu.out)|apply ia|apply ta|apply qa|refine ua ?_ (by first|omega|(simp;done)|(simp;omega)))⟩
theorem PN (A0 A4:Option Addr) (c0 c4 n0 n4:Nat) (p1 p2 slots d a b c n:Int) (t:ByteArray) (w:World) (hn0:n0 ≤ 9223372036854775807) (MC:n4 ≤ 9223372036854775807) :
  Calls Try.prog 104 #[.agg #[.slice A0 n0 c0,.int .i64 p1,.int .i64 p2,.int .i64 slots,.slice A4 n4 c4],.agg #[.int .i64 2,.int .i64 d,.int .i64 a,.int .i64 b,.int .i64 c,.int .i64 n,.string t]] w fun e w'=>e = .returned (.bool (Dj slots d && Dj slots a && Dj slots b && nv t && (c == 0 && n == 0)))∧Below w.heap.size w w':=by
 obtain ⟨W1,Pf⟩:∃ W1,W1=(w.alloc (.cells #[.slice A0 n0 c0,.int .i64 p1,.int .i64 p2,.int .i64 slots,.slice A4 n4 c4] 30 (0,0))).alloc (.cells #[.int .i64 2,.int .i64 d,.int .i64 a,.int .i64 b,.int .i64 c,.int .i64 n,.string t] 65 (0,0)):=⟨_,rfl⟩;have HW:=ja.mk Pf;have HB:=ja.mk (show Below w.heap.size w W1 from by rw [Pf];exact qa (qa (Below.refl _ _) _) _);have hz:W1.heap.size=w.heap.size + 2:=by rw [Pf];simp
 have wO:W1.cell? ⟨w.heap.size,3,none⟩=some (.int .i64 slots):=by rw [Pf];simp
 have hx0:W1.cell? ⟨w.heap.size + 1,0,none⟩=some (.int .i64 2):=by rw [Pf];simp
 have hx1:W1.cell? ⟨w.heap.size + 1,1,none⟩=some (.int .i64 d):=by rw [Pf];simp
 have iC:W1.cell? ⟨w.heap.size + 1,2,none⟩=some (.int .i64 a):=by rw [Pf];simp
 have Zy:W1.cell? ⟨w.heap.size + 1,3,none⟩=some (.int .i64 b):=by rw [Pf];simp
 have Qx:W1.cell? ⟨w.heap.size + 1,4,none⟩=some (.int .i64 c):=by rw [Pf];simp
 have vO:W1.cell? ⟨w.heap.size + 1,5,none⟩=some (.int .i64 n):=by rw [Pf];simp
 have kI:W1.cell? ⟨w.heap.size + 1,6,none⟩=some (.string t):=by rw [Pf];simp
 clear Pf;go_enter Try.func104,Try.ntmps104;go_wp2_with (first|(go_at_call 55;(with_reducible refine (Zj _ _ _ _).mono ?_);rintro e w1 ⟨rfl,⟨k1,rfl⟩⟩));rw [← HW.out];clear HW
 go_region
 all_goals go_wp2_with (first|(go_at_call 121;(refine (qj _ slots _ _ ?hc).mono ?_);(case hc=>first|(go_simp;done)|(go_simp;rfl));rintro e w1 ⟨rfl,rfl⟩)|(go_at_call 122;(with_reducible refine (NI _ _).mono ?_);rintro e w2 ⟨rfl,si⟩;have Xu:=ja.mk si;obtain ⟨jV,bU⟩:=eX si;have RI:=si.size;simp at RI;clear si))
 all_goals go_ret
 all_goals exact ⟨by (try clear jV bU RI Xu);simp [*],by repeat (first|exact HB.out|(refine Qa ?_ Xu.out)|apply ia|apply ta|apply qa|refine ua ?_ (by first|omega|(simp;done)|(simp;omega)))⟩
theorem NN (A0 A4:Option Addr) (c0 c4 n0 n4:Nat) (p1 p2 slots d a b c n:Int) (t:ByteArray) (w:World) (hn0:n0 ≤ 9223372036854775807) (MC:n4 ≤ 9223372036854775807) :
  Calls Try.prog 104 #[.agg #[.slice A0 n0 c0,.int .i64 p1,.int .i64 p2,.int .i64 slots,.slice A4 n4 c4],.agg #[.int .i64 3,.int .i64 d,.int .i64 a,.int .i64 b,.int .i64 c,.int .i64 n,.string t]] w fun e w'=>e = .returned (.bool (Dj slots d && Dj slots b && Nj n 0 ((n0:Int) - 1) && (Dj slots a || a == -1) && (c == 0 && t.toList.isEmpty)))∧Below w.heap.size w w':=by
 obtain ⟨W1,Pf⟩:∃ W1,W1=(w.alloc (.cells #[.slice A0 n0 c0,.int .i64 p1,.int .i64 p2,.int .i64 slots,.slice A4 n4 c4] 30 (0,0))).alloc (.cells #[.int .i64 3,.int .i64 d,.int .i64 a,.int .i64 b,.int .i64 c,.int .i64 n,.string t] 65 (0,0)):=⟨_,rfl⟩;have HW:=ja.mk Pf;have HB:=ja.mk (show Below w.heap.size w W1 from by rw [Pf];exact qa (qa (Below.refl _ _) _) _);have hz:W1.heap.size=w.heap.size + 2:=by rw [Pf];simp
 have wO:W1.cell? ⟨w.heap.size,3,none⟩=some (.int .i64 slots):=by rw [Pf];simp
 have hx0:W1.cell? ⟨w.heap.size + 1,0,none⟩=some (.int .i64 3):=by rw [Pf];simp
 have hx1:W1.cell? ⟨w.heap.size + 1,1,none⟩=some (.int .i64 d):=by rw [Pf];simp
 have iC:W1.cell? ⟨w.heap.size + 1,2,none⟩=some (.int .i64 a):=by rw [Pf];simp
 have Zy:W1.cell? ⟨w.heap.size + 1,3,none⟩=some (.int .i64 b):=by rw [Pf];simp
 have Qx:W1.cell? ⟨w.heap.size + 1,4,none⟩=some (.int .i64 c):=by rw [Pf];simp
 have vO:W1.cell? ⟨w.heap.size + 1,5,none⟩=some (.int .i64 n):=by rw [Pf];simp
 have kI:W1.cell? ⟨w.heap.size + 1,6,none⟩=some (.string t):=by rw [Pf];simp
 clear Pf;go_enter Try.func104,Try.ntmps104;go_wp2_with (first|(go_at_call 55;(with_reducible refine (Zj _ _ _ _).mono ?_);rintro e w1 ⟨rfl,⟨k1,rfl⟩⟩));rw [← HW.out];clear HW
 go_region
 all_goals go_wp2_with (first|(go_at_call 121;(refine (qj _ slots _ _ ?hc).mono ?_);(case hc=>first|(go_simp;done)|(go_simp;rfl));rintro e w1 ⟨rfl,rfl⟩))
 all_goals go_ret
 all_goals exact ⟨by (try clear jV bU RI Xu);simp [*],by repeat (first|exact HB.out|(refine Qa ?_ Xu.out)|apply ia|apply ta|apply qa|refine ua ?_ (by first|omega|(simp;done)|(simp;omega)))⟩
theorem MN (A0 A4:Option Addr) (c0 c4 n0 n4:Nat) (p1 p2 slots d a b c n:Int) (t:ByteArray) (w:World) (hn0:n0 ≤ 9223372036854775807) (MC:n4 ≤ 9223372036854775807) :
  Calls Try.prog 104 #[.agg #[.slice A0 n0 c0,.int .i64 p1,.int .i64 p2,.int .i64 slots,.slice A4 n4 c4],.agg #[.int .i64 4,.int .i64 d,.int .i64 a,.int .i64 b,.int .i64 c,.int .i64 n,.string t]] w fun e w'=>e = .returned (.bool (Dj slots c && Dj slots b && Nj n 0 ((n0:Int) - 1) && (Dj slots a || a == -1) && (d == 0 && t.toList.isEmpty)))∧Below w.heap.size w w':=by
 obtain ⟨W1,Pf⟩:∃ W1,W1=(w.alloc (.cells #[.slice A0 n0 c0,.int .i64 p1,.int .i64 p2,.int .i64 slots,.slice A4 n4 c4] 30 (0,0))).alloc (.cells #[.int .i64 4,.int .i64 d,.int .i64 a,.int .i64 b,.int .i64 c,.int .i64 n,.string t] 65 (0,0)):=⟨_,rfl⟩;have HW:=ja.mk Pf;have HB:=ja.mk (show Below w.heap.size w W1 from by rw [Pf];exact qa (qa (Below.refl _ _) _) _);have hz:W1.heap.size=w.heap.size + 2:=by rw [Pf];simp
 have wO:W1.cell? ⟨w.heap.size,3,none⟩=some (.int .i64 slots):=by rw [Pf];simp
 have hx0:W1.cell? ⟨w.heap.size + 1,0,none⟩=some (.int .i64 4):=by rw [Pf];simp
 have hx1:W1.cell? ⟨w.heap.size + 1,1,none⟩=some (.int .i64 d):=by rw [Pf];simp
 have iC:W1.cell? ⟨w.heap.size + 1,2,none⟩=some (.int .i64 a):=by rw [Pf];simp
 have Zy:W1.cell? ⟨w.heap.size + 1,3,none⟩=some (.int .i64 b):=by rw [Pf];simp
 have Qx:W1.cell? ⟨w.heap.size + 1,4,none⟩=some (.int .i64 c):=by rw [Pf];simp
 have vO:W1.cell? ⟨w.heap.size + 1,5,none⟩=some (.int .i64 n):=by rw [Pf];simp
 have kI:W1.cell? ⟨w.heap.size + 1,6,none⟩=some (.string t):=by rw [Pf];simp
 clear Pf;go_enter Try.func104,Try.ntmps104;go_wp2_with (first|(go_at_call 55;(with_reducible refine (Zj _ _ _ _).mono ?_);rintro e w1 ⟨rfl,⟨k1,rfl⟩⟩));rw [← HW.out];clear HW
 go_region
 all_goals go_wp2_with (first|(go_at_call 121;(refine (qj _ slots _ _ ?hc).mono ?_);(case hc=>first|(go_simp;done)|(go_simp;rfl));rintro e w1 ⟨rfl,rfl⟩))
 all_goals go_ret
 all_goals exact ⟨by (try clear jV bU RI Xu);simp [*],by repeat (first|exact HB.out|(refine Qa ?_ Xu.out)|apply ia|apply ta|apply qa|refine ua ?_ (by first|omega|(simp;done)|(simp;omega)))⟩
theorem LN (A0 A4:Option Addr) (c0 c4 n0 n4:Nat) (p1 p2 slots d a b c n:Int) (t:ByteArray) (w:World) (hn0:n0 ≤ 9223372036854775807) (MC:n4 ≤ 9223372036854775807) :
  Calls Try.prog 104 #[.agg #[.slice A0 n0 c0,.int .i64 p1,.int .i64 p2,.int .i64 slots,.slice A4 n4 c4],.agg #[.int .i64 5,.int .i64 d,.int .i64 a,.int .i64 b,.int .i64 c,.int .i64 n,.string t]] w fun e w'=>e = .returned (.bool (Dj slots d && (a == 0 && (b == 0 && (c == 0 && (n == 0 && t.toList.isEmpty))))))∧Below w.heap.size w w':=by
 obtain ⟨W1,Pf⟩:∃ W1,W1=(w.alloc (.cells #[.slice A0 n0 c0,.int .i64 p1,.int .i64 p2,.int .i64 slots,.slice A4 n4 c4] 30 (0,0))).alloc (.cells #[.int .i64 5,.int .i64 d,.int .i64 a,.int .i64 b,.int .i64 c,.int .i64 n,.string t] 65 (0,0)):=⟨_,rfl⟩;have HW:=ja.mk Pf;have HB:=ja.mk (show Below w.heap.size w W1 from by rw [Pf];exact qa (qa (Below.refl _ _) _) _);have hz:W1.heap.size=w.heap.size + 2:=by rw [Pf];simp
 have wO:W1.cell? ⟨w.heap.size,3,none⟩=some (.int .i64 slots):=by rw [Pf];simp
 have hx0:W1.cell? ⟨w.heap.size + 1,0,none⟩=some (.int .i64 5):=by rw [Pf];simp
 have hx1:W1.cell? ⟨w.heap.size + 1,1,none⟩=some (.int .i64 d):=by rw [Pf];simp
 have iC:W1.cell? ⟨w.heap.size + 1,2,none⟩=some (.int .i64 a):=by rw [Pf];simp
 have Zy:W1.cell? ⟨w.heap.size + 1,3,none⟩=some (.int .i64 b):=by rw [Pf];simp
 have Qx:W1.cell? ⟨w.heap.size + 1,4,none⟩=some (.int .i64 c):=by rw [Pf];simp
 have vO:W1.cell? ⟨w.heap.size + 1,5,none⟩=some (.int .i64 n):=by rw [Pf];simp
 have kI:W1.cell? ⟨w.heap.size + 1,6,none⟩=some (.string t):=by rw [Pf];simp
 clear Pf;go_enter Try.func104,Try.ntmps104;go_wp2_with (first|(go_at_call 55;(with_reducible refine (Zj _ _ _ _).mono ?_);rintro e w1 ⟨rfl,⟨k1,rfl⟩⟩));rw [← HW.out];clear HW
 go_region
 all_goals go_wp2_with (first|(go_at_call 121;(refine (qj _ slots _ _ ?hc).mono ?_);(case hc=>first|(go_simp;done)|(go_simp;rfl));rintro e w1 ⟨rfl,rfl⟩))
 all_goals go_ret
 all_goals exact ⟨by (try clear jV bU RI Xu);simp [*],by repeat (first|exact HB.out|(refine Qa ?_ Xu.out)|apply ia|apply ta|apply qa|refine ua ?_ (by first|omega|(simp;done)|(simp;omega)))⟩
theorem KN (A0 A4:Option Addr) (c0 c4 n0 n4:Nat) (p1 p2 slots d a b c n:Int) (t:ByteArray) (w:World) (hn0:n0 ≤ 9223372036854775807) (MC:n4 ≤ 9223372036854775807) :
  Calls Try.prog 104 #[.agg #[.slice A0 n0 c0,.int .i64 p1,.int .i64 p2,.int .i64 slots,.slice A4 n4 c4],.agg #[.int .i64 6,.int .i64 d,.int .i64 a,.int .i64 b,.int .i64 c,.int .i64 n,.string t]] w fun e w'=>e = .returned (.bool (Dj slots a && (d == 0 && (b == 0 && (c == 0 && (n == 0 && t.toList.isEmpty))))))∧Below w.heap.size w w':=by
 obtain ⟨W1,Pf⟩:∃ W1,W1=(w.alloc (.cells #[.slice A0 n0 c0,.int .i64 p1,.int .i64 p2,.int .i64 slots,.slice A4 n4 c4] 30 (0,0))).alloc (.cells #[.int .i64 6,.int .i64 d,.int .i64 a,.int .i64 b,.int .i64 c,.int .i64 n,.string t] 65 (0,0)):=⟨_,rfl⟩;have HW:=ja.mk Pf;have HB:=ja.mk (show Below w.heap.size w W1 from by rw [Pf];exact qa (qa (Below.refl _ _) _) _);have hz:W1.heap.size=w.heap.size + 2:=by rw [Pf];simp
 have wO:W1.cell? ⟨w.heap.size,3,none⟩=some (.int .i64 slots):=by rw [Pf];simp
 have hx0:W1.cell? ⟨w.heap.size + 1,0,none⟩=some (.int .i64 6):=by rw [Pf];simp
 have hx1:W1.cell? ⟨w.heap.size + 1,1,none⟩=some (.int .i64 d):=by rw [Pf];simp
 have iC:W1.cell? ⟨w.heap.size + 1,2,none⟩=some (.int .i64 a):=by rw [Pf];simp
 have Zy:W1.cell? ⟨w.heap.size + 1,3,none⟩=some (.int .i64 b):=by rw [Pf];simp
 have Qx:W1.cell? ⟨w.heap.size + 1,4,none⟩=some (.int .i64 c):=by rw [Pf];simp
 have vO:W1.cell? ⟨w.heap.size + 1,5,none⟩=some (.int .i64 n):=by rw [Pf];simp
 have kI:W1.cell? ⟨w.heap.size + 1,6,none⟩=some (.string t):=by rw [Pf];simp
 clear Pf;go_enter Try.func104,Try.ntmps104;go_wp2_with (first|(go_at_call 55;(with_reducible refine (Zj _ _ _ _).mono ?_);rintro e w1 ⟨rfl,⟨k1,rfl⟩⟩));rw [← HW.out];clear HW
 go_region
 all_goals go_wp2_with (first|(go_at_call 121;(refine (qj _ slots _ _ ?hc).mono ?_);(case hc=>first|(go_simp;done)|(go_simp;rfl));rintro e w1 ⟨rfl,rfl⟩))
 all_goals go_ret
 all_goals exact ⟨by (try clear jV bU RI Xu);simp [*],by repeat (first|exact HB.out|(refine Qa ?_ Xu.out)|apply ia|apply ta|apply qa|refine ua ?_ (by first|omega|(simp;done)|(simp;omega)))⟩
theorem OI (A0 A4:Option Addr) (c0 c4 n0 n4:Nat) (p1 p2 slots d a b c n:Int) (t:ByteArray) (w:World) (hn0:n0 ≤ 9223372036854775807) (MC:n4 ≤ 9223372036854775807) (o:Int) (h0:(o == 0)=false) (h1:(o == 1)=false) (h2:(o == 2)=false) (h3:(o == 3)=false) (h4:(o == 4)=false) (h5:(o == 5)=false) (h6:(o == 6)=false) :
  Calls Try.prog 104 #[.agg #[.slice A0 n0 c0,.int .i64 p1,.int .i64 p2,.int .i64 slots,.slice A4 n4 c4],.agg #[.int .i64 o,.int .i64 d,.int .i64 a,.int .i64 b,.int .i64 c,.int .i64 n,.string t]] w fun e w'=>e = .returned (.bool (false))∧Below w.heap.size w w':=by
 obtain ⟨W1,Pf⟩:∃ W1,W1=(w.alloc (.cells #[.slice A0 n0 c0,.int .i64 p1,.int .i64 p2,.int .i64 slots,.slice A4 n4 c4] 30 (0,0))).alloc (.cells #[.int .i64 o,.int .i64 d,.int .i64 a,.int .i64 b,.int .i64 c,.int .i64 n,.string t] 65 (0,0)):=⟨_,rfl⟩;have HW:=ja.mk Pf;have HB:=ja.mk (show Below w.heap.size w W1 from by rw [Pf];exact qa (qa (Below.refl _ _) _) _);have hz:W1.heap.size=w.heap.size + 2:=by rw [Pf];simp
 have wO:W1.cell? ⟨w.heap.size,3,none⟩=some (.int .i64 slots):=by rw [Pf];simp
 have hx0:W1.cell? ⟨w.heap.size + 1,0,none⟩=some (.int .i64 o):=by rw [Pf];simp
 have hx1:W1.cell? ⟨w.heap.size + 1,1,none⟩=some (.int .i64 d):=by rw [Pf];simp
 have iC:W1.cell? ⟨w.heap.size + 1,2,none⟩=some (.int .i64 a):=by rw [Pf];simp
 have Zy:W1.cell? ⟨w.heap.size + 1,3,none⟩=some (.int .i64 b):=by rw [Pf];simp
 have Qx:W1.cell? ⟨w.heap.size + 1,4,none⟩=some (.int .i64 c):=by rw [Pf];simp
 have vO:W1.cell? ⟨w.heap.size + 1,5,none⟩=some (.int .i64 n):=by rw [Pf];simp
 have kI:W1.cell? ⟨w.heap.size + 1,6,none⟩=some (.string t):=by rw [Pf];simp
 clear Pf;go_enter Try.func104,Try.ntmps104;go_wp2_with (first|(go_at_call 55;(with_reducible refine (Zj _ _ _ _).mono ?_);rintro e w1 ⟨rfl,⟨k1,rfl⟩⟩));rw [← HW.out];clear HW
 go_region
 all_goals go_wp2_with (first|(go_at_call 121;(refine (qj _ slots _ _ ?hc).mono ?_);(case hc=>first|(go_simp;done)|(go_simp;rfl));rintro e w1 ⟨rfl,rfl⟩))
 all_goals go_ret
 all_goals exact ⟨by (try clear jV bU RI Xu);simp [*],by repeat (first|exact HB.out|(refine Qa ?_ Xu.out)|apply ia|apply ta|apply qa|refine ua ?_ (by first|omega|(simp;done)|(simp;omega)))⟩
def Gk (n0:Nat) (slots:Int) (o d a b c n:Int) (t:ByteArray):Bool :=
 if o=0 then Dj slots d && (a == 0 && (b == 0 && (c == 0 && t.toList.isEmpty)))
 else if o=1 then Dj slots d && Dj slots a && (b == 0 && (c == 0 && (n == 0 && t.toList.isEmpty)))
 else if o=2 then Dj slots d && Dj slots a && Dj slots b && nv t && (c == 0 && n == 0)
 else if o=3 then Dj slots d && Dj slots b && Nj n 0 ((n0:Int) - 1) && (Dj slots a || a == -1) && (c == 0 && t.toList.isEmpty)
 else if o=4 then Dj slots c && Dj slots b && Nj n 0 ((n0:Int) - 1) && (Dj slots a || a == -1) && (d == 0 && t.toList.isEmpty)
 else if o=5 then Dj slots d && (a == 0 && (b == 0 && (c == 0 && (n == 0 && t.toList.isEmpty))))
 else if o=6 then Dj slots a && (d == 0 && (b == 0 && (c == 0 && (n == 0 && t.toList.isEmpty))))
 else false
theorem SG (A0 A4:Option Addr) (c0 c4 n0 n4:Nat) (p1 p2 slots:Int) (w:World) (hn0:n0 ≤ 9223372036854775807) (MC:n4 ≤ 9223372036854775807) (o d a b c n:Int) (t:ByteArray) :
  Calls Try.prog 104 #[.agg #[.slice A0 n0 c0,.int .i64 p1,.int .i64 p2,.int .i64 slots,.slice A4 n4 c4],.agg #[.int .i64 o,.int .i64 d,.int .i64 a,.int .i64 b,.int .i64 c,.int .i64 n,.string t]] w fun e w'=>e = .returned (.bool (Gk n0 slots o d a b c n t))∧Below w.heap.size w w':=by
 unfold Gk
 by_cases h0:o=0
 ·rw [if_pos h0,h0];exact RN A0 A4 c0 c4 n0 n4 p1 p2 slots d a b c n t w hn0 MC
 rw [if_neg h0]
 by_cases h1:o=1
 ·rw [if_pos h1,h1];exact QN A0 A4 c0 c4 n0 n4 p1 p2 slots d a b c n t w hn0 MC
 rw [if_neg h1]
 by_cases h2:o=2
 ·rw [if_pos h2,h2];exact PN A0 A4 c0 c4 n0 n4 p1 p2 slots d a b c n t w hn0 MC
 rw [if_neg h2]
 by_cases h3:o=3
 ·rw [if_pos h3,h3];exact NN A0 A4 c0 c4 n0 n4 p1 p2 slots d a b c n t w hn0 MC
 rw [if_neg h3]
 by_cases h4:o=4
 ·rw [if_pos h4,h4];exact MN A0 A4 c0 c4 n0 n4 p1 p2 slots d a b c n t w hn0 MC
 rw [if_neg h4]
 by_cases h5:o=5
 ·rw [if_pos h5,h5];exact LN A0 A4 c0 c4 n0 n4 p1 p2 slots d a b c n t w hn0 MC
 rw [if_neg h5]
 by_cases h6:o=6
 ·rw [if_pos h6,h6];exact KN A0 A4 c0 c4 n0 n4 p1 p2 slots d a b c n t w hn0 MC
 rw [if_neg h6];exact OI A0 A4 c0 c4 n0 n4 p1 p2 slots d a b c n t w hn0 MC o (beq_eq_false_iff_ne.mpr h0) (beq_eq_false_iff_ne.mpr h1) (beq_eq_false_iff_ne.mpr h2) (beq_eq_false_iff_ne.mpr h3) (beq_eq_false_iff_ne.mpr h4) (beq_eq_false_iff_ne.mpr h5) (beq_eq_false_iff_ne.mpr h6)
def wm (n0:Nat) (slots:Int) (x:ye):Bool:=Gk n0 slots x.f0 x.f1 x.f2 x.f3 x.f4 x.f5 x.f6
def ij (n0:Nat) (slots:Int) (n4:Nat) (code:List ye) (j a tg els:Int):Bool :=
 !(code.any fun x=>!wm n0 slots x) && decide (0 ≤ slots) &&
  (if j=0 then Nj tg 0 ((n4:Int) - 1) && a == 0 && els == 0
   else if j=1 then Nj tg 0 ((n4:Int) - 1) && Nj els 0 ((n4:Int) - 1) && Dj slots a
   else if j=2 then Dj slots a && tg == 0 && els == 0
   else false)
theorem SN (B:Nat) (A0 A4:Option Addr) (c0 c4 n0 n4:Nat) (p1 p2 slots:Int) (hn0:n0 ≤ 9223372036854775807) (MC:n4 ≤ 9223372036854775807) (W:World) (x:ye)
  (hb0:W.cell? ⟨B,0,none⟩=some (.slice A0 n0 c0)) (wz:W.cell? ⟨B,1,none⟩=some (.int .i64 p1)) (si:W.cell? ⟨B,2,none⟩=some (.int .i64 p2)) (hb3:W.cell? ⟨B,3,none⟩=some (.int .i64 slots)) (F3:W.cell? ⟨B,4,none⟩=some (.slice A4 n4 c4)) (hB:B < W.heap.size) :
  Calls Try.prog 103 #[.agg #[.int .i64 x.f0,.int .i64 x.f1,.int .i64 x.f2,.int .i64 x.f3,.int .i64 x.f4,.int .i64 x.f5,.string x.f6],.pointer (some ⟨B,0,none⟩)] W
   fun e w'=>e = .returned (.bool (!wm n0 slots x))∧Below W.heap.size W w':=by
 have hne:B ≠ W.heap.size:=by omega
 unfold wm;have HC:=ja.mk (fun W'=>SG A0 A4 c0 c4 n0 n4 p1 p2 slots W' hn0 MC x.f0 x.f1 x.f2 x.f3 x.f4 x.f5 x.f6);generalize Gk n0 slots x.f0 x.f1 x.f2 x.f3 x.f4 x.f5 x.f6=b at HC ⊢;go_enter Try.func103,Try.ntmps103;go_wp2_with (go_at_call 104;(with_reducible refine (HC.out _).mono ?_);rintro e w1 ⟨rfl,hb⟩;have HD:=ja.mk (Qa (qa (Below.refl _ _) _) hb);clear hb);go_ret;exact ⟨rfl,HD.out⟩
theorem UG (A0 A4 A5:Option Addr) (c0 c4 c5 n0 n4:Nat) (p1 p2 slots:Int) (l5:List ye) (j a tg els:Int) (w:World) (hn0:n0 ≤ 9223372036854775807) (MC:n4 ≤ 9223372036854775807) (hr5:Kd.C Gi w A5 l5.length l5) (hc5:l5.length ≤ c5) :
  Calls Try.prog 77 #[.agg #[.slice A0 n0 c0,.int .i64 p1,.int .i64 p2,.int .i64 slots,.slice A4 n4 c4],.agg #[.slice A5 l5.length c5,.int .i64 j,.int .i64 a,.int .i64 tg,.int .i64 els]] w fun e w'=>e = .returned (.bool (ij n0 slots n4 l5 j a tg els))∧Below w.heap.size w w':=by
 have eg:=enters_of Try.func103 (by kernel_rfl) rfl;have hm5:=hr5.2.1;obtain ⟨W1,Pf⟩:∃ W1,W1=(w.alloc (.cells #[.slice A0 n0 c0,.int .i64 p1,.int .i64 p2,.int .i64 slots,.slice A4 n4 c4] 30 (0,0))).alloc (.cells #[.slice A5 l5.length c5,.int .i64 j,.int .i64 a,.int .i64 tg,.int .i64 els] 59 (0,0)):=⟨_,rfl⟩;have HW:=ja.mk Pf;have hB1:Below w.heap.size w W1:=by rw [Pf];exact qa (qa (Below.refl _ _) _) _
 have hz:W1.heap.size=w.heap.size + 2:=by rw [Pf];simp
 have KP:W1.cell? ⟨w.heap.size,0,none⟩=some (.slice A0 n0 c0):=by rw [Pf];simp
 have CG:W1.cell? ⟨w.heap.size,1,none⟩=some (.int .i64 p1):=by rw [Pf];simp
 have JP:W1.cell? ⟨w.heap.size,2,none⟩=some (.int .i64 p2):=by rw [Pf];simp
 have lI:W1.cell? ⟨w.heap.size,3,none⟩=some (.int .i64 slots):=by rw [Pf];simp
 have bH:W1.cell? ⟨w.heap.size,4,none⟩=some (.slice A4 n4 c4):=by rw [Pf];simp
 have hx0:W1.cell? ⟨w.heap.size + 1,0,none⟩=some (.slice A5 l5.length c5):=by rw [Pf];simp
 have hx1:W1.cell? ⟨w.heap.size + 1,1,none⟩=some (.int .i64 j):=by rw [Pf];simp
 have iC:W1.cell? ⟨w.heap.size + 1,2,none⟩=some (.int .i64 a):=by rw [Pf];simp
 have Zy:W1.cell? ⟨w.heap.size + 1,3,none⟩=some (.int .i64 tg):=by rw [Pf];simp
 have Qx:W1.cell? ⟨w.heap.size + 1,4,none⟩=some (.int .i64 els):=by rw [Pf];simp
 have Nr:=Kd.Mb hr5 hB1;clear Pf hr5
 have HF:=ja.mk (Tu 103 #[.pointer (some ⟨w.heap.size,0,none⟩)] (fun x=>!wm n0 slots x) eg A5 c5 l5 W1 Nr hc5
  (fun W2 x hb'=>SN w.heap.size A0 A4 c0 c4 n0 n4 p1 p2 slots hn0 MC W2 x ((hb'.cell (p:=⟨w.heap.size,0,none⟩) (by simp;omega)).trans KP) ((hb'.cell (p:=⟨w.heap.size,1,none⟩) (by simp;omega)).trans CG) ((hb'.cell (p:=⟨w.heap.size,2,none⟩) (by simp;omega)).trans JP) ((hb'.cell (p:=⟨w.heap.size,3,none⟩) (by simp;omega)).trans lI) ((hb'.cell (p:=⟨w.heap.size,4,none⟩) (by simp;omega)).trans bH) (Nat.lt_of_lt_of_le (by omega) hb'.size)))
 have HB:=ja.mk hB1;clear Nr hB1 eg;unfold ij;cases hq:l5.any (fun x=>!wm n0 slots x) with
 | true =>
  rw [hq] at HF;go_enter Try.func77,Try.ntmps77
  go_upto_region 1 with (fail)
  rw [← HW.out];clear HW;go_wp2_with (first|(go_at_call 102;(with_reducible refine HF.out.mono ?_);rintro e w2 ⟨rfl,si⟩;have Xu:=ja.mk si;clear si))
  all_goals
   go_ret;exact ⟨by simp,Qa HB.out Xu.out⟩
 | false =>
  rw [hq] at HF;cases ha0:decide (0 ≤ a)
  all_goals
   go_enter Try.func77,Try.ntmps77
   go_upto_region 1 with (fail)
   rw [← HW.out];clear HW
   go_upto_region 3 with (first|(go_at_call 102;(with_reducible refine HF.out.mono ?_);rintro e w2 ⟨rfl,si⟩;replace lI:=(si.cell (World.block_lt_of_cell? W1 _ lI)).trans lI;replace bH:=(si.cell (World.block_lt_of_cell? W1 _ bH)).trans bH;replace hx1:=(si.cell (World.block_lt_of_cell? W1 _ hx1)).trans hx1;replace iC:=(si.cell (World.block_lt_of_cell? W1 _ iC)).trans iC;replace Zy:=(si.cell (World.block_lt_of_cell? W1 _ Zy)).trans Zy;replace Qx:=(si.cell (World.block_lt_of_cell? W1 _ Qx)).trans Qx;have Xu:=ja.mk (Qa HB.out si);clear si HB KP CG JP hx0))
   go_quiet ((go_at_call 55;exact Calls.quiet_of ((Zj _ _ _ _).mono fun _ _ ⟨he,hm⟩=>⟨he,hm.out⟩)))
   go_wp2
   all_goals go_ret
   all_goals exact ⟨by first|(simp [Dj, *];done)|(simp [Dj, *];intros;omega)|(clear HF lI bH hx1 iC Zy Qx;simp_all [Dj];done)|(clear HF lI bH hx1 iC Zy Qx;simp_all [Dj];omega),by repeat (first|exact Xu.out|apply ia)⟩
def Sh.f (Ra:List Int) (La:Int) (Ja:Int) (Ia:Int) (Fa:List (We)) (Nc:List (ye)) (Qb:Int) (Jb:Int) (Kb:Int) (ec:Int):Option Bool:=some (ij Ra.length Ia Fa.length Nc Qb Jb Kb ec)
theorem Sh.calls (Za:Option Addr) (gb:Nat) (Ra:List Int) (La:Int) (Ja:Int) (Ia:Int) (Vb:Option Addr) (Lb:Nat) (Fa:List (We)) (qf:Option Addr) (jf:Nat) (Nc:List (ye)) (Qb:Int) (Jb:Int) (Kb:Int) (ec:Int) (r:Bool) (w:World) (Zd:Kd.C (Kd.int .i64) w Za Ra.length Ra) (Xd:Ra.length ≤ gb) (Tf:Kd.C Kp w Vb Fa.length Fa) (Kf:Fa.length ≤ Lb) (wu:Kd.C Gi w qf Nc.length Nc) (xu:Nc.length ≤ jf) (h:Sh.f Ra La Ja Ia Fa Nc Qb Jb Kb ec=some r) :
  Calls Try.prog 77 #[.agg #[.slice Za Ra.length gb,.int .i64 La,.int .i64 Ja,.int .i64 Ia,.slice Vb Fa.length Lb],.agg #[.slice qf Nc.length jf,.int .i64 Qb,.int .i64 Jb,.int .i64 Kb,.int .i64 ec]] w fun e w'=>e = .returned (.bool r)∧Below w.heap.size w w':=by
 injection h with h
 subst h;exact UG Za Vb qf gb Lb jf Ra.length Fa.length La Ja Ia Nc Qb Jb Kb ec w Zd.2.1 Tf.2.1 wu xu
mutual
def Xb.j0:Nat→Bool→List Int→Int→Int→Int→List (We)→Option (Bool)
 | 0,_,_,_,_,_,_=>none
 | k + 1,x29,jc,Ec,tc,oc,Rb=>if x29=true then (some false) else (Xb.l0 k 0 Rb (Rb.length:Int) 0 jc Ec tc oc Rb)
def Xb.l0:Nat→Int→List (We)→Int→Int→List Int→Int→Int→Int→List (We)→Option (Bool)
 | 0,_,_,_,_,_,_,_,_,_=>none
 | k + 1,x3,aW,x32,PR,jc,Ec,tc,oc,Rb=>if PR < x32 then (if 0 ≤ PR then (if PR < (aW.length:Int) then ((Sh.f jc Ec tc oc Rb ((Oa aW PR).f0) ((Oa aW PR).f1) ((Oa aW PR).f2) ((Oa aW PR).f3) ((Oa aW PR).f4)).bind fun t107=>(if t107=true then (Xb.l0 k (wrap64 (x3 + (((Oa aW PR).f0).length:Int))) aW x32 (wrap64 (PR + 1)) jc Ec tc oc Rb) else (some false))) else (none)) else (none)) else (some (decide (x3 ≤ 1000)))
end
def Xb.f (k:Nat) (Ra:List Int) (La:Int) (Ja:Int) (Ia:Int) (Fa:List (We)):Option (Bool):=(ig.f Ra La Ja ([]:List (Oy))).bind fun t102=>(if t102=true then ((Zf.f Ia Ja 1000).bind fun t103=>(if t103=true then ((Zf.f (Fa.length:Int) 1 300).bind fun t104=>(Xb.j0 k (!t104) Ra La Ja Ia Fa)) else (Xb.j0 k true Ra La Ja Ia Fa))) else (Xb.j0 k true Ra La Ja Ia Fa))
theorem Xb.calls (k:Nat) (Za:Option Addr) (gb:Nat) (Ra:List Int) (La:Int) (Ja:Int) (Ia:Int) (Vb:Option Addr) (Lb:Nat) (Fa:List (We)) (r:Bool) (w:World) (Zd:Kd.C (Kd.int .i64) w Za Ra.length Ra) (Xd:Ra.length ≤ gb) (Tf:Kd.C Kp w Vb Fa.length Fa) (Kf:Fa.length ≤ Lb) (h:Xb.f k Ra La Ja Ia Fa=some r) :
  Calls Try.prog 46 #[.agg #[.slice Za Ra.length gb,.int .i64 La,.int .i64 Ja,.int .i64 Ia,.slice Vb Fa.length Lb]] w fun e w'=>e = .returned (.bool r)∧Below w.heap.size w w':=by
 have vC:=Try.underlying30;have cas:=Try.underlying95;have gy:=Try.underlying59;have He:=ja.mk Zd;have Me:=ja.mk Xd;clear Zd Xd;have Uf:=ja.mk Tf;have Ug:=ja.mk Kf;clear Tf Kf;have HB:=ja.mk (Below.refl w.heap.size w);have H:((ig.f Ra La Ja ([]:List (Oy))).bind fun t102=>(if t102=true then ((Zf.f Ia Ja 1000).bind fun t103=>(if t103=true then ((Zf.f (Fa.length:Int) 1 300).bind fun t104=>(Xb.j0 k (!t104) Ra La Ja Ia Fa)) else (Xb.j0 k true Ra La Ja Ia Fa))) else (Xb.j0 k true Ra La Ja Ia Fa)))=some r:=h;clear h;have pN:=ja.mk H;clear H;go_enter Try.func46,Try.ntmps46
 go_upto_region 1 with (first|((with_reducible refine xb (N:=1) rfl ?_);(try (refine ug (by rfl) ?_;dsimp only));refine Fb ?hg (N:=1) ?hd (cs:=#[.slice Za Ra.length gb,.int .i64 La,.int .i64 Ja,.int .i64 Ia,.slice Vb Fa.length Lb]) (t:=30) ?hr ?_;(case hd=>rfl);(case hg=>rfl);(case hr=>first|(go_simp;done)|(go_simp;rfl));intro ya hg w3 Pb hb;have Bb:=ja.mk (Qa (by repeat (first|(with_reducible first|exact HB.out|apply qa|apply ia|apply ta)|exact HB.out)) hb);have Gb:=ja.mk (Pb);have Nb:=ja.mk ((by rw [hg];exact (Ka (by repeat (first|(with_reducible first|exact HB.out|apply qa|apply ia|apply ta)|exact HB.out))):w.heap.size ≤ ya));have Dc:=ja.mk ((by rw [hg];exact (Ka (by repeat (first|(with_reducible first|exact HB.out|apply qa|apply ia|apply ta)|exact HB.out))):w.heap.size ≤ ya));clear HB;have HB:=Bb;have oa:=Gb;have Ad:=Nb;have Ta:=Dc;clear Bb Gb Nb Dc hb Pb hg))
 (try simp only [Act.put,List.setIfInBounds_toArray,List.set_cons_zero,List.set_cons_succ])
 go_cut [29] (fun v29 wc=>∃ (kq:Nat) (QJ:Bool),v29 = .bool QJ∧ja (Xb.j0 kq QJ Ra La Ja Ia Fa=some r)∧ja (kq ≤ k)∧ja (wc.heap[ya]? = some (.cells #[(.slice Za Ra.length gb),.int .i64 La,.int .i64 Ja,.int .i64 Ia,(.slice Vb Fa.length Lb)] 30 (0,0)))∧ja (Below w.heap.size w wc))
 case first =>
  have H:=pN.out;clear pN;replace H:=Option.bind_eq_some_iff.mp H;obtain ⟨t102,UX,H⟩:=H;replace H:(if t102=true then ((Zf.f Ia Ja 1000).bind fun t103=>(if t103=true then ((Zf.f (Fa.length:Int) 1 300).bind fun t104=>(Xb.j0 k (!t104) Ra La Ja Ia Fa)) else (Xb.j0 k true Ra La Ja Ia Fa))) else (Xb.j0 k true Ra La Ja Ia Fa))=some r:=H;have A4:=ja.mk UX;clear UX
  by_cases c5:t102=true
  ·subst c5;have H1:((Zf.f Ia Ja 1000).bind fun t103=>(if t103=true then ((Zf.f (Fa.length:Int) 1 300).bind fun t104=>(Xb.j0 k (!t104) Ra La Ja Ia Fa)) else (Xb.j0 k true Ra La Ja Ia Fa)))=some r:=by rw [if_pos rfl] at H;exact H
   clear H;have H:=H1;clear H1;replace H:=Option.bind_eq_some_iff.mp H;obtain ⟨t103,RX,H⟩:=H;replace H:(if t103=true then ((Zf.f (Fa.length:Int) 1 300).bind fun t104=>(Xb.j0 k (!t104) Ra La Ja Ia Fa)) else (Xb.j0 k true Ra La Ja Ia Fa))=some r:=H;have A6:=ja.mk RX;clear RX
   by_cases c7:t103=true
   ·subst c7;have H1:((Zf.f (Fa.length:Int) 1 300).bind fun t104=>(Xb.j0 k (!t104) Ra La Ja Ia Fa))=some r:=by rw [if_pos rfl] at H;exact H
    clear H;have H:=H1;clear H1;replace H:=Option.bind_eq_some_iff.mp H;obtain ⟨t104,KR,H⟩:=H;replace H:(Xb.j0 k (!t104) Ra La Ja Ia Fa)=some r:=H;have A8:=ja.mk KR;clear KR;have H':=ja.mk H;clear H;have Hl:w3.cell? ⟨ya,0,none⟩=some (.slice Za Ra.length gb):=(ga oa.out 0).trans rfl;have Gl:w3.cell? ⟨ya,1,none⟩=some (.int .i64 La):=(ga oa.out 1).trans rfl;have Fl:w3.cell? ⟨ya,2,none⟩=some (.int .i64 Ja):=(ga oa.out 2).trans rfl;have El:w3.cell? ⟨ya,3,none⟩=some (.int .i64 Ia):=(ga oa.out 3).trans rfl;have Dl:w3.cell? ⟨ya,4,none⟩=some (.slice Vb Fa.length Lb):=(ga oa.out 4).trans rfl;have Zk:=aa oa.out 0;have Yk:=aa oa.out 1;have Xk:=aa oa.out 2;have Wk:=aa oa.out 3;have Vk:=aa oa.out 4;go_wp2_with (first|((with_reducible refine qb (f:=76) rfl ?_);refine Mc (some 13) rfl rfl Try.func76 (by kernel_rfl) rfl #[.agg #[.slice Za Ra.length gb,.int .i64 La,.int .i64 Ja,.slice none 0 0]] rfl (by (try simp only [List.map_toArray,List.map_cons,List.map_nil]);first|done|rfl|(simp only [List.length_drop,List.length_take];rfl)) ?_;(refine (ig.calls _ _ Ra La Ja _ _ ([]:List (Oy)) true _ ?Jc ?Ic ?Qd ?Pd A4.out).mono ?_);(case Jc=>repeat (first|exact (Kd.Mb He.out HB.out)|(with_reducible refine Kd.Tb ?_ _)|(with_reducible refine Kd.Sb ?_ _)|(with_reducible refine Kd.qc ?_)));(case Ic=>exact Me.out);(case Qd=>exact Kd.rN _ _);(case Pd=>exact Nat.le_refl _);rintro e aq ⟨rfl,hb⟩;refine ⟨_,rfl,?_⟩;have Bb:=ja.mk (Va (g:=ya) (o:=.cells #[.slice Za Ra.length gb,.int .i64 La,.int .i64 Ja,.int .i64 Ia,.slice Vb Fa.length Lb] 30 (0,0)) (by (with_reducible repeat (first|refine Aa ?_ _|refine Da ?_|refine Ba ?_ _));exact oa.out) hb);have Gb:=ja.mk (Qa (by repeat (first|(with_reducible first|exact HB.out|apply qa|apply ia|apply ta|refine ua ?_ Ta.out)|exact HB.out)) hb);clear oa HB;have oa:=Bb;have HB:=Gb;clear Bb Gb;(try clear hb);(try clear si);(try clear hk);(try clear hi);have eo:aq.cell? ⟨ya,0,none⟩=some (.slice Za Ra.length gb):=(ga oa.out 0).trans rfl;have Zn:aq.cell? ⟨ya,1,none⟩=some (.int .i64 La):=(ga oa.out 1).trans rfl;have Yn:aq.cell? ⟨ya,2,none⟩=some (.int .i64 Ja):=(ga oa.out 2).trans rfl;have Xn:aq.cell? ⟨ya,3,none⟩=some (.int .i64 Ia):=(ga oa.out 3).trans rfl;have Wn:aq.cell? ⟨ya,4,none⟩=some (.slice Vb Fa.length Lb):=(ga oa.out 4).trans rfl;have Vn:=aa oa.out 0;have Un:=aa oa.out 1;have Tn:=aa oa.out 2;have Sn:=aa oa.out 3;have Rn:=aa oa.out 4)|(go_at_call 55;(with_reducible refine (Zf.calls Ia Ja 1000 true _ A6.out).mono ?_);rintro e w' ⟨rfl,⟨nd,rfl⟩⟩)|(go_at_call 55;(with_reducible refine (Zf.calls (Fa.length:Int) 1 300 t104 _ A8.out).mono ?_);rintro e w' ⟨rfl,⟨nd,rfl⟩⟩))
    go_meet
    case rel=>exact ⟨_,(!t104),(by first|rfl|(simp;done)|(simp [*];done)),H',⟨by first|omega|exact Nat.le_refl _⟩,⟨by (with_reducible repeat (first|refine Aa ?_ _|refine Da ?_|refine Ba ?_ _));exact oa.out⟩,⟨by repeat (first|(with_reducible first|exact HB.out|apply qa|apply ia|apply ta|refine ua ?_ Ta.out)|exact HB.out)⟩⟩
   ·replace c7:=Bool.eq_false_iff.mpr c7;subst c7;have H1:(Xb.j0 k true Ra La Ja Ia Fa)=some r:=by rw [if_neg (show ¬ (false=true) by decide)] at H;exact H
    clear H;have H:=H1;clear H1;have H':=ja.mk H;clear H;have Sl:w3.cell? ⟨ya,0,none⟩=some (.slice Za Ra.length gb):=(ga oa.out 0).trans rfl;have Rl:w3.cell? ⟨ya,1,none⟩=some (.int .i64 La):=(ga oa.out 1).trans rfl;have Ql:w3.cell? ⟨ya,2,none⟩=some (.int .i64 Ja):=(ga oa.out 2).trans rfl;have Ol:w3.cell? ⟨ya,3,none⟩=some (.int .i64 Ia):=(ga oa.out 3).trans rfl;have Nl:w3.cell? ⟨ya,4,none⟩=some (.slice Vb Fa.length Lb):=(ga oa.out 4).trans rfl;have Cl:=aa oa.out 0;have Bl:=aa oa.out 1;have Al:=aa oa.out 2;have zl:=aa oa.out 3;have vl:=aa oa.out 4;go_wp2_with (first|((with_reducible refine qb (f:=76) rfl ?_);refine Mc (some 13) rfl rfl Try.func76 (by kernel_rfl) rfl #[.agg #[.slice Za Ra.length gb,.int .i64 La,.int .i64 Ja,.slice none 0 0]] rfl (by (try simp only [List.map_toArray,List.map_cons,List.map_nil]);first|done|rfl|(simp only [List.length_drop,List.length_take];rfl)) ?_;(refine (ig.calls _ _ Ra La Ja _ _ ([]:List (Oy)) true _ ?Jc ?Ic ?Qd ?Pd A4.out).mono ?_);(case Jc=>repeat (first|exact (Kd.Mb He.out HB.out)|(with_reducible refine Kd.Tb ?_ _)|(with_reducible refine Kd.Sb ?_ _)|(with_reducible refine Kd.qc ?_)));(case Ic=>exact Me.out);(case Qd=>exact Kd.rN _ _);(case Pd=>exact Nat.le_refl _);rintro e gC ⟨rfl,hb⟩;refine ⟨_,rfl,?_⟩;have Bb:=ja.mk (Va (g:=ya) (o:=.cells #[.slice Za Ra.length gb,.int .i64 La,.int .i64 Ja,.int .i64 Ia,.slice Vb Fa.length Lb] 30 (0,0)) (by (with_reducible repeat (first|refine Aa ?_ _|refine Da ?_|refine Ba ?_ _));exact oa.out) hb);have Gb:=ja.mk (Qa (by repeat (first|(with_reducible first|exact HB.out|apply qa|apply ia|apply ta|refine ua ?_ Ta.out)|exact HB.out)) hb);clear oa HB;have oa:=Bb;have HB:=Gb;clear Bb Gb;(try clear hb);(try clear si);(try clear hk);(try clear hi);have fj:gC.cell? ⟨ya,0,none⟩=some (.slice Za Ra.length gb):=(ga oa.out 0).trans rfl;have ej:gC.cell? ⟨ya,1,none⟩=some (.int .i64 La):=(ga oa.out 1).trans rfl;have cj:gC.cell? ⟨ya,2,none⟩=some (.int .i64 Ja):=(ga oa.out 2).trans rfl;have aj:gC.cell? ⟨ya,3,none⟩=some (.int .i64 Ia):=(ga oa.out 3).trans rfl;have Zi:gC.cell? ⟨ya,4,none⟩=some (.slice Vb Fa.length Lb):=(ga oa.out 4).trans rfl;have Wi:=aa oa.out 0;have Vi:=aa oa.out 1;have Ui:=aa oa.out 2;have Ti:=aa oa.out 3;have Si:=aa oa.out 4)|(go_at_call 55;(with_reducible refine (Zf.calls Ia Ja 1000 false _ A6.out).mono ?_);rintro e w' ⟨rfl,⟨nd,rfl⟩⟩))
    go_meet
    case rel=>exact ⟨_,(true),(by first|rfl|(simp;done)|(simp [*];done)),H',⟨by first|omega|exact Nat.le_refl _⟩,⟨by (with_reducible repeat (first|refine Aa ?_ _|refine Da ?_|refine Ba ?_ _));exact oa.out⟩,⟨by repeat (first|(with_reducible first|exact HB.out|apply qa|apply ia|apply ta|refine ua ?_ Ta.out)|exact HB.out)⟩⟩
  ·replace c5:=Bool.eq_false_iff.mpr c5;subst c5;have H1:(Xb.j0 k true Ra La Ja Ia Fa)=some r:=by rw [if_neg (show ¬ (false=true) by decide)] at H;exact H
   clear H;have H:=H1;clear H1;have H':=ja.mk H;clear H;have ox:w3.cell? ⟨ya,0,none⟩=some (.slice Za Ra.length gb):=(ga oa.out 0).trans rfl;have jx:w3.cell? ⟨ya,1,none⟩=some (.int .i64 La):=(ga oa.out 1).trans rfl;have gx:w3.cell? ⟨ya,2,none⟩=some (.int .i64 Ja):=(ga oa.out 2).trans rfl;have dx:w3.cell? ⟨ya,3,none⟩=some (.int .i64 Ia):=(ga oa.out 3).trans rfl;have bx:w3.cell? ⟨ya,4,none⟩=some (.slice Vb Fa.length Lb):=(ga oa.out 4).trans rfl;have Nw:=aa oa.out 0;have Mw:=aa oa.out 1;have Lw:=aa oa.out 2;have Kw:=aa oa.out 3;have Jw:=aa oa.out 4;go_wp2_with (first|((with_reducible refine qb (f:=76) rfl ?_);refine Mc (some 13) rfl rfl Try.func76 (by kernel_rfl) rfl #[.agg #[.slice Za Ra.length gb,.int .i64 La,.int .i64 Ja,.slice none 0 0]] rfl (by (try simp only [List.map_toArray,List.map_cons,List.map_nil]);first|done|rfl|(simp only [List.length_drop,List.length_take];rfl)) ?_;(refine (ig.calls _ _ Ra La Ja _ _ ([]:List (Oy)) false _ ?Jc ?Ic ?Qd ?Pd A4.out).mono ?_);(case Jc=>repeat (first|exact (Kd.Mb He.out HB.out)|(with_reducible refine Kd.Tb ?_ _)|(with_reducible refine Kd.Sb ?_ _)|(with_reducible refine Kd.qc ?_)));(case Ic=>exact Me.out);(case Qd=>exact Kd.rN _ _);(case Pd=>exact Nat.le_refl _);rintro e cv ⟨rfl,hb⟩;refine ⟨_,rfl,?_⟩;have Bb:=ja.mk (Va (g:=ya) (o:=.cells #[.slice Za Ra.length gb,.int .i64 La,.int .i64 Ja,.int .i64 Ia,.slice Vb Fa.length Lb] 30 (0,0)) (by (with_reducible repeat (first|refine Aa ?_ _|refine Da ?_|refine Ba ?_ _));exact oa.out) hb);have Gb:=ja.mk (Qa (by repeat (first|(with_reducible first|exact HB.out|apply qa|apply ia|apply ta|refine ua ?_ Ta.out)|exact HB.out)) hb);clear oa HB;have oa:=Bb;have HB:=Gb;clear Bb Gb;(try clear hb);(try clear si);(try clear hk);(try clear hi)))
   go_meet
   case rel=>exact ⟨_,(true),(by first|rfl|(simp;done)|(simp [*];done)),H',⟨by first|omega|exact Nat.le_refl _⟩,⟨by (with_reducible repeat (first|refine Aa ?_ _|refine Da ?_|refine Ba ?_ _));exact oa.out⟩,⟨by repeat (first|(with_reducible first|exact HB.out|apply qa|apply ia|apply ta|refine ua ?_ Ta.out)|exact HB.out)⟩⟩
 case rest =>
  clear pN
  try clear p2
  try clear c4
  try clear c5
  try clear c7
  try clear eo
  try clear Zn
  try clear Yn
  try clear Xn
  try clear Wn
  try clear Sl
  try clear Rl
  try clear Ql
  try clear Ol
  try clear Nl
  try clear fj
  try clear ej
  try clear cj
  try clear aj
  try clear Zi
  try clear ox
  try clear jx
  try clear gx
  try clear dx
  try clear bx
  try clear Hl
  try clear Gl
  try clear Fl
  try clear El
  try clear Dl
  try clear Vn
  try clear Un
  try clear Tn
  try clear Sn
  try clear Rn
  try clear Cl
  try clear Bl
  try clear Al
  try clear zl
  try clear vl
  try clear Wi
  try clear Vi
  try clear Ui
  try clear Ti
  try clear Si
  try clear Nw
  try clear Mw
  try clear Lw
  try clear Kw
  try clear Jw
  try clear Zk
  try clear Yk
  try clear Xk
  try clear Wk
  try clear Vk
  obtain ⟨kq,QJ,rfl,HA,LX,oa,HB⟩:=hcut;cases kq with
  | zero=>exact absurd HA.out (by simp [Xb.j0])
  | succ iP =>
   have H:=HA.out;clear HA;simp only [Xb.j0] at H
   by_cases Qp:QJ=true
   ·subst Qp;have H1:(some false)=some r:=by rw [if_pos rfl] at H;exact H
    clear H;have H:=H1;clear H1;obtain rfl:=Option.some.inj H;go_wp2;go_ret;exact ⟨by first|rfl|(simp [Na,Ma] <;> rfl)|(simp [*,Na,Ma] <;> rfl),by repeat (first|(with_reducible first|exact HB.out|apply qa|apply ia|apply ta|refine ua ?_ Ta.out)|exact HB.out)⟩
   ·replace Qp:=Bool.eq_false_iff.mpr Qp;subst Qp;have H1:(Xb.l0 iP 0 Fa (Fa.length:Int) 0 Ra La Ja Ia Fa)=some r:=by rw [if_neg (show ¬ (false=true) by decide)] at H;exact H
    clear H;have H:=H1;clear H1;have H':=ja.mk H;clear H;have bu:wc.cell? ⟨ya,0,none⟩=some (.slice Za Ra.length gb):=(ga oa.out 0).trans rfl;have au:wc.cell? ⟨ya,1,none⟩=some (.int .i64 La):=(ga oa.out 1).trans rfl;have Zt:wc.cell? ⟨ya,2,none⟩=some (.int .i64 Ja):=(ga oa.out 2).trans rfl;have Yt:wc.cell? ⟨ya,3,none⟩=some (.int .i64 Ia):=(ga oa.out 3).trans rfl;have Xt:wc.cell? ⟨ya,4,none⟩=some (.slice Vb Fa.length Lb):=(ga oa.out 4).trans rfl;have Bt:=aa oa.out 0;have yt:=aa oa.out 1;have vt:=aa oa.out 2;have qt:=aa oa.out 3;have ot:=aa oa.out 4;go_wp2
    go_loopg [3,33] iP (fun kq v3 v33 w'=>∃ (Sx:Int) (Nd:Int),v3 = .int .i64 Sx∧v33 = .int .i64 Nd∧ja (Xb.l0 kq Sx Fa (Fa.length:Int) Nd Ra La Ja Ia Fa=some r)∧ja (kq ≤ iP)∧ja (w'.heap[ya]? = some (.cells #[(.slice Za Ra.length gb),.int .i64 La,.int .i64 Ja,.int .i64 Ia,(.slice Vb Fa.length Lb)] 30 (0,0)))∧ja (Below w.heap.size w w'))
    case atStart=>exact ⟨(0),(0),(by first|rfl|(simp;done)|(simp [*];done)),(by first|rfl|(simp;done)|(simp [*];done)),H',⟨Nat.le_refl _⟩,⟨by (with_reducible repeat (first|refine Aa ?_ _|refine Da ?_|refine Ba ?_ _));exact oa.out⟩,⟨by repeat (first|(with_reducible first|exact HB.out|apply qa|apply ia|apply ta|refine ua ?_ Ta.out)|exact HB.out)⟩⟩
    case round =>
     clear H'
     try clear c1
     try clear p2
     try clear c4
     try clear c5
     try clear c7
     try clear Qp
     try clear eo
     try clear Zn
     try clear Yn
     try clear Xn
     try clear Wn
     try clear Sl
     try clear Rl
     try clear Ql
     try clear Ol
     try clear Nl
     try clear fj
     try clear ej
     try clear cj
     try clear aj
     try clear Zi
     try clear ox
     try clear jx
     try clear gx
     try clear dx
     try clear bx
     try clear bu
     try clear au
     try clear Zt
     try clear Yt
     try clear Xt
     try clear Hl
     try clear Gl
     try clear Fl
     try clear El
     try clear Dl
     try clear Vn
     try clear Un
     try clear Tn
     try clear Sn
     try clear Rn
     try clear Cl
     try clear Bl
     try clear Al
     try clear zl
     try clear vl
     try clear Wi
     try clear Vi
     try clear Ui
     try clear Ti
     try clear Si
     try clear Nw
     try clear Mw
     try clear Lw
     try clear Kw
     try clear Jw
     try clear Bt
     try clear yt
     try clear vt
     try clear qt
     try clear ot
     try clear Zk
     try clear Yk
     try clear Xk
     try clear Wk
     try clear Vk
     try clear p2
     (try clear HA);(try clear Vr);(try clear oa);(try clear HB);obtain ⟨Sx,Nd,rfl,rfl,HA,Vr,oa,HB⟩:=hrel;cases gk with
     | zero=>exact absurd HA.out (by simp [Xb.l0])
     | succ k2 =>
      have H:=HA.out;clear HA;simp only [Xb.l0] at H
      by_cases Xm:Nd < (Fa.length:Int)
      ·rw [if_pos Xm] at H;have er:decide (Nd < (Fa.length:Int))=true:=decide_eq_true Xm;clear Xm
       by_cases Yp:0 ≤ Nd
       ·rw [if_pos Yp] at H;have Bx:decide (0 ≤ Nd)=true:=decide_eq_true Yp;clear Yp
        by_cases zx:Nd < (Fa.length:Int)
        ·rw [if_pos zx] at H;have PM:decide (Nd < (Fa.length:Int))=true:=decide_eq_true zx;clear zx;replace H:=Option.bind_eq_some_iff.mp H;obtain ⟨t107,fac,H⟩:=H;replace H:(if t107=true then (Xb.l0 k2 (wrap64 (Sx + (((Oa Fa Nd).f0).length:Int))) Fa (Fa.length:Int) (wrap64 (Nd + 1)) Ra La Ja Ia Fa) else (some false))=some r:=H;have A22:=ja.mk fac;clear fac
         by_cases eG:t107=true
         ·subst eG;have H1:(Xb.l0 k2 (wrap64 (Sx + (((Oa Fa Nd).f0).length:Int))) Fa (Fa.length:Int) (wrap64 (Nd + 1)) Ra La Ja Ia Fa)=some r:=by rw [if_pos rfl] at H;exact H
          clear H;have H:=H1;clear H1;have H':=ja.mk H;clear H;have kn:0 ≤ (Nd:Int):=Ua;have jn:Nd < (Fa.length:Int):=Ua;obtain ⟨gm,Mj,Kj,EB,Og,Xj,Wj,Vj,Uj,Oi,Ri⟩:=Bi Uf.out Nd kn jn;cases EB;replace Og:=Pa HB.out Og;replace Xj:=Pa HB.out Xj;replace Wj:=Pa HB.out Wj;replace Vj:=Pa HB.out Vj;replace Uj:=Pa HB.out Uj;have jo:=ja.mk Ri;have ju:=ja.mk Oi;clear Ri Oi;replace kn:=eq_true kn;replace jn:=eq_true jn;go_wp2_with (first|((with_reducible refine xb (N:=5) rfl ?_);(try (refine ug (by rfl) ?_;dsimp only));refine Fb ?hg (N:=5) ?hd (cs:=#[.slice none 0 0,.int .i64 0,.int .i64 0,.int .i64 0,.int .i64 0]) (t:=59) ?hr ?_;(case hd=>rfl);(case hg=>rfl);(case hr=>first|(go_simp;done)|(go_simp;rfl));intro Oj hg tO Pb hb;have Bb:=ja.mk (Va (g:=ya) (o:=.cells #[.slice Za Ra.length gb,.int .i64 La,.int .i64 Ja,.int .i64 Ia,.slice (some gm) Fa.length Lb] 30 (0,0)) (by (with_reducible repeat (first|refine Aa ?_ _|refine Da ?_|refine Ba ?_ _));exact oa.out) hb);have Gb:=ja.mk (Qa (by repeat (first|(with_reducible first|exact HB.out|apply qa|apply ia|apply ta|refine ua ?_ Ta.out)|exact HB.out)) hb);have Nb:=ja.mk (Pb);have Dc:=ja.mk ((by rw [hg];exact (Ka (by repeat (first|(with_reducible first|exact HB.out|apply qa|apply ia|apply ta|refine ua ?_ Ta.out)|exact HB.out))):w.heap.size ≤ Oj));have Jf:=ja.mk ((by rw [hg];exact (Ka (by repeat (first|(with_reducible first|exact HB.out|apply qa|apply ia|apply ta|refine ua ?_ Ta.out)|exact HB.out))):w.heap.size ≤ Oj));have sg:=ja.mk ((by rw [hg];exact Nat.ne_of_lt (Rc (g:=ya) (o:=.cells #[.slice Za Ra.length gb,.int .i64 La,.int .i64 Ja,.int .i64 Ia,.slice (some gm) Fa.length Lb] 30 (0,0)) (by (with_reducible repeat (first|refine Aa ?_ _|refine Da ?_|refine Ba ?_ _));exact oa.out)):ya ≠ Oj));have Bg:=ja.mk ((by rw [hg];exact Nat.ne_of_gt (Rc (g:=ya) (o:=.cells #[.slice Za Ra.length gb,.int .i64 La,.int .i64 Ja,.int .i64 Ia,.slice (some gm) Fa.length Lb] 30 (0,0)) (by (with_reducible repeat (first|refine Aa ?_ _|refine Da ?_|refine Ba ?_ _));exact oa.out)):Oj ≠ ya));clear oa HB;have oa:=Bb;have HB:=Gb;have Kh:=Nb;have Yab:=Dc;have Wr:=Jf;have Kg:=sg;have Sy:=Bg;clear Bb Gb Nb Dc Jf sg Bg hb Pb hg;have E5:=Sy.out;have V4:=Kg.out;have Rt:tO.cell? ⟨Oj,0,none⟩=some (.slice none 0 0):=(ga Kh.out 0).trans rfl;have Qt:tO.cell? ⟨Oj,1,none⟩=some (.int .i64 0):=(ga Kh.out 1).trans rfl;have Pt:tO.cell? ⟨Oj,2,none⟩=some (.int .i64 0):=(ga Kh.out 2).trans rfl;have Ot:tO.cell? ⟨Oj,3,none⟩=some (.int .i64 0):=(ga Kh.out 3).trans rfl;have Nt:tO.cell? ⟨Oj,4,none⟩=some (.int .i64 0):=(ga Kh.out 4).trans rfl;have Ys:=aa Kh.out 0;have Xs:=aa Kh.out 1;have Ws:=aa Kh.out 2;have Vs:=aa Kh.out 3;have Us:=aa Kh.out 4;have Mt:tO.cell? ⟨ya,0,none⟩=some (.slice Za Ra.length gb):=(ga oa.out 0).trans rfl;have Lt:tO.cell? ⟨ya,1,none⟩=some (.int .i64 La):=(ga oa.out 1).trans rfl;have Kt:tO.cell? ⟨ya,2,none⟩=some (.int .i64 Ja):=(ga oa.out 2).trans rfl;have Jt:tO.cell? ⟨ya,3,none⟩=some (.int .i64 Ia):=(ga oa.out 3).trans rfl;have Ht:tO.cell? ⟨ya,4,none⟩=some (.slice (some gm) Fa.length Lb):=(ga oa.out 4).trans rfl;have Ts:=aa oa.out 0;have Ss:=aa oa.out 1;have Rs:=aa oa.out 2;have Qs:=aa oa.out 3;have Ns:=aa oa.out 4)|((with_reducible refine qb (f:=77) rfl ?_);refine Mc (some 44) rfl rfl Try.func77 (by kernel_rfl) rfl #[.agg #[.slice Za Ra.length gb,.int .i64 La,.int .i64 Ja,.int .i64 Ia,.slice (some gm) Fa.length Lb],.agg #[.slice Mj ((Oa Fa Nd).f0).length Kj,.int .i64 ((Oa Fa Nd).f1),.int .i64 ((Oa Fa Nd).f2),.int .i64 ((Oa Fa Nd).f3),.int .i64 ((Oa Fa Nd).f4)]] rfl (by (try simp only [List.map_toArray,List.map_cons,List.map_nil]);first|done|rfl|(simp only [List.length_drop,List.length_take];rfl)) ?_;(with_reducible refine (Sh.calls _ _ Ra La Ja Ia _ _ Fa _ _ ((Oa Fa Nd).f0) ((Oa Fa Nd).f1) ((Oa Fa Nd).f2) ((Oa Fa Nd).f3) ((Oa Fa Nd).f4) true _ ?Jc ?Ic ?Qd ?Pd ?Br ?Ar A22.out).mono ?_);(case Jc=>exact Kd.Mb He.out (by repeat (first|(with_reducible first|exact HB.out|apply qa|apply ia|apply ta|refine ua ?_ Ta.out|refine ua ?_ Wr.out)|exact HB.out)));(case Ic=>exact Me.out);(case Qd=>exact Kd.Mb Uf.out (by repeat (first|(with_reducible first|exact HB.out|apply qa|apply ia|apply ta|refine ua ?_ Ta.out|refine ua ?_ Wr.out)|exact HB.out)));(case Pd=>exact Ug.out);(case Br=>exact Kd.Mb jo.out (by repeat (first|(with_reducible first|exact HB.out|apply qa|apply ia|apply ta|refine ua ?_ Ta.out|refine ua ?_ Wr.out)|exact HB.out)));(case Ar=>exact ju.out);rintro e vr ⟨rfl,hb⟩;refine ⟨_,rfl,?_⟩;have Bb:=ja.mk (Va (g:=ya) (o:=.cells #[.slice Za Ra.length gb,.int .i64 La,.int .i64 Ja,.int .i64 Ia,.slice (some gm) Fa.length Lb] 30 (0,0)) (by (with_reducible repeat (first|refine Aa ?_ _|refine Da ?_|refine Ba ?_ _));refine we ?_ Kg.out _;(with_reducible repeat (first|refine Aa ?_ _|refine Da ?_|refine Ba ?_ _));refine we ?_ Kg.out _;(with_reducible repeat (first|refine Aa ?_ _|refine Da ?_|refine Ba ?_ _));refine we ?_ Kg.out _;(with_reducible repeat (first|refine Aa ?_ _|refine Da ?_|refine Ba ?_ _));refine we ?_ Kg.out _;(with_reducible repeat (first|refine Aa ?_ _|refine Da ?_|refine Ba ?_ _));refine we ?_ Kg.out _;(with_reducible repeat (first|refine Aa ?_ _|refine Da ?_|refine Ba ?_ _));exact oa.out) hb);have Gb:=ja.mk (Va (g:=Oj) (o:=.cells #[.slice Mj ((Oa Fa Nd).f0).length Kj,.int .i64 ((Oa Fa Nd).f1),.int .i64 ((Oa Fa Nd).f2),.int .i64 ((Oa Fa Nd).f3),.int .i64 ((Oa Fa Nd).f4)] 59 (0,0)) (by (with_reducible repeat (first|refine Aa ?_ _|refine Da ?_|refine Ba ?_ _));refine ue (cs:=#[.slice Mj ((Oa Fa Nd).f0).length Kj,.int .i64 ((Oa Fa Nd).f1),.int .i64 ((Oa Fa Nd).f2),.int .i64 ((Oa Fa Nd).f3),.int .i64 0]) ?_ 4 _ rfl;(with_reducible repeat (first|refine Aa ?_ _|refine Da ?_|refine Ba ?_ _));refine ue (cs:=#[.slice Mj ((Oa Fa Nd).f0).length Kj,.int .i64 ((Oa Fa Nd).f1),.int .i64 ((Oa Fa Nd).f2),.int .i64 0,.int .i64 0]) ?_ 3 _ rfl;(with_reducible repeat (first|refine Aa ?_ _|refine Da ?_|refine Ba ?_ _));refine ue (cs:=#[.slice Mj ((Oa Fa Nd).f0).length Kj,.int .i64 ((Oa Fa Nd).f1),.int .i64 0,.int .i64 0,.int .i64 0]) ?_ 2 _ rfl;(with_reducible repeat (first|refine Aa ?_ _|refine Da ?_|refine Ba ?_ _));refine ue (cs:=#[.slice Mj ((Oa Fa Nd).f0).length Kj,.int .i64 0,.int .i64 0,.int .i64 0,.int .i64 0]) ?_ 1 _ rfl;(with_reducible repeat (first|refine Aa ?_ _|refine Da ?_|refine Ba ?_ _));refine ue (cs:=#[.slice none 0 0,.int .i64 0,.int .i64 0,.int .i64 0,.int .i64 0]) ?_ 0 _ rfl;(with_reducible repeat (first|refine Aa ?_ _|refine Da ?_|refine Ba ?_ _));exact Kh.out) hb);have Nb:=ja.mk (Qa (by repeat (first|(with_reducible first|exact HB.out|apply qa|apply ia|apply ta|refine ua ?_ Ta.out|refine ua ?_ Wr.out)|exact HB.out)) hb);clear oa Kh HB;have oa:=Bb;have Kh:=Gb;have HB:=Nb;clear Bb Gb Nb;(try clear hb);(try clear si);(try clear hk);(try clear hi)))
          go_roundg k2
          case measure=>have:=LX.out;have:=Vr.out;omega
          case rel=>exact ⟨(wrap64 (Sx + (((Oa Fa Nd).f0).length:Int))),(wrap64 (Nd + 1)),(by first|rfl|(simp;done)|(simp [*];done)),(by first|rfl|(simp;done)|(simp [*];done)),H',⟨by have:=LX.out;have:=Vr.out;omega⟩,⟨by (with_reducible repeat (first|refine Aa ?_ _|refine Da ?_|refine Ba ?_ _));exact oa.out⟩,⟨by repeat (first|(with_reducible first|exact HB.out|apply qa|apply ia|apply ta|refine ua ?_ Ta.out|refine ua ?_ Wr.out)|exact HB.out)⟩⟩
         ·replace eG:=Bool.eq_false_iff.mpr eG;subst eG;have H1:(some false)=some r:=by rw [if_neg (show ¬ (false=true) by decide)] at H;exact H
          clear H;have H:=H1;clear H1;obtain rfl:=Option.some.inj H;have kn:0 ≤ (Nd:Int):=Ua;have jn:Nd < (Fa.length:Int):=Ua;obtain ⟨gm,Mj,Kj,EB,Og,Xj,Wj,Vj,Uj,Oi,Ri⟩:=Bi Uf.out Nd kn jn;cases EB;replace Og:=Pa HB.out Og;replace Xj:=Pa HB.out Xj;replace Wj:=Pa HB.out Wj;replace Vj:=Pa HB.out Vj;replace Uj:=Pa HB.out Uj;have jo:=ja.mk Ri;have ju:=ja.mk Oi;clear Ri Oi;replace kn:=eq_true kn;replace jn:=eq_true jn;go_wp2_with (first|((with_reducible refine xb (N:=5) rfl ?_);(try (refine ug (by rfl) ?_;dsimp only));refine Fb ?hg (N:=5) ?hd (cs:=#[.slice none 0 0,.int .i64 0,.int .i64 0,.int .i64 0,.int .i64 0]) (t:=59) ?hr ?_;(case hd=>rfl);(case hg=>rfl);(case hr=>first|(go_simp;done)|(go_simp;rfl));intro Oj hg zG Pb hb;have Bb:=ja.mk (Va (g:=ya) (o:=.cells #[.slice Za Ra.length gb,.int .i64 La,.int .i64 Ja,.int .i64 Ia,.slice (some gm) Fa.length Lb] 30 (0,0)) (by (with_reducible repeat (first|refine Aa ?_ _|refine Da ?_|refine Ba ?_ _));exact oa.out) hb);have Gb:=ja.mk (Qa (by repeat (first|(with_reducible first|exact HB.out|apply qa|apply ia|apply ta|refine ua ?_ Ta.out)|exact HB.out)) hb);have Nb:=ja.mk (Pb);have Dc:=ja.mk ((by rw [hg];exact (Ka (by repeat (first|(with_reducible first|exact HB.out|apply qa|apply ia|apply ta|refine ua ?_ Ta.out)|exact HB.out))):w.heap.size ≤ Oj));have Jf:=ja.mk ((by rw [hg];exact (Ka (by repeat (first|(with_reducible first|exact HB.out|apply qa|apply ia|apply ta|refine ua ?_ Ta.out)|exact HB.out))):w.heap.size ≤ Oj));have sg:=ja.mk ((by rw [hg];exact Nat.ne_of_lt (Rc (g:=ya) (o:=.cells #[.slice Za Ra.length gb,.int .i64 La,.int .i64 Ja,.int .i64 Ia,.slice (some gm) Fa.length Lb] 30 (0,0)) (by (with_reducible repeat (first|refine Aa ?_ _|refine Da ?_|refine Ba ?_ _));exact oa.out)):ya ≠ Oj));have Bg:=ja.mk ((by rw [hg];exact Nat.ne_of_gt (Rc (g:=ya) (o:=.cells #[.slice Za Ra.length gb,.int .i64 La,.int .i64 Ja,.int .i64 Ia,.slice (some gm) Fa.length Lb] 30 (0,0)) (by (with_reducible repeat (first|refine Aa ?_ _|refine Da ?_|refine Ba ?_ _));exact oa.out)):Oj ≠ ya));clear oa HB;have oa:=Bb;have HB:=Gb;have Kh:=Nb;have Yab:=Dc;have Wr:=Jf;have Kg:=sg;have Sy:=Bg;clear Bb Gb Nb Dc Jf sg Bg hb Pb hg;have xap:=Sy.out;have Lao:=Kg.out;have Gt:zG.cell? ⟨Oj,0,none⟩=some (.slice none 0 0):=(ga Kh.out 0).trans rfl;have Ft:zG.cell? ⟨Oj,1,none⟩=some (.int .i64 0):=(ga Kh.out 1).trans rfl;have Et:zG.cell? ⟨Oj,2,none⟩=some (.int .i64 0):=(ga Kh.out 2).trans rfl;have Dt:zG.cell? ⟨Oj,3,none⟩=some (.int .i64 0):=(ga Kh.out 3).trans rfl;have Ct:zG.cell? ⟨Oj,4,none⟩=some (.int .i64 0):=(ga Kh.out 4).trans rfl;have Ms:=aa Kh.out 0;have Ls:=aa Kh.out 1;have Ks:=aa Kh.out 2;have Js:=aa Kh.out 3;have Hs:=aa Kh.out 4;have NF:zG.cell? ⟨ya,0,none⟩=some (.slice Za Ra.length gb):=(ga oa.out 0).trans rfl;have MF:zG.cell? ⟨ya,1,none⟩=some (.int .i64 La):=(ga oa.out 1).trans rfl;have LF:zG.cell? ⟨ya,2,none⟩=some (.int .i64 Ja):=(ga oa.out 2).trans rfl;have KF:zG.cell? ⟨ya,3,none⟩=some (.int .i64 Ia):=(ga oa.out 3).trans rfl;have JF:zG.cell? ⟨ya,4,none⟩=some (.slice (some gm) Fa.length Lb):=(ga oa.out 4).trans rfl;have HE:=aa oa.out 0;have FE:=aa oa.out 1;have EE:=aa oa.out 2;have DE:=aa oa.out 3;have CE:=aa oa.out 4)|((with_reducible refine qb (f:=77) rfl ?_);refine Mc (some 44) rfl rfl Try.func77 (by kernel_rfl) rfl #[.agg #[.slice Za Ra.length gb,.int .i64 La,.int .i64 Ja,.int .i64 Ia,.slice (some gm) Fa.length Lb],.agg #[.slice Mj ((Oa Fa Nd).f0).length Kj,.int .i64 ((Oa Fa Nd).f1),.int .i64 ((Oa Fa Nd).f2),.int .i64 ((Oa Fa Nd).f3),.int .i64 ((Oa Fa Nd).f4)]] rfl (by (try simp only [List.map_toArray,List.map_cons,List.map_nil]);first|done|rfl|(simp only [List.length_drop,List.length_take];rfl)) ?_;(with_reducible refine (Sh.calls _ _ Ra La Ja Ia _ _ Fa _ _ ((Oa Fa Nd).f0) ((Oa Fa Nd).f1) ((Oa Fa Nd).f2) ((Oa Fa Nd).f3) ((Oa Fa Nd).f4) false _ ?Jc ?Ic ?Qd ?Pd ?Br ?Ar A22.out).mono ?_);(case Jc=>exact Kd.Mb He.out (by repeat (first|(with_reducible first|exact HB.out|apply qa|apply ia|apply ta|refine ua ?_ Ta.out|refine ua ?_ Wr.out)|exact HB.out)));(case Ic=>exact Me.out);(case Qd=>exact Kd.Mb Uf.out (by repeat (first|(with_reducible first|exact HB.out|apply qa|apply ia|apply ta|refine ua ?_ Ta.out|refine ua ?_ Wr.out)|exact HB.out)));(case Pd=>exact Ug.out);(case Br=>exact Kd.Mb jo.out (by repeat (first|(with_reducible first|exact HB.out|apply qa|apply ia|apply ta|refine ua ?_ Ta.out|refine ua ?_ Wr.out)|exact HB.out)));(case Ar=>exact ju.out);rintro e TJ ⟨rfl,hb⟩;refine ⟨_,rfl,?_⟩;have Bb:=ja.mk (Va (g:=ya) (o:=.cells #[.slice Za Ra.length gb,.int .i64 La,.int .i64 Ja,.int .i64 Ia,.slice (some gm) Fa.length Lb] 30 (0,0)) (by (with_reducible repeat (first|refine Aa ?_ _|refine Da ?_|refine Ba ?_ _));refine we ?_ Kg.out _;(with_reducible repeat (first|refine Aa ?_ _|refine Da ?_|refine Ba ?_ _));refine we ?_ Kg.out _;(with_reducible repeat (first|refine Aa ?_ _|refine Da ?_|refine Ba ?_ _));refine we ?_ Kg.out _;(with_reducible repeat (first|refine Aa ?_ _|refine Da ?_|refine Ba ?_ _));refine we ?_ Kg.out _;(with_reducible repeat (first|refine Aa ?_ _|refine Da ?_|refine Ba ?_ _));refine we ?_ Kg.out _;(with_reducible repeat (first|refine Aa ?_ _|refine Da ?_|refine Ba ?_ _));exact oa.out) hb);have Gb:=ja.mk (Va (g:=Oj) (o:=.cells #[.slice Mj ((Oa Fa Nd).f0).length Kj,.int .i64 ((Oa Fa Nd).f1),.int .i64 ((Oa Fa Nd).f2),.int .i64 ((Oa Fa Nd).f3),.int .i64 ((Oa Fa Nd).f4)] 59 (0,0)) (by (with_reducible repeat (first|refine Aa ?_ _|refine Da ?_|refine Ba ?_ _));refine ue (cs:=#[.slice Mj ((Oa Fa Nd).f0).length Kj,.int .i64 ((Oa Fa Nd).f1),.int .i64 ((Oa Fa Nd).f2),.int .i64 ((Oa Fa Nd).f3),.int .i64 0]) ?_ 4 _ rfl;(with_reducible repeat (first|refine Aa ?_ _|refine Da ?_|refine Ba ?_ _));refine ue (cs:=#[.slice Mj ((Oa Fa Nd).f0).length Kj,.int .i64 ((Oa Fa Nd).f1),.int .i64 ((Oa Fa Nd).f2),.int .i64 0,.int .i64 0]) ?_ 3 _ rfl;(with_reducible repeat (first|refine Aa ?_ _|refine Da ?_|refine Ba ?_ _));refine ue (cs:=#[.slice Mj ((Oa Fa Nd).f0).length Kj,.int .i64 ((Oa Fa Nd).f1),.int .i64 0,.int .i64 0,.int .i64 0]) ?_ 2 _ rfl;(with_reducible repeat (first|refine Aa ?_ _|refine Da ?_|refine Ba ?_ _));refine ue (cs:=#[.slice Mj ((Oa Fa Nd).f0).length Kj,.int .i64 0,.int .i64 0,.int .i64 0,.int .i64 0]) ?_ 1 _ rfl;(with_reducible repeat (first|refine Aa ?_ _|refine Da ?_|refine Ba ?_ _));refine ue (cs:=#[.slice none 0 0,.int .i64 0,.int .i64 0,.int .i64 0,.int .i64 0]) ?_ 0 _ rfl;(with_reducible repeat (first|refine Aa ?_ _|refine Da ?_|refine Ba ?_ _));exact Kh.out) hb);have Nb:=ja.mk (Qa (by repeat (first|(with_reducible first|exact HB.out|apply qa|apply ia|apply ta|refine ua ?_ Ta.out|refine ua ?_ Wr.out)|exact HB.out)) hb);clear oa Kh HB;have oa:=Bb;have Kh:=Gb;have HB:=Nb;clear Bb Gb Nb;(try clear hb);(try clear si);(try clear hk);(try clear hi)));go_ret;exact ⟨by first|rfl|(simp [Na,Ma] <;> rfl)|(simp [*,Na,Ma] <;> rfl),by repeat (first|(with_reducible first|exact HB.out|apply qa|apply ia|apply ta|refine ua ?_ Ta.out|refine ua ?_ Wr.out)|exact HB.out)⟩
        ·rw [if_neg zx] at H;exact absurd H (by simp)
       ·rw [if_neg Yp] at H;exact absurd H (by simp)
      ·rw [if_neg Xm] at H;have er:decide (Nd < (Fa.length:Int))=false:=decide_eq_false Xm;clear Xm;obtain rfl:=Option.some.inj H;go_wp2;go_ret;exact ⟨by first|rfl|(simp [Na,Ma] <;> rfl)|(simp [*,Na,Ma] <;> rfl),by repeat (first|(with_reducible first|exact HB.out|apply qa|apply ia|apply ta|refine ua ?_ Ta.out)|exact HB.out)⟩
def Yc.l0:Nat→List Int→List Bool→Int→Int→Option (List Int)
 | 0,_,_,_,_=>none
 | k + 1,x3,x7,x8,x9=>if x9 < x8 then (if 0 ≤ x9 then (if x9 < (x7.length:Int) then (if Rf false x7 x9=true then (if x3.length < 17592186044416 then (Yc.l0 k (x3 ++ [x9]) x7 x8 (wrap64 (x9 + 1))) else (none)) else (Yc.l0 k x3 x7 x8 (wrap64 (x9 + 1)))) else (none)) else (none)) else (some x3)
def Yc.f (k:Nat) (l0:List Bool):Option (List Int):=Yc.l0 k (([]:List Int)) l0 (l0.length:Int) 0
theorem Yc.calls (k:Nat) (A0:Option Addr) (c0:Nat) (l0:List Bool) (r:List Int) (w:World) (nk:Kd.C Kd.bool w A0 l0.length l0) (hc0:l0.length ≤ c0) (h:Yc.f k l0=some r) :
  Calls Try.prog 48 #[.slice A0 l0.length c0] w fun e w'=>∃ Km:Value,e = .returned (Km)∧Kd.R (Kd.int .i64) 3 w' w.heap.size (fun _=>True) Km r∧Below w.heap.size w w':=by
 have mo:=ja.mk nk;have ZH:=ja.mk hc0;clear nk hc0;have HB:=ja.mk (Below.refl w.heap.size w);have H:(Yc.l0 k (([]:List Int)) l0 (l0.length:Int) 0)=some r:=h;clear h;obtain ⟨tf,Af⟩:∃ y_:List Int,y_=(([]:List Int)):=⟨_,rfl⟩;replace H:(Yc.l0 k tf l0 (l0.length:Int) 0)=some r:=by first|(rw [Af];with_reducible exact H)|(have Gd:=(Option.bind_some _ _).symm.trans H;rw [Af];with_reducible exact Gd)|(have Gd:=(Option.bind_some _ _).symm.trans H;with_reducible exact Gd)|with_reducible exact H|(rw [Af];exact H)|exact H
 have Qj:=ja.mk Af;clear Af;have H':=ja.mk H;clear H;go_enter Try.func48,Try.ntmps48;go_wp2_with (first|((with_reducible refine xb (N:=6) rfl ?_);refine Kd.ni (Kd.int .i64) _ 3 ?hg (N:=6) ?hd (xs:=([]:List Int)) (inner:=[]) (ok:=fun _=>True) (Lh:=fun _=>True) ?hr ?hp (fun _ hk=>hk) trivial (Below.refl _ _) (Nat.le_refl _) (by simp) ?_;(case hd=>rfl);(case hg=>rfl);(case hr=>first|(go_simp;done)|(go_simp;rfl));(case hp=>exact (td.none _ _));intro IG w2 M4 hb om Le;clear om Le;(first|rw [← Qj.out] at M4|(simp only [Int.reduceToNat] at M4;rw [← Qj.out] at M4));have Bb:=ja.mk (Kd.Dd M4 (Ka (by repeat (first|(with_reducible first|exact HB.out|apply qa|apply ia|apply ta)|exact HB.out))));have Gb:=ja.mk (Qa (by repeat (first|(with_reducible first|exact HB.out|apply qa|apply ia|apply ta)|exact HB.out)) hb);clear HB;have Wp:=Bb;have HB:=Gb;clear Bb Gb hb M4))
 go_loopg [3,9] k (fun kq v3 v9 w'=>∃ (Od:List Int) (dg:Int),v9 = .int .i64 dg∧ja (Yc.l0 kq Od l0 (l0.length:Int) dg=some r)∧ja (kq ≤ k)∧ja (Kd.R (Kd.int .i64) 3 w' w.heap.size (fun _=>True) v3 Od)∧ja (Below w.heap.size w w'))
 case atStart=>exact ⟨(tf),(0),(by first|rfl|(simp;done)|(simp [*];done)),H',⟨Nat.le_refl _⟩,⟨by (with_reducible repeat (first|apply Kd.zb|apply Kd.yb|apply Kd.Ib));exact Wp.out⟩,⟨by repeat (first|(with_reducible first|exact HB.out|apply qa|apply ia|apply ta)|exact HB.out)⟩⟩
 case round =>
  clear H'
  try clear p2
  (try clear HA);(try clear qg);(try clear Wc);(try clear HB);obtain ⟨Od,dg,rfl,HA,qg,Wc,HB⟩:=hrel;cases gk with
  | zero=>exact absurd HA.out (by simp [Yc.l0])
  | succ k1 =>
   have H:=HA.out;clear HA;simp only [Yc.l0] at H
   by_cases c4:dg < (l0.length:Int)
   ·rw [if_pos c4] at H;have tj:decide (dg < (l0.length:Int))=true:=decide_eq_true c4;clear c4
    by_cases c5:0 ≤ dg
    ·rw [if_pos c5] at H;have ki:decide (0 ≤ dg)=true:=decide_eq_true c5;clear c5
     by_cases c6:dg < (l0.length:Int)
     ·rw [if_pos c6] at H;have Sm:decide (dg < (l0.length:Int))=true:=decide_eq_true c6;clear c6;obtain ⟨bq7,uZ⟩:∃ b_:Bool,b_=(Rf false l0 dg):=⟨_,rfl⟩;replace H:(if bq7=true then (if Od.length < 17592186044416 then (Yc.l0 k1 (Od ++ [dg]) l0 (l0.length:Int) (wrap64 (dg + 1))) else (none)) else (Yc.l0 k1 Od l0 (l0.length:Int) (wrap64 (dg + 1))))=some r:=by rw [← uZ] at H;exact H
      have Jaa:=ja.mk uZ;clear uZ
      by_cases c8:bq7=true
      ·subst c8;have H1:(if Od.length < 17592186044416 then (Yc.l0 k1 (Od ++ [dg]) l0 (l0.length:Int) (wrap64 (dg + 1))) else (none))=some r:=by rw [if_pos rfl] at H;exact H
       clear H;have H:=H1;clear H1
       by_cases c9:Od.length < 17592186044416
       ·rw [if_pos c9] at H;have L1:=ja.mk c9;clear c9;obtain ⟨xd,Qe⟩:∃ y_:List Int,y_=(Od ++ [dg]):=⟨_,rfl⟩;replace H:(Yc.l0 k1 xd l0 (l0.length:Int) (wrap64 (dg + 1)))=some r:=by first|(rw [Qe];with_reducible exact H)|(have Gd:=(Option.bind_some _ _).symm.trans H;rw [Qe];with_reducible exact Gd)|(have Gd:=(Option.bind_some _ _).symm.trans H;with_reducible exact Gd)|with_reducible exact H|(rw [Qe];exact H)|exact H
        have Hj:=ja.mk Qe;clear Qe;have H':=ja.mk H;clear H;have iq:0 ≤ (dg:Int):=Ua;have fq:dg < (l0.length:Int):=Ua;obtain ⟨VM,aG,Ch⟩:=Kd.jj mo.out dg iq fq;(try rw [← Jaa.out] at Ch);cases aG;replace Ch:=Pa HB.out Ch;replace iq:=eq_true iq;replace fq:=eq_true fq;go_wp2_with (first|((with_reducible refine Md (b:=.append) (xs:=#[.tmp 15,.tmp 17]) rfl ?_);at_builtin;refine Kd.Cg (Kd.int .i64) (w0:=w) w.heap.size rfl (.tmp 15) (.tmp 17) 22 3 (.int .i64 0) 8 rfl Try.underlying22 info3 rfl (by decide) (by omega) u3 Od dg [.int .i64 dg] (fun _=>True) (fun _=>False) rfl rfl ?aP (fun _ hk=>hk.elim) ?aF ?aO ?aB ?aS ?aL ?_;(case aP=>exact rfl);(case aB=>exact (by repeat (first|(with_reducible first|exact HB.out|apply qa|apply ia|apply ta)|exact HB.out)));(case aF=>exact (fun _ _=>trivial));(case aO=>exact (by (with_reducible repeat (first|apply Kd.zb|apply Kd.yb|apply Kd.Ib));exact Wc.out));(case aS=>exact (Ka (by repeat (first|(with_reducible first|exact HB.out|apply qa|apply ia|apply ta)|exact HB.out))));(case aL=>have:=L1.out;omega);intro Ux aq ho hb hg hat;rw [← Hj.out] at ho;have Bb:=ja.mk (hb);have Gb:=ja.mk (ho);clear HB Wc;have HB:=Bb;have zh:=Gb;clear Bb Gb ho hb hg hat))
        go_roundg k1
        case measure=>have:=qg.out;omega
        case rel=>exact ⟨(xd),(wrap64 (dg + 1)),(by first|rfl|(simp;done)|(simp [*];done)),H',⟨by have:=qg.out;omega⟩,⟨by (with_reducible repeat (first|apply Kd.zb|apply Kd.yb|apply Kd.Ib));exact zh.out⟩,⟨by repeat (first|(with_reducible first|exact HB.out|apply qa|apply ia|apply ta)|exact HB.out)⟩⟩
       ·rw [if_neg c9] at H;exact absurd H (by simp)
      ·replace c8:=Bool.eq_false_iff.mpr c8;subst c8;have H1:(Yc.l0 k1 Od l0 (l0.length:Int) (wrap64 (dg + 1)))=some r:=by rw [if_neg (show ¬ (false=true) by decide)] at H;exact H
       clear H;have H:=H1;clear H1;have H':=ja.mk H;clear H;have iq:0 ≤ (dg:Int):=Ua;have fq:dg < (l0.length:Int):=Ua;obtain ⟨VM,aG,Ch⟩:=Kd.jj mo.out dg iq fq;(try rw [← Jaa.out] at Ch);cases aG;replace Ch:=Pa HB.out Ch;replace iq:=eq_true iq;replace fq:=eq_true fq;go_wp2
       go_roundg k1
       case measure=>have:=qg.out;omega
       case rel=>exact ⟨(Od),(wrap64 (dg + 1)),(by first|rfl|(simp;done)|(simp [*];done)),H',⟨by have:=qg.out;omega⟩,⟨by (with_reducible repeat (first|apply Kd.zb|apply Kd.yb|apply Kd.Ib));exact Wc.out⟩,⟨by repeat (first|(with_reducible first|exact HB.out|apply qa|apply ia|apply ta)|exact HB.out)⟩⟩
     ·rw [if_neg c6] at H;exact absurd H (by simp)
    ·rw [if_neg c5] at H;exact absurd H (by simp)
   ·rw [if_neg c4] at H;have tj:decide (dg < (l0.length:Int))=false:=decide_eq_false c4;clear c4;obtain rfl:=Option.some.inj H;go_wp2;go_ret;exact ⟨_,by first|rfl|(simp [Na,Ma] <;> rfl)|(simp [*,Na,Ma] <;> rfl),by (with_reducible repeat (first|apply Kd.zb|apply Kd.yb|apply Kd.Ib));exact Wc.out,by repeat (first|(with_reducible first|exact HB.out|apply qa|apply ia|apply ta)|exact HB.out)⟩
def ak.f (Eb:Int) (La:Int) (Ja:Int) (Ia:Int) (mb:Int) (mc:Int) (fc:ByteArray):Option (Int):=if Eb=4 then (some (-1)) else (if Eb=6 then (some (-1)) else (some La))
theorem ak.calls (Eb:Int) (La:Int) (Ja:Int) (Ia:Int) (mb:Int) (mc:Int) (fc:ByteArray) (r:Int) (w:World) (h:ak.f Eb La Ja Ia mb mc fc=some r) :
  Calls Try.prog 87 #[.agg #[.int .i64 Eb,.int .i64 La,.int .i64 Ja,.int .i64 Ia,.int .i64 mb,.int .i64 mc,.string fc]] w fun e w'=>e = .returned (.int .i64 r)∧Below w.heap.size w w':=by
 have fy:=Try.underlying65;have HB:=ja.mk (Below.refl w.heap.size w);have H:(if Eb=4 then (some (-1)) else (if Eb=6 then (some (-1)) else (some La)))=some r:=h;clear h
 by_cases c2:Eb=4
 ·rw [if_pos c2] at H;have nu:(Eb == 4)=true:=beq_iff_eq.mpr c2;have Jy:(Eb != 4)=false:=bne_eq_false_iff_eq.mpr c2;clear c2;obtain rfl:=Option.some.inj H;go_enter Try.func87,Try.ntmps87;go_wp2_with (first|((with_reducible refine xb (N:=1) rfl ?_);refine Fb ?hg (N:=1) ?hd (cs:=#[.int .i64 Eb,.int .i64 La,.int .i64 Ja,.int .i64 Ia,.int .i64 mb,.int .i64 mc,.string fc]) (t:=65) ?hr ?_;(case hd=>rfl);(case hg=>rfl);(case hr=>first|(go_simp;done)|(go_simp;rfl));intro ya hg w3 Pb hb;have Bb:=ja.mk (Qa (by repeat (first|(with_reducible first|exact HB.out|apply qa|apply ia|apply ta)|exact HB.out)) hb);have Gb:=ja.mk (Pb);have Nb:=ja.mk ((by rw [hg];exact (Ka (by repeat (first|(with_reducible first|exact HB.out|apply qa|apply ia|apply ta)|exact HB.out))):w.heap.size ≤ ya));have Dc:=ja.mk ((by rw [hg];exact (Ka (by repeat (first|(with_reducible first|exact HB.out|apply qa|apply ia|apply ta)|exact HB.out))):w.heap.size ≤ ya));clear HB;have HB:=Bb;have oa:=Gb;have Ad:=Nb;have Ta:=Dc;clear Bb Gb Nb Dc hb Pb hg;have Ey:w3.cell? ⟨ya,0,none⟩=some (.int .i64 Eb):=(ga oa.out 0).trans rfl;have Dy:w3.cell? ⟨ya,1,none⟩=some (.int .i64 La):=(ga oa.out 1).trans rfl;have Cy:w3.cell? ⟨ya,2,none⟩=some (.int .i64 Ja):=(ga oa.out 2).trans rfl;have zy:w3.cell? ⟨ya,3,none⟩=some (.int .i64 Ia):=(ga oa.out 3).trans rfl;have yy:w3.cell? ⟨ya,4,none⟩=some (.int .i64 mb):=(ga oa.out 4).trans rfl;have ZE:w3.cell? ⟨ya,5,none⟩=some (.int .i64 mc):=(ga oa.out 5).trans rfl;have YE:w3.cell? ⟨ya,6,none⟩=some (.string fc):=(ga oa.out 6).trans rfl;have sy:=aa oa.out 0;have ry:=aa oa.out 1;have qy:=aa oa.out 2;have oy:=aa oa.out 3;have ny:=aa oa.out 4;have TD:=aa oa.out 5;have SD:=aa oa.out 6));go_ret;exact ⟨by first|rfl|(simp [Na,Ma] <;> rfl)|(simp [*,Na,Ma] <;> rfl),by repeat (first|(with_reducible first|exact HB.out|apply qa|apply ia|apply ta|refine ua ?_ Ta.out)|exact HB.out)⟩
 ·rw [if_neg c2] at H;have nu:(Eb == 4)=false:=beq_eq_false_iff_ne.mpr c2;have Jy:(Eb != 4)=true:=bne_iff_ne.mpr c2
  by_cases c5:Eb=6
  ·rw [if_pos c5] at H;have ki:(Eb == 6)=true:=beq_iff_eq.mpr c5;have Uu:(Eb != 6)=false:=bne_eq_false_iff_eq.mpr c5;clear c5;obtain rfl:=Option.some.inj H;go_enter Try.func87,Try.ntmps87;go_wp2_with (first|((with_reducible refine xb (N:=1) rfl ?_);refine Fb ?hg (N:=1) ?hd (cs:=#[.int .i64 Eb,.int .i64 La,.int .i64 Ja,.int .i64 Ia,.int .i64 mb,.int .i64 mc,.string fc]) (t:=65) ?hr ?_;(case hd=>rfl);(case hg=>rfl);(case hr=>first|(go_simp;done)|(go_simp;rfl));intro ya hg w6 Pb hb;have Bb:=ja.mk (Qa (by repeat (first|(with_reducible first|exact HB.out|apply qa|apply ia|apply ta)|exact HB.out)) hb);have Gb:=ja.mk (Pb);have Nb:=ja.mk ((by rw [hg];exact (Ka (by repeat (first|(with_reducible first|exact HB.out|apply qa|apply ia|apply ta)|exact HB.out))):w.heap.size ≤ ya));have Dc:=ja.mk ((by rw [hg];exact (Ka (by repeat (first|(with_reducible first|exact HB.out|apply qa|apply ia|apply ta)|exact HB.out))):w.heap.size ≤ ya));clear HB;have HB:=Bb;have oa:=Gb;have Ad:=Nb;have Ta:=Dc;clear Bb Gb Nb Dc hb Pb hg;have Hq:w6.cell? ⟨ya,0,none⟩=some (.int .i64 Eb):=(ga oa.out 0).trans rfl;have Gq:w6.cell? ⟨ya,1,none⟩=some (.int .i64 La):=(ga oa.out 1).trans rfl;have Fq:w6.cell? ⟨ya,2,none⟩=some (.int .i64 Ja):=(ga oa.out 2).trans rfl;have Dq:w6.cell? ⟨ya,3,none⟩=some (.int .i64 Ia):=(ga oa.out 3).trans rfl;have Cq:w6.cell? ⟨ya,4,none⟩=some (.int .i64 mb):=(ga oa.out 4).trans rfl;have RE:w6.cell? ⟨ya,5,none⟩=some (.int .i64 mc):=(ga oa.out 5).trans rfl;have QE:w6.cell? ⟨ya,6,none⟩=some (.string fc):=(ga oa.out 6).trans rfl;have uq:=aa oa.out 0;have sq:=aa oa.out 1;have rq:=aa oa.out 2;have qq:=aa oa.out 3;have pq:=aa oa.out 4;have MD:=aa oa.out 5;have LD:=aa oa.out 6));go_ret;exact ⟨by first|rfl|(simp [Na,Ma] <;> rfl)|(simp [*,Na,Ma] <;> rfl),by repeat (first|(with_reducible first|exact HB.out|apply qa|apply ia|apply ta|refine ua ?_ Ta.out)|exact HB.out)⟩
  ·rw [if_neg c5] at H;have ki:(Eb == 6)=false:=beq_eq_false_iff_ne.mpr c5;have Uu:(Eb != 6)=true:=bne_iff_ne.mpr c5;obtain rfl:=Option.some.inj H;go_enter Try.func87,Try.ntmps87;go_wp2_with (first|((with_reducible refine xb (N:=1) rfl ?_);refine Fb ?hg (N:=1) ?hd (cs:=#[.int .i64 Eb,.int .i64 La,.int .i64 Ja,.int .i64 Ia,.int .i64 mb,.int .i64 mc,.string fc]) (t:=65) ?hr ?_;(case hd=>rfl);(case hg=>rfl);(case hr=>first|(go_simp;done)|(go_simp;rfl));intro ya hg w8 Pb hb;have Bb:=ja.mk (Qa (by repeat (first|(with_reducible first|exact HB.out|apply qa|apply ia|apply ta)|exact HB.out)) hb);have Gb:=ja.mk (Pb);have Nb:=ja.mk ((by rw [hg];exact (Ka (by repeat (first|(with_reducible first|exact HB.out|apply qa|apply ia|apply ta)|exact HB.out))):w.heap.size ≤ ya));have Dc:=ja.mk ((by rw [hg];exact (Ka (by repeat (first|(with_reducible first|exact HB.out|apply qa|apply ia|apply ta)|exact HB.out))):w.heap.size ≤ ya));clear HB;have HB:=Bb;have oa:=Gb;have Ad:=Nb;have Ta:=Dc;clear Bb Gb Nb Dc hb Pb hg;have Hl:w8.cell? ⟨ya,0,none⟩=some (.int .i64 Eb):=(ga oa.out 0).trans rfl;have Gl:w8.cell? ⟨ya,1,none⟩=some (.int .i64 La):=(ga oa.out 1).trans rfl;have Fl:w8.cell? ⟨ya,2,none⟩=some (.int .i64 Ja):=(ga oa.out 2).trans rfl;have El:w8.cell? ⟨ya,3,none⟩=some (.int .i64 Ia):=(ga oa.out 3).trans rfl;have Dl:w8.cell? ⟨ya,4,none⟩=some (.int .i64 mb):=(ga oa.out 4).trans rfl;have pZ:w8.cell? ⟨ya,5,none⟩=some (.int .i64 mc):=(ga oa.out 5).trans rfl;have oZ:w8.cell? ⟨ya,6,none⟩=some (.string fc):=(ga oa.out 6).trans rfl;have Zk:=aa oa.out 0;have Yk:=aa oa.out 1;have Xk:=aa oa.out 2;have Wk:=aa oa.out 3;have Vk:=aa oa.out 4;have ZY:=aa oa.out 5;have YY:=aa oa.out 6));go_ret;exact ⟨by first|rfl|(simp [Na,Ma] <;> rfl)|(simp [*,Na,Ma] <;> rfl),by repeat (first|(with_reducible first|exact HB.out|apply qa|apply ia|apply ta|refine ua ?_ Ta.out)|exact HB.out)⟩
end Go.Proofs.Ytkigbdceceeenaa.P
end
