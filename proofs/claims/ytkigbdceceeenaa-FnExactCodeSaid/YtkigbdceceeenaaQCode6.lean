import Derived.Test.YtkigbdceceeenaaQCode1
import Derived.Shelf.Abstract
import Derived.Outline
import Derived.RegionTactic
import Derived.Deep.QuietTactic
import Derived.BigQuiet
set_option maxHeartbeats 8000000
set_option maxRecDepth 100000
section
namespace Go.Proofs.Ytkigbdceceeenaa.P
open Go.RowKit Go.Proofs.Oa.Rb Go.Proofs.Oa.Pd Go.Proofs.Oa.Re
set_option linter.unusedVariables false
set_option linter.unusedSimpArgs false
attribute [local go_sem] Mh ki rj Kj th qh ni ji
def Gl.f (a0:Int) (a1:Int) (a2:Int):Option (Bool):=if a0 ≥ a1 then (some (decide (a0 ≤ a2))) else (some false)
theorem Gl.calls (a0:Int) (a1:Int) (a2:Int) (r:Bool) (w:World) (h:Gl.f a0 a1 a2=some r) :
  Calls Try.prog 55 #[.int .i64 a0,.int .i64 a1,.int .i64 a2] w fun e w'=>e = .returned (.bool r)∧nc w w':=by
 have H:(if a0 ≥ a1 then (some (decide (a0 ≤ a2))) else (some false))=some r:=h;clear h
 by_cases c4:a0 ≥ a1
 ·rw [if_pos c4] at H;have mj:decide (a1 ≤ a0)=true:=decide_eq_true c4;clear c4;obtain rfl:=Option.some.inj H;go_enter Try.func55,Try.ntmps55;go_wp2;go_ret;exact ⟨DaK,vaK⟩
 ·rw [if_neg c4] at H;have mj:decide (a1 ≤ a0)=false:=decide_eq_false c4;clear c4;obtain rfl:=Option.some.inj H;go_enter Try.func55,Try.ntmps55;go_wp2;go_ret;exact ⟨DaK,vaK⟩
theorem K9 {W w1:World} (hb:Below W.heap.size W w1):(∀ b o,b < W.heap.size→w1.cell? ⟨b,o,none⟩=W.cell? ⟨b,o,none⟩)∧(∀ b o,b < W.heap.size→w1.frozen? ⟨b,o,none⟩=W.frozen? ⟨b,o,none⟩) :=
 ⟨fun b o h=>hb.cell (p:=⟨b,o,none⟩) h,fun b o h=>hb.frozen (p:=⟨b,o,none⟩) h⟩
theorem jy {α:Type} {l:List α} {p:α→Bool} {k:Nat} {d:α} (hk:k < l.length) (h:(l.take k).any p=false) (hx:p (l.getD k d)=false):(l.take (k + 1)).any p=false:=by
 rw [List.take_succ_eq_append_getElem hk,List.any_append,h]
 simpa [List.getD_eq_getElem?_getD,List.getElem?_eq_getElem hk] using hx
theorem sR {α:Type} {l:List α} {p:α→Bool} {k:Nat} {d:α} (hk:k < l.length) (hx:p (l.getD k d)=true):l.any p=true:=by
 rw [List.any_eq_true];exact ⟨l[k],List.getElem_mem hk,by simpa [List.getD_eq_getElem?_getD,List.getElem?_eq_getElem hk] using hx⟩
theorem nG (g:Nat) (lb:Array Value) (p:tf→Bool) (eg:∀ args w,(callFunc g args).run Try.prog w = .ok (.enter g args) w) (A0:Option Addr) (c0:Nat) (l0:List tf) (w:World) (Tk:Kd.C Xk w A0 l0.length l0) (hc0:l0.length ≤ c0)
  (hp:∀ (W:World) (x:tf),Below w.heap.size w W→Calls Try.prog g (#[(.agg #[.int .i64 x.f0,.int .i64 x.f1,.int .i64 x.f2,.int .i64 x.f3,.int .i64 x.f4,.int .i64 x.f5,.string x.f6])] ++ lb) W fun e w'=>e = .returned (.bool (p x))∧Below W.heap.size W w') :
  Calls Try.prog 120 #[.slice A0 l0.length c0,.func (.func g) #[] lb] w fun e w'=>(∃ i:Int,e = .returned (.int .i64 i)∧decide (0 ≤ i)=l0.any p)∧Below w.heap.size w w':=by
 have hmx:=Tk.2.1;have ij:=aa.mk Tk;have nH:=aa.mk hc0;have HP:=aa.mk hp;clear Tk hc0 hp;go_enter Try.func120,Try.ntmps120;go_wp2
 go_loopg [5,8] l0.length (fun gg _ s8 wr=>∃ kk:Nat,kk ≤ l0.length∧l0.length - kk ≤ gg∧s8 = .int .i64 kk∧aa (Below w.heap.size w wr)∧aa ((l0.take kk).any p=false))
 case atStart=>exact ⟨0,Nat.zero_le _,by omega,rfl,⟨Below.refl _ w⟩,⟨by simp⟩⟩
 case round =>
  (try clear BW);(try clear HA);obtain ⟨kk,hkk,hg,rfl,BW,HA⟩:=hrel
  by_cases hlt:kk < l0.length
  ·have p1:0 ≤ (kk:Int):=by omega
   have q1:(kk:Int) < (l0.length:Int):=by omega
   obtain ⟨ad,e1,hx0,hx1,XF,WA,Nu,rT,qT⟩:=Mp ij.out (kk:Int) p1 q1;cases e1;simp only [Int.toNat_natCast] at hx0 hx1 XF WA Nu rT qT;replace hx0:=(BW.out.cell (World.block_lt_of_cell? w _ hx0)).trans hx0;replace hx1:=(BW.out.cell (World.block_lt_of_cell? w _ hx1)).trans hx1;replace XF:=(BW.out.cell (World.block_lt_of_cell? w _ XF)).trans XF;replace WA:=(BW.out.cell (World.block_lt_of_cell? w _ WA)).trans WA;replace Nu:=(BW.out.cell (World.block_lt_of_cell? w _ Nu)).trans Nu;replace rT:=(BW.out.cell (World.block_lt_of_cell? w _ rT)).trans rT;replace qT:=(BW.out.cell (World.block_lt_of_cell? w _ qT)).trans qT;have EA:=HP.out wr (Ga l0 (kk:Int)) BW.out;cases hq:p (Ga l0 (kk:Int)) with
   | true =>
    rw [hq] at EA;go_wp2_with (go_at_fn g;refine EA.mono ?_;rintro e w1 ⟨rfl,wB⟩);go_ret;exact ⟨⟨_,rfl,by rw [sR (d:=Wv) hlt hq];simp⟩,BW.out.trans (wB.mono BW.out.size)⟩
   | false =>
    rw [hq] at EA;go_wp2_with (go_at_fn g;refine EA.mono ?_;rintro e w1 ⟨rfl,wB⟩)
    go_roundg (l0.length - (kk + 1))
    case measure=>omega
    case rel=>exact ⟨kk + 1,by omega,by omega,by go_num,⟨BW.out.trans (wB.mono BW.out.size)⟩,⟨jy (d:=Wv) hlt HA.out hq⟩⟩
  ·have Jay:¬ (kk:Int) < (l0.length:Int):=by omega
   have he:kk=l0.length:=by omega
   subst he;go_wp2;go_ret;exact ⟨⟨_,rfl,by have h_:=HA.out;rw [List.take_length] at h_;rw [h_];simp⟩,BW.out⟩
theorem Oy (g:Nat) (lb:Array Value) (p:tf→Bool) (eg:∀ args w,(callFunc g args).run Try.prog w = .ok (.enter g args) w) (A0:Option Addr) (c0:Nat) (l0:List tf) (w:World) (Tk:Kd.C Xk w A0 l0.length l0) (hc0:l0.length ≤ c0)
  (hp:∀ (W:World) (x:tf),Below w.heap.size w W→Calls Try.prog g (#[(.agg #[.int .i64 x.f0,.int .i64 x.f1,.int .i64 x.f2,.int .i64 x.f3,.int .i64 x.f4,.int .i64 x.f5,.string x.f6])] ++ lb) W fun e w'=>e = .returned (.bool (p x))∧Below W.heap.size W w') :
  Calls Try.prog 102 #[.slice A0 l0.length c0,.func (.func g) #[] lb] w fun e w'=>e = .returned (.bool (l0.any p))∧Below w.heap.size w w':=by
 have HI:=aa.mk (nG g lb p eg A0 c0 l0 w Tk hc0 hp);clear Tk hc0 hp;go_enter Try.func102,Try.ntmps102;go_wp2_with (go_at_call 120;refine HI.out.mono ?_;rintro e w1 ⟨⟨i,rfl,hi⟩,wB⟩;have HD:=aa.mk hi;clear hi);go_ret;exact ⟨by rw [← HD.out];first|rfl|simp,wB⟩
def Gb.l0:Nat→List ByteArray→ByteArray→Int→Int→Option (Int)
 | 0,_,_,_,_=>none
 | k + 1,x0,x1,x7,x8=>if x8 < x7 then (if 0 ≤ x8 then (if x8 < (x0.length:Int) then (if x1.toList=(Kg ByteArray.empty x0 x8).toList then (some x8) else (Gb.l0 k x0 x1 x7 (wrap64 (x8 + 1)))) else (none)) else (none)) else (some (-1))
def Gb.f (k:Nat) (l0:List ByteArray) (a1:ByteArray):Option (Int):=Gb.l0 k l0 a1 (l0.length:Int) 0
theorem Gb.ME:∀ k,(∀ y0 y1 y2 y3,jn (Gb.l0 k y0 y1 y2 y3) (Gb.l0 (k + 1) y0 y1 y2 y3))
 | 0=>fun _ _ _ _ r h=>by simp [Gb.l0] at h
 | k + 1=>by
  have yU:=Gb.ME k
  ·intro y0 y1 y2 y3;unfold Gb.l0
   repeat' first
   | (with_reducible exact yU _ _ _ _)
   | (with_reducible exact jn.refl _)
   | (with_reducible exact jn.none _)
   | (with_reducible refine jn.ite ?_ ?_)
   | (with_reducible refine jn.bind ?_ (fun _=>?_))
   | exact yU _ _ _ _
   | exact jn.none _
   | refine jn.ite ?_ ?_
   | refine jn.bind ?_ (fun _=>?_)
theorem Gb.mono:∀ a0 a1 k,jn (Gb.f k a0 a1) (Gb.f (k + 1) a0 a1):=by
 intro a0 a1 k;have yU:=Gb.ME k;unfold Gb.f
 repeat' first
   | (with_reducible exact yU _ _ _ _)
   | (with_reducible exact jn.refl _)
   | (with_reducible exact jn.none _)
   | (with_reducible refine jn.ite ?_ ?_)
   | (with_reducible refine jn.bind ?_ (fun _=>?_))
   | exact yU _ _ _ _
   | exact jn.none _
   | refine jn.ite ?_ ?_
   | refine jn.bind ?_ (fun _=>?_)
theorem Gb.calls (k:Nat) (A0:Option Addr) (c0:Nat) (l0:List ByteArray) (a1:ByteArray) (r:Int) (w:World) (Tk:Kd.C Kd.string w A0 l0.length l0) (hc0:l0.length ≤ c0) (h:Gb.f k l0 a1=some r) :
  Calls Try.prog 109 #[.slice A0 l0.length c0,.string a1] w fun e w'=>e = .returned (.int .i64 r)∧nc w w':=by
 have ij:=aa.mk Tk;have nH:=aa.mk hc0;clear Tk hc0;have H:(Gb.l0 k l0 a1 (l0.length:Int) 0)=some r:=h;clear h;have H':=aa.mk H;clear H;go_enter Try.func109,Try.ntmps109;go_wp2
 go_loopg [8] k (fun kq v8 w'=>∃ (Eu:Int),v8 = .int .i64 Eu∧aa (Gb.l0 kq l0 a1 (l0.length:Int) Eu=some r)∧aa (kq ≤ k)∧nc w w')
 case atStart=>exact ⟨(0),saK,H',⟨Nat.le_refl _⟩,vaK⟩
 case round =>
  clear H'
  try clear c1
  try clear p2
  (try clear HA);(try clear Vg);obtain ⟨Eu,rfl,HA,Vg,⟨m1,rfl⟩⟩:=hrel;cases gk with
  | zero=>exact absurd HA.out (by simp [Gb.l0])
  | succ k1 =>
   have H:=HA.out;clear HA;simp only [Gb.l0] at H
   by_cases c3:Eu < (l0.length:Int)
   ·rw [if_pos c3] at H;have jh:decide (Eu < (l0.length:Int))=true:=decide_eq_true c3;clear c3
    by_cases c4:0 ≤ Eu
    ·rw [if_pos c4] at H;have mj:decide (0 ≤ Eu)=true:=decide_eq_true c4;clear c4
     by_cases c5:Eu < (l0.length:Int)
     ·rw [if_pos c5] at H;have Tl:decide (Eu < (l0.length:Int))=true:=decide_eq_true c5;clear c5
      by_cases c6:a1.toList=(Kg ByteArray.empty l0 Eu).toList
      ·rw [if_pos c6] at H;have vn:=beq_iff_eq.mpr c6;have zB:=bne_eq_false_iff_eq.mpr c6;clear c6;obtain rfl:=Option.some.inj H;have Ge:0 ≤ (Eu:Int):=Va;have Fe:Eu < (l0.length:Int):=Va;obtain ⟨od,xh,yd⟩:=Kd.Gp ij.out Eu Ge Fe;cases xh;replace Ge:=eq_true Ge;replace Fe:=eq_true Fe;go_wp2;go_ret;exact ⟨DaK,vaK⟩
      ·rw [if_neg c6] at H;have vn:=beq_eq_false_iff_ne.mpr c6;have zB:=bne_iff_ne.mpr c6;have H':=aa.mk H;clear H;have Ge:0 ≤ (Eu:Int):=Va;have Fe:Eu < (l0.length:Int):=Va;obtain ⟨od,xh,yd⟩:=Kd.Gp ij.out Eu Ge Fe;cases xh;replace Ge:=eq_true Ge;replace Fe:=eq_true Fe;go_wp2
       go_roundg k1
       case measure=>have:=Vg.out;omega
       case rel=>exact ⟨(wrap64 (Eu + 1)),saK,H',⟨by have:=Vg.out;omega⟩,vaK⟩
     ·rw [if_neg c5] at H;exact absurd H (by simp)
    ·rw [if_neg c4] at H;exact absurd H (by simp)
   ·rw [if_neg c3] at H;have jh:decide (Eu < (l0.length:Int))=false:=decide_eq_false c3;clear c3;obtain rfl:=Option.some.inj H;go_wp2;go_ret;exact ⟨DaK,vaK⟩
def Zc.f (k:Nat) (l0:List ByteArray) (a1:ByteArray):Option (Bool):=(Gb.f k l0 a1).bind fun t101=>(some (decide (t101 ≥ 0)))
theorem Zc.mono:∀ a0 a1 k,jn (Zc.f k a0 a1) (Zc.f (k + 1) a0 a1):=by
 intro a0 a1 k;unfold Zc.f
 repeat' first
   | (with_reducible exact Gb.mono _ _ _)
   | (with_reducible exact jn.refl _)
   | (with_reducible exact jn.none _)
   | (with_reducible refine jn.ite ?_ ?_)
   | (with_reducible refine jn.bind ?_ (fun _=>?_))
   | exact Gb.mono _ _ _
   | exact jn.none _
   | refine jn.ite ?_ ?_
   | refine jn.bind ?_ (fun _=>?_)
theorem Zc.calls (k:Nat) (A0:Option Addr) (c0:Nat) (l0:List ByteArray) (a1:ByteArray) (r:Bool) (w:World) (Tk:Kd.C Kd.string w A0 l0.length l0) (hc0:l0.length ≤ c0) (h:Zc.f k l0 a1=some r) :
  Calls Try.prog 126 #[.slice A0 l0.length c0,.string a1] w fun e w'=>e = .returned (.bool r)∧nc w w':=by
 have ij:=aa.mk Tk;have nH:=aa.mk hc0;clear Tk hc0;have H:((Gb.f k l0 a1).bind fun t101=>(some (decide (t101 ≥ 0))))=some r:=h;clear h;replace H:=Option.bind_eq_some_iff.mp H;obtain ⟨t101,Qx,H⟩:=H
 try dsimp only at H
 have A3:=aa.mk Qx;clear Qx;obtain rfl:=Option.some.inj H;go_enter Try.func126,Try.ntmps126;go_wp2_with (first|((with_reducible refine Cb (f:=109) rfl ?_);refine Jc (some 7) rfl rfl Try.func109 (by kernel_rfl) rfl #[.slice A0 l0.length c0,.string a1] rfl laK ?_;(with_reducible refine (Gb.calls k _ _ l0 a1 t101 _ ?Ic ?Gc A3.out).mono ?_);(case Ic=>repeat (first|exact ij.out|(with_reducible refine Kd.Vb ?_ _)|(with_reducible refine Kd.Ub ?_ _)|(with_reducible refine Kd.tc ?_)));(case Gc=>exact nH.out);rintro e w' ⟨rfl,⟨nd,rfl⟩⟩;refine ⟨_,rfl,?_⟩));go_ret;exact ⟨DaK,vaK⟩
def fo.f (k:Nat) (a0:ByteArray):Option (Bool):=(Zc.f k (([(⟨#[61,61]⟩:ByteArray),(⟨#[60]⟩:ByteArray),(⟨#[38]⟩:ByteArray),(⟨#[43]⟩:ByteArray),(⟨#[45]⟩:ByteArray),(⟨#[42]⟩:ByteArray)]:List ByteArray)) a0).bind fun t104=>(some t104)
theorem fo.calls (k:Nat) (a0:ByteArray) (r:Bool) (w:World) (h:fo.f k a0=some r) :
  Calls Try.prog 122 #[.string a0] w fun e w'=>e = .returned (.bool r)∧Below w.heap.size w w':=by
 have HB:=aa.mk (Below.refl w.heap.size w);have H:((Zc.f k (([(⟨#[61,61]⟩:ByteArray),(⟨#[60]⟩:ByteArray),(⟨#[38]⟩:ByteArray),(⟨#[43]⟩:ByteArray),(⟨#[45]⟩:ByteArray),(⟨#[42]⟩:ByteArray)]:List ByteArray)) a0).bind fun t104=>(some t104))=some r:=h;clear h;obtain ⟨Ee,gf⟩:∃ y_:List ByteArray,y_=(([(⟨#[61,61]⟩:ByteArray),(⟨#[60]⟩:ByteArray),(⟨#[38]⟩:ByteArray),(⟨#[43]⟩:ByteArray),(⟨#[45]⟩:ByteArray),(⟨#[42]⟩:ByteArray)]:List ByteArray)):=⟨_,rfl⟩;replace H:((Zc.f k Ee a0).bind fun t104=>(some t104))=some r:=by first|(rw [gf];with_reducible exact H)|(have Ld:=(Option.bind_some _ _).symm.trans H;rw [gf];with_reducible exact Ld)|(have Ld:=(Option.bind_some _ _).symm.trans H;with_reducible exact Ld)|with_reducible exact H|(rw [gf];exact H)|exact H
 have cj:=aa.mk gf;clear gf;replace H:=Option.bind_eq_some_iff.mp H;obtain ⟨t104,uC,H⟩:=H
 try dsimp only at H
 have A2:=aa.mk uC;clear uC;obtain rfl:=Option.some.inj H;go_enter Try.func122,Try.ntmps122;go_wp2_with (first|((with_reducible refine Za (N:=3) rfl ?_);refine Kd.Ei Kd.string _ 9 ?hg (N:=3) ?hd (xs:=([(⟨#[61,61]⟩:ByteArray),(⟨#[60]⟩:ByteArray),(⟨#[38]⟩:ByteArray),(⟨#[43]⟩:ByteArray),(⟨#[45]⟩:ByteArray),(⟨#[42]⟩:ByteArray)]:List ByteArray)) (inner:=[.string (⟨#[61,61]⟩:ByteArray),.string (⟨#[60]⟩:ByteArray),.string (⟨#[38]⟩:ByteArray),.string (⟨#[43]⟩:ByteArray),.string (⟨#[45]⟩:ByteArray),.string (⟨#[42]⟩:ByteArray)]) (ok:=fun _=>True) (Sh:=fun _=>True) ?hr ?hp (fun _ hk=>hk) trivial (Below.refl _ _) (Nat.le_refl _) (by simp) ?_;(case hd|hg=>rfl);(case hr=>exact gaK);(case hp=>exact (Wc.one (show Kd.M Kd.string _ _ _ (⟨#[61,61]⟩:ByteArray) [.string (⟨#[61,61]⟩:ByteArray)] from rfl) (Wc.one (show Kd.M Kd.string _ _ _ (⟨#[60]⟩:ByteArray) [.string (⟨#[60]⟩:ByteArray)] from rfl) (Wc.one (show Kd.M Kd.string _ _ _ (⟨#[38]⟩:ByteArray) [.string (⟨#[38]⟩:ByteArray)] from rfl) (Wc.one (show Kd.M Kd.string _ _ _ (⟨#[43]⟩:ByteArray) [.string (⟨#[43]⟩:ByteArray)] from rfl) (Wc.one (show Kd.M Kd.string _ _ _ (⟨#[45]⟩:ByteArray) [.string (⟨#[45]⟩:ByteArray)] from rfl) (Wc.one (show Kd.M Kd.string _ _ _ (⟨#[42]⟩:ByteArray) [.string (⟨#[42]⟩:ByteArray)] from rfl) (Wc.none _ _))))))));intro jG w3 oB hb bk xe;clear bk xe;(first|rw [← cj.out] at oB|(simp only [Int.reduceToNat] at oB;rw [← cj.out] at oB));have Bb:=aa.mk (Kd.td oB (Da jaK));have Db:=aa.mk (Ma jaK hb);clear HB;have kn:=Bb;have HB:=Db;clear Bb Db hb oB;obtain ⟨AY,YS,dR⟩:=Kd.Lc kn.out;subst dR)|((with_reducible refine Cb (f:=126) rfl ?_);refine Jc (some 5) rfl rfl Try.func126 (by kernel_rfl) rfl #[.slice AY Ee.length YS,.string a0] rfl laK ?_;(with_reducible refine (Zc.calls k _ _ Ee a0 t104 _ ?Ic ?Gc A2.out).mono ?_);(case Ic=>repeat (first|exact (Kd.Jb kn.out).2.2|(with_reducible refine Kd.Vb ?_ _)|(with_reducible refine Kd.Ub ?_ _)|(with_reducible refine Kd.tc ?_)));(case Gc=>exact (Kd.Jb kn.out).2.1);rintro e w' ⟨rfl,⟨nd,rfl⟩⟩;refine ⟨_,rfl,?_⟩));go_ret;exact ⟨naK,raK⟩
theorem BL (g:Nat) (lb:Array Value) (p:Int→Bool) (eg:∀ args w,(callFunc g args).run Try.prog w = .ok (.enter g args) w) (A0:Option Addr) (c0:Nat) (l0:List Int) (w:World) (Tk:Kd.C (Kd.int .i64) w A0 l0.length l0) (hc0:l0.length ≤ c0)
  (hp:∀ (W:World) (x:Int),Below w.heap.size w W→Calls Try.prog g (#[(.int .i64 x)] ++ lb) W fun e w'=>e = .returned (.bool (p x))∧Below W.heap.size W w') :
  Calls Try.prog 115 #[.slice A0 l0.length c0,.func (.func g) #[] lb] w fun e w'=>(∃ i:Int,e = .returned (.int .i64 i)∧decide (0 ≤ i)=l0.any p)∧Below w.heap.size w w':=by
 have hmx:=Tk.2.1;have ij:=aa.mk Tk;have nH:=aa.mk hc0;have HP:=aa.mk hp;clear Tk hc0 hp;go_enter Try.func115,Try.ntmps115;go_wp2
 go_loopg [5,8] l0.length (fun gg _ s8 wr=>∃ kk:Nat,kk ≤ l0.length∧l0.length - kk ≤ gg∧s8 = .int .i64 kk∧aa (Below w.heap.size w wr)∧aa ((l0.take kk).any p=false))
 case atStart=>exact ⟨0,Nat.zero_le _,by omega,rfl,⟨Below.refl _ w⟩,⟨by simp⟩⟩
 case round =>
  (try clear BW);(try clear HA);obtain ⟨kk,hkk,hg,rfl,BW,HA⟩:=hrel
  by_cases hlt:kk < l0.length
  ·have p1:0 ≤ (kk:Int):=by omega
   have q1:(kk:Int) < (l0.length:Int):=by omega
   obtain ⟨ad,e1,hx0⟩:=Kd.Bm ij.out (kk:Int) p1 q1;cases e1;simp only [Int.toNat_natCast] at hx0;replace hx0:=(BW.out.cell (World.block_lt_of_cell? w _ hx0)).trans hx0;have EA:=HP.out wr (rd l0 (kk:Int)) BW.out;cases hq:p (rd l0 (kk:Int)) with
   | true =>
    rw [hq] at EA;go_wp2_with (go_at_fn g;refine EA.mono ?_;rintro e w1 ⟨rfl,wB⟩);go_ret;exact ⟨⟨_,rfl,by rw [sR (d:=0) hlt hq];simp⟩,BW.out.trans (wB.mono BW.out.size)⟩
   | false =>
    rw [hq] at EA;go_wp2_with (go_at_fn g;refine EA.mono ?_;rintro e w1 ⟨rfl,wB⟩)
    go_roundg (l0.length - (kk + 1))
    case measure=>omega
    case rel=>exact ⟨kk + 1,by omega,by omega,by go_num,⟨BW.out.trans (wB.mono BW.out.size)⟩,⟨jy (d:=0) hlt HA.out hq⟩⟩
  ·have Jay:¬ (kk:Int) < (l0.length:Int):=by omega
   have he:kk=l0.length:=by omega
   subst he;go_wp2;go_ret;exact ⟨⟨_,rfl,by have h_:=HA.out;rw [List.take_length] at h_;rw [h_];simp⟩,BW.out⟩
theorem yB (g:Nat) (lb:Array Value) (p:Int→Bool) (eg:∀ args w,(callFunc g args).run Try.prog w = .ok (.enter g args) w) (A0:Option Addr) (c0:Nat) (l0:List Int) (w:World) (Tk:Kd.C (Kd.int .i64) w A0 l0.length l0) (hc0:l0.length ≤ c0)
  (hp:∀ (W:World) (x:Int),Below w.heap.size w W→Calls Try.prog g (#[(.int .i64 x)] ++ lb) W fun e w'=>e = .returned (.bool (p x))∧Below W.heap.size W w') :
  Calls Try.prog 99 #[.slice A0 l0.length c0,.func (.func g) #[] lb] w fun e w'=>e = .returned (.bool (l0.any p))∧Below w.heap.size w w':=by
 have HI:=aa.mk (BL g lb p eg A0 c0 l0 w Tk hc0 hp);clear Tk hc0 hp;go_enter Try.func99,Try.ntmps99;go_wp2_with (go_at_call 115;refine HI.out.mono ?_;rintro e w1 ⟨⟨i,rfl,hi⟩,wB⟩;have HD:=aa.mk hi;clear hi);go_ret;exact ⟨by rw [← HD.out];first|rfl|simp,wB⟩
def zm (a b c:Int):Bool:=decide (b ≤ a) && decide (a ≤ c)
theorem ym (a b c:Int) (w:World):Calls Try.prog 55 #[.int .i64 a,.int .i64 b,.int .i64 c] w fun e w'=>e = .returned (.bool (zm a b c))∧nc w w' :=
 Gl.calls a b c (zm a b c) w (by
  unfold Gl.f zm
  by_cases h:a ≥ b
  ·rw [if_pos h];have h':b ≤ a:=h;simp [h']
  ·rw [if_neg h];have h':¬ b ≤ a:=h
   simp [h'])
def sy (l:List Int) (p v:Int):Bool:=zm (l.length:Int) 1 4 && !(l.any fun n=>!zm n 1 16) && zm p 0 (if v < 6 then v else 6) && decide (v ≤ 20)
theorem wL (W:World) (x:Int):Calls Try.prog 100 #[.int .i64 x] W fun e w'=>e = .returned (.bool (!zm x 1 16))∧Below W.heap.size W w':=by
 have HC:=aa.mk (ym x 1 16);generalize zm x 1 16=b at HC ⊢;go_enter Try.func100,Try.ntmps100;go_wp2_with (go_at_call 55;refine (HC.out _).mono ?_;rintro e w1 ⟨rfl,wB⟩;have HD:=aa.mk wB.below;clear wB);go_ret;exact ⟨rfl,HD.out⟩
theorem kK (p0 p1 p2 p3:Value) (A:Option Addr) (c:Nat) (w:World) :
  Calls Try.prog 101 #[.agg #[p0,p1,p2,p3],.slice A 0 c,.int .i64 0] w fun e w'=>e = .returned (.bool true)∧Below w.heap.size w w':=by
 go_enter Try.func101,Try.ntmps101;go_wp2
 go_loop [25] (fun i=>i = .int .i64 0) (fun _=>0)
 case atStart=>exact rfl
 case round =>
  obtain rfl:=hrel;go_wp2;go_ret;exact ⟨rfl,ia (ia (Below.refl _ _) _) _⟩
theorem mG (A0 A3:Option Addr) (c0 c3:Nat) (l0:List Int) (a1 a2:Int) (w:World) (Tk:Kd.C (Kd.int .i64) w A0 l0.length l0) (hc0:l0.length ≤ c0) :
  Calls Try.prog 76 #[.agg #[.slice A0 l0.length c0,.int .i64 a1,.int .i64 a2,.slice A3 0 c3]] w fun e w'=>e = .returned (.bool (sy l0 a1 a2))∧Below w.heap.size w w':=by
 have eg:=enters_of Try.func100 (by kernel_rfl) rfl;have hmx:=Tk.2.1;have QF:=aa.mk (ym (l0.length:Int) 1 4);have Q_:=aa.mk (ym a1 0 (if a2 < 6 then a2 else 6));have HF:=aa.mk (fun (W:World) (hb:Below w.heap.size w W)=>yB 100 #[] (fun n=>!zm n 1 16) eg A0 c0 l0 W (Kd.Kb Tk hb) hc0 (fun W x _=>wL W x));clear Tk hc0;unfold sy
 by_cases h6:a2 < 6
 all_goals
  have hmin:min 6 a2=if a2 < 6 then a2 else 6:=by split <;> omega
  first|rw [if_pos h6] at Q_ hmin ⊢|rw [if_neg h6] at Q_ hmin ⊢
  cases wB:zm (l0.length:Int) 1 4 with
  | false =>
   go_enter Try.func76,Try.ntmps76;go_wp2_with (first|(go_at_call 55;refine (ym _ _ _ _).mono ?_;rintro e w1 ⟨rfl,⟨n,rfl⟩⟩));go_ret;exact ⟨rfl,ga (ia (Below.refl _ _) _) _⟩
  | true =>
   cases ek:(l0.any fun n=>!zm n 1 16) with
   | true =>
    rw [ek] at HF;go_enter Try.func76,Try.ntmps76;go_wp2_with (first|(go_at_call 55;refine (ym _ _ _ _).mono ?_;rintro e w1 ⟨rfl,⟨n,rfl⟩⟩)|(go_at_call 99;refine (HF.out _ (ga (ia (Below.refl _ _) _) _)).mono ?_;rintro e w1 ⟨rfl,hb⟩;have HB:=aa.mk (Ma (ga (ia (Below.refl _ _) _) _) hb);clear hb));go_ret;exact ⟨rfl,HB.out⟩
   | false =>
    rw [ek] at HF;go_enter Try.func76,Try.ntmps76;go_wp2_with (first|(go_at_call 55;(with_reducible refine (ym _ _ _ _).mono ?_);rintro e w1 ⟨rfl,⟨n,rfl⟩⟩)|(go_at_call 99;(with_reducible refine (HF.out _ (ga (ia (Below.refl _ _) _) _)).mono ?_);rintro e w1 ⟨rfl,hb⟩;have HB:=aa.mk (Ma (ga (ia (Below.refl _ _) _) _) hb);obtain ⟨Y4,T1⟩:=K9 hb;have zU:=hb.size;simp at zU;clear hb)|(go_at_call 101;(with_reducible refine (kK _ _ _ _ _ _ _).mono ?_);rintro e w2 ⟨rfl,hb⟩;have Ty:=aa.mk (Ma (ga HB.out _) hb);clear hb))
    all_goals
     go_ret
     first
      | exact ⟨by simp [*],Ty.out⟩
      | exact ⟨by simp [*],ga HB.out _⟩
def Zg.f (Ua:List Int) (Pa:Int) (Ra:Int) (Yf:List (EB)):Option Bool:=if Yf.length=0 then some (sy Ua Pa Ra) else none
theorem Zg.calls (yb:Option Addr) (zb:Nat) (Ua:List Int) (Pa:Int) (Ra:Int) (Di:Option Addr) (Ci:Nat) (Yf:List (EB)) (r:Bool) (w:World) (jf:Kd.C (Kd.int .i64) w yb Ua.length Ua) (Ze:Ua.length ≤ zb) (RG:Kd.C Rax w Di Yf.length Yf) (YG:Yf.length ≤ Ci) (h:Zg.f Ua Pa Ra Yf=some r) :
  Calls Try.prog 76 #[.agg #[.slice yb Ua.length zb,.int .i64 Pa,.int .i64 Ra,.slice Di Yf.length Ci]] w fun e w'=>e = .returned (.bool r)∧Below w.heap.size w w':=by
 unfold Zg.f at h
 split at h
 ·rename_i h0;injection h with h
  subst h;rw [h0];exact mG yb Di zb Ci Ua Pa Ra w jf Ze
 ·cases h
theorem Hak (d:Nat) (w:World) (x0 y0:Int) (x1 y1:Int) (x2 y2:Int) (x3 y3:Int) (x4 y4:Int) (x5 y5:Int) (x6 y6:ByteArray) :
  (Op.equalIn (d + 2) 65 (.agg #[.int .i64 x0,.int .i64 x1,.int .i64 x2,.int .i64 x3,.int .i64 x4,.int .i64 x5,.string x6]) (.agg #[.int .i64 y0,.int .i64 y1,.int .i64 y2,.int .i64 y3,.int .i64 y4,.int .i64 y5,.string y6])).run Try.prog w = .ok (x0 == y0 && (x1 == y1 && (x2 == y2 && (x3 == y3 && (x4 == y4 && (x5 == y5 && (x6.toList == y6.toList))))))) w:=by
 refine kac Try.underlying65 (by kernel_rfl) ?_;refine Bs (by rfl) (by go_simp;rfl) (by go_simp;rfl) (by go_simp) ?_;refine Bs (by rfl) (by go_simp;rfl) (by go_simp;rfl) (by go_simp) ?_;refine Bs (by rfl) (by go_simp;rfl) (by go_simp;rfl) (by go_simp) ?_;refine Bs (by rfl) (by go_simp;rfl) (by go_simp;rfl) (by go_simp) ?_;refine Bs (by rfl) (by go_simp;rfl) (by go_simp;rfl) (by go_simp) ?_;refine Bs (by rfl) (by go_simp;rfl) (by go_simp;rfl) (by go_simp) ?_;exact NV (by rfl) (by go_simp;rfl) (by go_simp;rfl) (by go_simp)
attribute [local go_sem high] Hak
def jN:List ByteArray:=[⟨#[61,61]⟩,⟨#[60]⟩,⟨#[38]⟩,⟨#[43]⟩,⟨#[45]⟩,⟨#[42]⟩]
def az (s:ByteArray):Bool:=jN.any fun y=>decide (s.toList=y.toList)
theorem tS (s:ByteArray):fo.f 8 s=some (az s):=by
 unfold fo.f Zc.f Gb.f az jN;simp only [Gb.l0,List.any_cons,List.any_nil]
 by_cases h0:s.toList=[61,61]
 ·simp [Kg,h0]
 by_cases h1:s.toList=[60]
 ·simp [Kg,h1,wrap64]
 by_cases h2:s.toList=[38]
 ·simp [Kg,h2,wrap64]
 by_cases h3:s.toList=[43]
 ·simp [Kg,h3,wrap64]
 by_cases h4:s.toList=[45]
 ·simp [Kg,h4,wrap64]
 by_cases h5:s.toList=[42]
 ·simp [Kg,h5,wrap64]
 simp [Kg,h0,h1,h2,h3,h4,h5,wrap64]
theorem wN (s:ByteArray) (w:World):Calls Try.prog 122 #[.string s] w fun e w'=>e = .returned (.bool (az s))∧Below w.heap.size w w':=fo.calls 8 s (az s) w (tS s)
def Fl (slots s:Int):Bool:=decide (0 ≤ s) && decide (s < slots)
theorem Zk (B:Nat) (slots s:Int) (W:World) (b5:W.cell? ⟨B,3,none⟩=some (.int .i64 slots)):Calls Try.prog 121 #[.int .i64 s,.pointer (some ⟨B,0,none⟩)] W fun e w'=>e = .returned (.bool (Fl slots s))∧W=w':=by
 unfold Fl
 by_cases h:0 ≤ s
 all_goals
  go_enter Try.func121,Try.ntmps121;go_wp2;go_ret;exact ⟨by simp [*];try omega,rfl⟩
theorem DS (A0 A4:Option Addr) (c0 c4 n0 n4:Nat) (p1 p2 slots d a b c n:Int) (t:ByteArray) (w:World) (hn0:n0 ≤ 9223372036854775807) (qG:n4 ≤ 9223372036854775807) :
  Calls Try.prog 104 #[.agg #[.slice A0 n0 c0,.int .i64 p1,.int .i64 p2,.int .i64 slots,.slice A4 n4 c4],.agg #[.int .i64 0,.int .i64 d,.int .i64 a,.int .i64 b,.int .i64 c,.int .i64 n,.string t]] w fun e w'=>e = .returned (.bool (Fl slots d && (a == 0 && (b == 0 && (c == 0 && t.toList.isEmpty)))))∧Below w.heap.size w w':=by
 obtain ⟨W1,Eg⟩:∃ W1,W1=(w.alloc (.cells #[.slice A0 n0 c0,.int .i64 p1,.int .i64 p2,.int .i64 slots,.slice A4 n4 c4] 30 (0,0))).alloc (.cells #[.int .i64 0,.int .i64 d,.int .i64 a,.int .i64 b,.int .i64 c,.int .i64 n,.string t] 65 (0,0)):=⟨_,rfl⟩;have HW:=aa.mk Eg;have HB:=aa.mk (show Below w.heap.size w W1 from by rw [Eg];exact ia (ia (Below.refl _ _) _) _);have hz:W1.heap.size=w.heap.size + 2:=by rw [Eg];simp
 have YF:W1.cell? ⟨w.heap.size,3,none⟩=some (.int .i64 slots):=by rw [Eg];simp
 have hx0:W1.cell? ⟨w.heap.size + 1,0,none⟩=some (.int .i64 0):=by rw [Eg];simp
 have hx1:W1.cell? ⟨w.heap.size + 1,1,none⟩=some (.int .i64 d):=by rw [Eg];simp
 have XF:W1.cell? ⟨w.heap.size + 1,2,none⟩=some (.int .i64 a):=by rw [Eg];simp
 have WA:W1.cell? ⟨w.heap.size + 1,3,none⟩=some (.int .i64 b):=by rw [Eg];simp
 have Nu:W1.cell? ⟨w.heap.size + 1,4,none⟩=some (.int .i64 c):=by rw [Eg];simp
 have rT:W1.cell? ⟨w.heap.size + 1,5,none⟩=some (.int .i64 n):=by rw [Eg];simp
 have qT:W1.cell? ⟨w.heap.size + 1,6,none⟩=some (.string t):=by rw [Eg];simp
 clear Eg;go_enter Try.func104,Try.ntmps104;go_wp2_with (first|(go_at_call 55;(with_reducible refine (ym _ _ _ _).mono ?_);rintro e w1 ⟨rfl,⟨k1,rfl⟩⟩));rw [← HW.out];clear HW
 go_region
 all_goals go_wp2_with (first|(go_at_call 121;(refine (Zk _ slots _ _ ?hc).mono ?_);(case hc=>exact haK);rintro e w1 ⟨rfl,rfl⟩))
 all_goals go_ret
 all_goals exact ⟨by (try clear Y4 T1 zU Ty);simp [*],FaK⟩
theorem CS (A0 A4:Option Addr) (c0 c4 n0 n4:Nat) (p1 p2 slots d a b c n:Int) (t:ByteArray) (w:World) (hn0:n0 ≤ 9223372036854775807) (qG:n4 ≤ 9223372036854775807) :
  Calls Try.prog 104 #[.agg #[.slice A0 n0 c0,.int .i64 p1,.int .i64 p2,.int .i64 slots,.slice A4 n4 c4],.agg #[.int .i64 1,.int .i64 d,.int .i64 a,.int .i64 b,.int .i64 c,.int .i64 n,.string t]] w fun e w'=>e = .returned (.bool (Fl slots d && Fl slots a && (b == 0 && (c == 0 && (n == 0 && t.toList.isEmpty)))))∧Below w.heap.size w w':=by
 obtain ⟨W1,Eg⟩:∃ W1,W1=(w.alloc (.cells #[.slice A0 n0 c0,.int .i64 p1,.int .i64 p2,.int .i64 slots,.slice A4 n4 c4] 30 (0,0))).alloc (.cells #[.int .i64 1,.int .i64 d,.int .i64 a,.int .i64 b,.int .i64 c,.int .i64 n,.string t] 65 (0,0)):=⟨_,rfl⟩;have HW:=aa.mk Eg;have HB:=aa.mk (show Below w.heap.size w W1 from by rw [Eg];exact ia (ia (Below.refl _ _) _) _);have hz:W1.heap.size=w.heap.size + 2:=by rw [Eg];simp
 have YF:W1.cell? ⟨w.heap.size,3,none⟩=some (.int .i64 slots):=by rw [Eg];simp
 have hx0:W1.cell? ⟨w.heap.size + 1,0,none⟩=some (.int .i64 1):=by rw [Eg];simp
 have hx1:W1.cell? ⟨w.heap.size + 1,1,none⟩=some (.int .i64 d):=by rw [Eg];simp
 have XF:W1.cell? ⟨w.heap.size + 1,2,none⟩=some (.int .i64 a):=by rw [Eg];simp
 have WA:W1.cell? ⟨w.heap.size + 1,3,none⟩=some (.int .i64 b):=by rw [Eg];simp
 have Nu:W1.cell? ⟨w.heap.size + 1,4,none⟩=some (.int .i64 c):=by rw [Eg];simp
 have rT:W1.cell? ⟨w.heap.size + 1,5,none⟩=some (.int .i64 n):=by rw [Eg];simp
 have qT:W1.cell? ⟨w.heap.size + 1,6,none⟩=some (.string t):=by rw [Eg];simp
 clear Eg;go_enter Try.func104,Try.ntmps104;go_wp2_with (first|(go_at_call 55;(with_reducible refine (ym _ _ _ _).mono ?_);rintro e w1 ⟨rfl,⟨k1,rfl⟩⟩));rw [← HW.out];clear HW
 go_region
 all_goals go_wp2_with (first|(go_at_call 121;(refine (Zk _ slots _ _ ?hc).mono ?_);(case hc=>exact haK);rintro e w1 ⟨rfl,rfl⟩))
 all_goals go_ret
 all_goals exact ⟨by (try clear Y4 T1 zU Ty);simp [*],FaK⟩
theorem BS (A0 A4:Option Addr) (c0 c4 n0 n4:Nat) (p1 p2 slots d a b c n:Int) (t:ByteArray) (w:World) (hn0:n0 ≤ 9223372036854775807) (qG:n4 ≤ 9223372036854775807) :
  Calls Try.prog 104 #[.agg #[.slice A0 n0 c0,.int .i64 p1,.int .i64 p2,.int .i64 slots,.slice A4 n4 c4],.agg #[.int .i64 2,.int .i64 d,.int .i64 a,.int .i64 b,.int .i64 c,.int .i64 n,.string t]] w fun e w'=>e = .returned (.bool (Fl slots d && Fl slots a && Fl slots b && az t && (c == 0 && n == 0)))∧Below w.heap.size w w':=by
 obtain ⟨W1,Eg⟩:∃ W1,W1=(w.alloc (.cells #[.slice A0 n0 c0,.int .i64 p1,.int .i64 p2,.int .i64 slots,.slice A4 n4 c4] 30 (0,0))).alloc (.cells #[.int .i64 2,.int .i64 d,.int .i64 a,.int .i64 b,.int .i64 c,.int .i64 n,.string t] 65 (0,0)):=⟨_,rfl⟩;have HW:=aa.mk Eg;have HB:=aa.mk (show Below w.heap.size w W1 from by rw [Eg];exact ia (ia (Below.refl _ _) _) _);have hz:W1.heap.size=w.heap.size + 2:=by rw [Eg];simp
 have YF:W1.cell? ⟨w.heap.size,3,none⟩=some (.int .i64 slots):=by rw [Eg];simp
 have hx0:W1.cell? ⟨w.heap.size + 1,0,none⟩=some (.int .i64 2):=by rw [Eg];simp
 have hx1:W1.cell? ⟨w.heap.size + 1,1,none⟩=some (.int .i64 d):=by rw [Eg];simp
 have XF:W1.cell? ⟨w.heap.size + 1,2,none⟩=some (.int .i64 a):=by rw [Eg];simp
 have WA:W1.cell? ⟨w.heap.size + 1,3,none⟩=some (.int .i64 b):=by rw [Eg];simp
 have Nu:W1.cell? ⟨w.heap.size + 1,4,none⟩=some (.int .i64 c):=by rw [Eg];simp
 have rT:W1.cell? ⟨w.heap.size + 1,5,none⟩=some (.int .i64 n):=by rw [Eg];simp
 have qT:W1.cell? ⟨w.heap.size + 1,6,none⟩=some (.string t):=by rw [Eg];simp
 clear Eg;go_enter Try.func104,Try.ntmps104;go_wp2_with (first|(go_at_call 55;(with_reducible refine (ym _ _ _ _).mono ?_);rintro e w1 ⟨rfl,⟨k1,rfl⟩⟩));rw [← HW.out];clear HW
 go_region
 all_goals go_wp2_with (first|(go_at_call 121;(refine (Zk _ slots _ _ ?hc).mono ?_);(case hc=>exact haK);rintro e w1 ⟨rfl,rfl⟩)|(go_at_call 122;(with_reducible refine (wN _ _).mono ?_);rintro e w2 ⟨rfl,ek⟩;have Ty:=aa.mk ek;obtain ⟨Y4,T1⟩:=K9 ek;have zU:=ek.size;simp at zU;clear ek))
 all_goals go_ret
 all_goals exact ⟨by (try clear Y4 T1 zU Ty);simp [*],FaK⟩
theorem zS (A0 A4:Option Addr) (c0 c4 n0 n4:Nat) (p1 p2 slots d a b c n:Int) (t:ByteArray) (w:World) (hn0:n0 ≤ 9223372036854775807) (qG:n4 ≤ 9223372036854775807) :
  Calls Try.prog 104 #[.agg #[.slice A0 n0 c0,.int .i64 p1,.int .i64 p2,.int .i64 slots,.slice A4 n4 c4],.agg #[.int .i64 3,.int .i64 d,.int .i64 a,.int .i64 b,.int .i64 c,.int .i64 n,.string t]] w fun e w'=>e = .returned (.bool (Fl slots d && Fl slots b && zm n 0 ((n0:Int) - 1) && (Fl slots a || a == -1) && (c == 0 && t.toList.isEmpty)))∧Below w.heap.size w w':=by
 obtain ⟨W1,Eg⟩:∃ W1,W1=(w.alloc (.cells #[.slice A0 n0 c0,.int .i64 p1,.int .i64 p2,.int .i64 slots,.slice A4 n4 c4] 30 (0,0))).alloc (.cells #[.int .i64 3,.int .i64 d,.int .i64 a,.int .i64 b,.int .i64 c,.int .i64 n,.string t] 65 (0,0)):=⟨_,rfl⟩;have HW:=aa.mk Eg;have HB:=aa.mk (show Below w.heap.size w W1 from by rw [Eg];exact ia (ia (Below.refl _ _) _) _);have hz:W1.heap.size=w.heap.size + 2:=by rw [Eg];simp
 have YF:W1.cell? ⟨w.heap.size,3,none⟩=some (.int .i64 slots):=by rw [Eg];simp
 have hx0:W1.cell? ⟨w.heap.size + 1,0,none⟩=some (.int .i64 3):=by rw [Eg];simp
 have hx1:W1.cell? ⟨w.heap.size + 1,1,none⟩=some (.int .i64 d):=by rw [Eg];simp
 have XF:W1.cell? ⟨w.heap.size + 1,2,none⟩=some (.int .i64 a):=by rw [Eg];simp
 have WA:W1.cell? ⟨w.heap.size + 1,3,none⟩=some (.int .i64 b):=by rw [Eg];simp
 have Nu:W1.cell? ⟨w.heap.size + 1,4,none⟩=some (.int .i64 c):=by rw [Eg];simp
 have rT:W1.cell? ⟨w.heap.size + 1,5,none⟩=some (.int .i64 n):=by rw [Eg];simp
 have qT:W1.cell? ⟨w.heap.size + 1,6,none⟩=some (.string t):=by rw [Eg];simp
 clear Eg;go_enter Try.func104,Try.ntmps104;go_wp2_with (first|(go_at_call 55;(with_reducible refine (ym _ _ _ _).mono ?_);rintro e w1 ⟨rfl,⟨k1,rfl⟩⟩));rw [← HW.out];clear HW
 go_region
 all_goals go_wp2_with (first|(go_at_call 121;(refine (Zk _ slots _ _ ?hc).mono ?_);(case hc=>exact haK);rintro e w1 ⟨rfl,rfl⟩))
 all_goals go_ret
 all_goals exact ⟨by (try clear Y4 T1 zU Ty);simp [*],FaK⟩
theorem yS (A0 A4:Option Addr) (c0 c4 n0 n4:Nat) (p1 p2 slots d a b c n:Int) (t:ByteArray) (w:World) (hn0:n0 ≤ 9223372036854775807) (qG:n4 ≤ 9223372036854775807) :
  Calls Try.prog 104 #[.agg #[.slice A0 n0 c0,.int .i64 p1,.int .i64 p2,.int .i64 slots,.slice A4 n4 c4],.agg #[.int .i64 4,.int .i64 d,.int .i64 a,.int .i64 b,.int .i64 c,.int .i64 n,.string t]] w fun e w'=>e = .returned (.bool (Fl slots c && Fl slots b && zm n 0 ((n0:Int) - 1) && (Fl slots a || a == -1) && (d == 0 && t.toList.isEmpty)))∧Below w.heap.size w w':=by
 obtain ⟨W1,Eg⟩:∃ W1,W1=(w.alloc (.cells #[.slice A0 n0 c0,.int .i64 p1,.int .i64 p2,.int .i64 slots,.slice A4 n4 c4] 30 (0,0))).alloc (.cells #[.int .i64 4,.int .i64 d,.int .i64 a,.int .i64 b,.int .i64 c,.int .i64 n,.string t] 65 (0,0)):=⟨_,rfl⟩;have HW:=aa.mk Eg;have HB:=aa.mk (show Below w.heap.size w W1 from by rw [Eg];exact ia (ia (Below.refl _ _) _) _);have hz:W1.heap.size=w.heap.size + 2:=by rw [Eg];simp
 have YF:W1.cell? ⟨w.heap.size,3,none⟩=some (.int .i64 slots):=by rw [Eg];simp
 have hx0:W1.cell? ⟨w.heap.size + 1,0,none⟩=some (.int .i64 4):=by rw [Eg];simp
 have hx1:W1.cell? ⟨w.heap.size + 1,1,none⟩=some (.int .i64 d):=by rw [Eg];simp
 have XF:W1.cell? ⟨w.heap.size + 1,2,none⟩=some (.int .i64 a):=by rw [Eg];simp
 have WA:W1.cell? ⟨w.heap.size + 1,3,none⟩=some (.int .i64 b):=by rw [Eg];simp
 have Nu:W1.cell? ⟨w.heap.size + 1,4,none⟩=some (.int .i64 c):=by rw [Eg];simp
 have rT:W1.cell? ⟨w.heap.size + 1,5,none⟩=some (.int .i64 n):=by rw [Eg];simp
 have qT:W1.cell? ⟨w.heap.size + 1,6,none⟩=some (.string t):=by rw [Eg];simp
 clear Eg;go_enter Try.func104,Try.ntmps104;go_wp2_with (first|(go_at_call 55;(with_reducible refine (ym _ _ _ _).mono ?_);rintro e w1 ⟨rfl,⟨k1,rfl⟩⟩));rw [← HW.out];clear HW
 go_region
 all_goals go_wp2_with (first|(go_at_call 121;(refine (Zk _ slots _ _ ?hc).mono ?_);(case hc=>exact haK);rintro e w1 ⟨rfl,rfl⟩))
 all_goals go_ret
 all_goals exact ⟨by (try clear Y4 T1 zU Ty);simp [*],FaK⟩
theorem xS (A0 A4:Option Addr) (c0 c4 n0 n4:Nat) (p1 p2 slots d a b c n:Int) (t:ByteArray) (w:World) (hn0:n0 ≤ 9223372036854775807) (qG:n4 ≤ 9223372036854775807) :
  Calls Try.prog 104 #[.agg #[.slice A0 n0 c0,.int .i64 p1,.int .i64 p2,.int .i64 slots,.slice A4 n4 c4],.agg #[.int .i64 5,.int .i64 d,.int .i64 a,.int .i64 b,.int .i64 c,.int .i64 n,.string t]] w fun e w'=>e = .returned (.bool (Fl slots d && (a == 0 && (b == 0 && (c == 0 && (n == 0 && t.toList.isEmpty))))))∧Below w.heap.size w w':=by
 obtain ⟨W1,Eg⟩:∃ W1,W1=(w.alloc (.cells #[.slice A0 n0 c0,.int .i64 p1,.int .i64 p2,.int .i64 slots,.slice A4 n4 c4] 30 (0,0))).alloc (.cells #[.int .i64 5,.int .i64 d,.int .i64 a,.int .i64 b,.int .i64 c,.int .i64 n,.string t] 65 (0,0)):=⟨_,rfl⟩;have HW:=aa.mk Eg;have HB:=aa.mk (show Below w.heap.size w W1 from by rw [Eg];exact ia (ia (Below.refl _ _) _) _);have hz:W1.heap.size=w.heap.size + 2:=by rw [Eg];simp
 have YF:W1.cell? ⟨w.heap.size,3,none⟩=some (.int .i64 slots):=by rw [Eg];simp
 have hx0:W1.cell? ⟨w.heap.size + 1,0,none⟩=some (.int .i64 5):=by rw [Eg];simp
 have hx1:W1.cell? ⟨w.heap.size + 1,1,none⟩=some (.int .i64 d):=by rw [Eg];simp
 have XF:W1.cell? ⟨w.heap.size + 1,2,none⟩=some (.int .i64 a):=by rw [Eg];simp
 have WA:W1.cell? ⟨w.heap.size + 1,3,none⟩=some (.int .i64 b):=by rw [Eg];simp
 have Nu:W1.cell? ⟨w.heap.size + 1,4,none⟩=some (.int .i64 c):=by rw [Eg];simp
 have rT:W1.cell? ⟨w.heap.size + 1,5,none⟩=some (.int .i64 n):=by rw [Eg];simp
 have qT:W1.cell? ⟨w.heap.size + 1,6,none⟩=some (.string t):=by rw [Eg];simp
 clear Eg;go_enter Try.func104,Try.ntmps104;go_wp2_with (first|(go_at_call 55;(with_reducible refine (ym _ _ _ _).mono ?_);rintro e w1 ⟨rfl,⟨k1,rfl⟩⟩));rw [← HW.out];clear HW
 go_region
 all_goals go_wp2_with (first|(go_at_call 121;(refine (Zk _ slots _ _ ?hc).mono ?_);(case hc=>exact haK);rintro e w1 ⟨rfl,rfl⟩))
 all_goals go_ret
 all_goals exact ⟨by (try clear Y4 T1 zU Ty);simp [*],FaK⟩
theorem uS (A0 A4:Option Addr) (c0 c4 n0 n4:Nat) (p1 p2 slots d a b c n:Int) (t:ByteArray) (w:World) (hn0:n0 ≤ 9223372036854775807) (qG:n4 ≤ 9223372036854775807) :
  Calls Try.prog 104 #[.agg #[.slice A0 n0 c0,.int .i64 p1,.int .i64 p2,.int .i64 slots,.slice A4 n4 c4],.agg #[.int .i64 6,.int .i64 d,.int .i64 a,.int .i64 b,.int .i64 c,.int .i64 n,.string t]] w fun e w'=>e = .returned (.bool (Fl slots a && (d == 0 && (b == 0 && (c == 0 && (n == 0 && t.toList.isEmpty))))))∧Below w.heap.size w w':=by
 obtain ⟨W1,Eg⟩:∃ W1,W1=(w.alloc (.cells #[.slice A0 n0 c0,.int .i64 p1,.int .i64 p2,.int .i64 slots,.slice A4 n4 c4] 30 (0,0))).alloc (.cells #[.int .i64 6,.int .i64 d,.int .i64 a,.int .i64 b,.int .i64 c,.int .i64 n,.string t] 65 (0,0)):=⟨_,rfl⟩;have HW:=aa.mk Eg;have HB:=aa.mk (show Below w.heap.size w W1 from by rw [Eg];exact ia (ia (Below.refl _ _) _) _);have hz:W1.heap.size=w.heap.size + 2:=by rw [Eg];simp
 have YF:W1.cell? ⟨w.heap.size,3,none⟩=some (.int .i64 slots):=by rw [Eg];simp
 have hx0:W1.cell? ⟨w.heap.size + 1,0,none⟩=some (.int .i64 6):=by rw [Eg];simp
 have hx1:W1.cell? ⟨w.heap.size + 1,1,none⟩=some (.int .i64 d):=by rw [Eg];simp
 have XF:W1.cell? ⟨w.heap.size + 1,2,none⟩=some (.int .i64 a):=by rw [Eg];simp
 have WA:W1.cell? ⟨w.heap.size + 1,3,none⟩=some (.int .i64 b):=by rw [Eg];simp
 have Nu:W1.cell? ⟨w.heap.size + 1,4,none⟩=some (.int .i64 c):=by rw [Eg];simp
 have rT:W1.cell? ⟨w.heap.size + 1,5,none⟩=some (.int .i64 n):=by rw [Eg];simp
 have qT:W1.cell? ⟨w.heap.size + 1,6,none⟩=some (.string t):=by rw [Eg];simp
 clear Eg;go_enter Try.func104,Try.ntmps104;go_wp2_with (first|(go_at_call 55;(with_reducible refine (ym _ _ _ _).mono ?_);rintro e w1 ⟨rfl,⟨k1,rfl⟩⟩));rw [← HW.out];clear HW
 go_region
 all_goals go_wp2_with (first|(go_at_call 121;(refine (Zk _ slots _ _ ?hc).mono ?_);(case hc=>exact haK);rintro e w1 ⟨rfl,rfl⟩))
 all_goals go_ret
 all_goals exact ⟨by (try clear Y4 T1 zU Ty);simp [*],FaK⟩
theorem xN (A0 A4:Option Addr) (c0 c4 n0 n4:Nat) (p1 p2 slots d a b c n:Int) (t:ByteArray) (w:World) (hn0:n0 ≤ 9223372036854775807) (qG:n4 ≤ 9223372036854775807) (o:Int) (h0:(o == 0)=false) (h1:(o == 1)=false) (h2:(o == 2)=false) (h3:(o == 3)=false) (h4:(o == 4)=false) (h5:(o == 5)=false) (h6:(o == 6)=false) :
  Calls Try.prog 104 #[.agg #[.slice A0 n0 c0,.int .i64 p1,.int .i64 p2,.int .i64 slots,.slice A4 n4 c4],.agg #[.int .i64 o,.int .i64 d,.int .i64 a,.int .i64 b,.int .i64 c,.int .i64 n,.string t]] w fun e w'=>e = .returned (.bool (false))∧Below w.heap.size w w':=by
 obtain ⟨W1,Eg⟩:∃ W1,W1=(w.alloc (.cells #[.slice A0 n0 c0,.int .i64 p1,.int .i64 p2,.int .i64 slots,.slice A4 n4 c4] 30 (0,0))).alloc (.cells #[.int .i64 o,.int .i64 d,.int .i64 a,.int .i64 b,.int .i64 c,.int .i64 n,.string t] 65 (0,0)):=⟨_,rfl⟩;have HW:=aa.mk Eg;have HB:=aa.mk (show Below w.heap.size w W1 from by rw [Eg];exact ia (ia (Below.refl _ _) _) _);have hz:W1.heap.size=w.heap.size + 2:=by rw [Eg];simp
 have YF:W1.cell? ⟨w.heap.size,3,none⟩=some (.int .i64 slots):=by rw [Eg];simp
 have hx0:W1.cell? ⟨w.heap.size + 1,0,none⟩=some (.int .i64 o):=by rw [Eg];simp
 have hx1:W1.cell? ⟨w.heap.size + 1,1,none⟩=some (.int .i64 d):=by rw [Eg];simp
 have XF:W1.cell? ⟨w.heap.size + 1,2,none⟩=some (.int .i64 a):=by rw [Eg];simp
 have WA:W1.cell? ⟨w.heap.size + 1,3,none⟩=some (.int .i64 b):=by rw [Eg];simp
 have Nu:W1.cell? ⟨w.heap.size + 1,4,none⟩=some (.int .i64 c):=by rw [Eg];simp
 have rT:W1.cell? ⟨w.heap.size + 1,5,none⟩=some (.int .i64 n):=by rw [Eg];simp
 have qT:W1.cell? ⟨w.heap.size + 1,6,none⟩=some (.string t):=by rw [Eg];simp
 clear Eg;go_enter Try.func104,Try.ntmps104;go_wp2_with (first|(go_at_call 55;(with_reducible refine (ym _ _ _ _).mono ?_);rintro e w1 ⟨rfl,⟨k1,rfl⟩⟩));rw [← HW.out];clear HW
 go_region
 all_goals go_wp2_with (first|(go_at_call 121;(refine (Zk _ slots _ _ ?hc).mono ?_);(case hc=>exact haK);rintro e w1 ⟨rfl,rfl⟩))
 all_goals go_ret
 all_goals exact ⟨by (try clear Y4 T1 zU Ty);simp [*],FaK⟩
def om (n0:Nat) (slots:Int) (o d a b c n:Int) (t:ByteArray):Bool :=
 if o=0 then Fl slots d && (a == 0 && (b == 0 && (c == 0 && t.toList.isEmpty)))
 else if o=1 then Fl slots d && Fl slots a && (b == 0 && (c == 0 && (n == 0 && t.toList.isEmpty)))
 else if o=2 then Fl slots d && Fl slots a && Fl slots b && az t && (c == 0 && n == 0)
 else if o=3 then Fl slots d && Fl slots b && zm n 0 ((n0:Int) - 1) && (Fl slots a || a == -1) && (c == 0 && t.toList.isEmpty)
 else if o=4 then Fl slots c && Fl slots b && zm n 0 ((n0:Int) - 1) && (Fl slots a || a == -1) && (d == 0 && t.toList.isEmpty)
 else if o=5 then Fl slots d && (a == 0 && (b == 0 && (c == 0 && (n == 0 && t.toList.isEmpty))))
 else if o=6 then Fl slots a && (d == 0 && (b == 0 && (c == 0 && (n == 0 && t.toList.isEmpty))))
 else false
theorem xL (A0 A4:Option Addr) (c0 c4 n0 n4:Nat) (p1 p2 slots:Int) (w:World) (hn0:n0 ≤ 9223372036854775807) (qG:n4 ≤ 9223372036854775807) (o d a b c n:Int) (t:ByteArray) :
  Calls Try.prog 104 #[.agg #[.slice A0 n0 c0,.int .i64 p1,.int .i64 p2,.int .i64 slots,.slice A4 n4 c4],.agg #[.int .i64 o,.int .i64 d,.int .i64 a,.int .i64 b,.int .i64 c,.int .i64 n,.string t]] w fun e w'=>e = .returned (.bool (om n0 slots o d a b c n t))∧Below w.heap.size w w':=by
 unfold om
 by_cases h0:o=0
 ·rw [if_pos h0,h0];exact DS A0 A4 c0 c4 n0 n4 p1 p2 slots d a b c n t w hn0 qG
 rw [if_neg h0]
 by_cases h1:o=1
 ·rw [if_pos h1,h1];exact CS A0 A4 c0 c4 n0 n4 p1 p2 slots d a b c n t w hn0 qG
 rw [if_neg h1]
 by_cases h2:o=2
 ·rw [if_pos h2,h2];exact BS A0 A4 c0 c4 n0 n4 p1 p2 slots d a b c n t w hn0 qG
 rw [if_neg h2]
 by_cases h3:o=3
 ·rw [if_pos h3,h3];exact zS A0 A4 c0 c4 n0 n4 p1 p2 slots d a b c n t w hn0 qG
 rw [if_neg h3]
 by_cases h4:o=4
 ·rw [if_pos h4,h4];exact yS A0 A4 c0 c4 n0 n4 p1 p2 slots d a b c n t w hn0 qG
 rw [if_neg h4]
 by_cases h5:o=5
 ·rw [if_pos h5,h5];exact xS A0 A4 c0 c4 n0 n4 p1 p2 slots d a b c n t w hn0 qG
 rw [if_neg h5]
 by_cases h6:o=6
 ·rw [if_pos h6,h6];exact uS A0 A4 c0 c4 n0 n4 p1 p2 slots d a b c n t w hn0 qG
 rw [if_neg h6];exact xN A0 A4 c0 c4 n0 n4 p1 p2 slots d a b c n t w hn0 qG o (beq_eq_false_iff_ne.mpr h0) (beq_eq_false_iff_ne.mpr h1) (beq_eq_false_iff_ne.mpr h2) (beq_eq_false_iff_ne.mpr h3) (beq_eq_false_iff_ne.mpr h4) (beq_eq_false_iff_ne.mpr h5) (beq_eq_false_iff_ne.mpr h6)
def mm (n0:Nat) (slots:Int) (x:tf):Bool:=om n0 slots x.f0 x.f1 x.f2 x.f3 x.f4 x.f5 x.f6
def sj (n0:Nat) (slots:Int) (n4:Nat) (code:List tf) (j a tg els:Int):Bool :=
 !(code.any fun x=>!mm n0 slots x) && decide (0 ≤ slots) &&
  (if j=0 then zm tg 0 ((n4:Int) - 1) && a == 0 && els == 0
   else if j=1 then zm tg 0 ((n4:Int) - 1) && zm els 0 ((n4:Int) - 1) && Fl slots a
   else if j=2 then Fl slots a && tg == 0 && els == 0
   else false)
theorem ES (B:Nat) (A0 A4:Option Addr) (c0 c4 n0 n4:Nat) (p1 p2 slots:Int) (hn0:n0 ≤ 9223372036854775807) (qG:n4 ≤ 9223372036854775807) (W:World) (x:tf)
  (hb0:W.cell? ⟨B,0,none⟩=some (.slice A0 n0 c0)) (wB:W.cell? ⟨B,1,none⟩=some (.int .i64 p1)) (ek:W.cell? ⟨B,2,none⟩=some (.int .i64 p2)) (b5:W.cell? ⟨B,3,none⟩=some (.int .i64 slots)) (hb4:W.cell? ⟨B,4,none⟩=some (.slice A4 n4 c4)) (hB:B < W.heap.size) :
  Calls Try.prog 103 #[.agg #[.int .i64 x.f0,.int .i64 x.f1,.int .i64 x.f2,.int .i64 x.f3,.int .i64 x.f4,.int .i64 x.f5,.string x.f6],.pointer (some ⟨B,0,none⟩)] W
   fun e w'=>e = .returned (.bool (!mm n0 slots x))∧Below W.heap.size W w':=by
 have hne:B ≠ W.heap.size:=by omega
 unfold mm;have HC:=aa.mk (fun W'=>xL A0 A4 c0 c4 n0 n4 p1 p2 slots W' hn0 qG x.f0 x.f1 x.f2 x.f3 x.f4 x.f5 x.f6);generalize om n0 slots x.f0 x.f1 x.f2 x.f3 x.f4 x.f5 x.f6=b at HC ⊢;go_enter Try.func103,Try.ntmps103;go_wp2_with (go_at_call 104;(with_reducible refine (HC.out _).mono ?_);rintro e w1 ⟨rfl,hb⟩;have HD:=aa.mk (Ma (ia (Below.refl _ _) _) hb);clear hb);go_ret;exact ⟨rfl,HD.out⟩
theorem yL (A0 A4 A5:Option Addr) (c0 c4 c5 n0 n4:Nat) (p1 p2 slots:Int) (l5:List tf) (j a tg els:Int) (w:World) (hn0:n0 ≤ 9223372036854775807) (qG:n4 ≤ 9223372036854775807) (hr5:Kd.C Xk w A5 l5.length l5) (hc5:l5.length ≤ c5) :
  Calls Try.prog 77 #[.agg #[.slice A0 n0 c0,.int .i64 p1,.int .i64 p2,.int .i64 slots,.slice A4 n4 c4],.agg #[.slice A5 l5.length c5,.int .i64 j,.int .i64 a,.int .i64 tg,.int .i64 els]] w fun e w'=>e = .returned (.bool (sj n0 slots n4 l5 j a tg els))∧Below w.heap.size w w':=by
 have eg:=enters_of Try.func103 (by kernel_rfl) rfl;have hm5:=hr5.2.1;obtain ⟨W1,Eg⟩:∃ W1,W1=(w.alloc (.cells #[.slice A0 n0 c0,.int .i64 p1,.int .i64 p2,.int .i64 slots,.slice A4 n4 c4] 30 (0,0))).alloc (.cells #[.slice A5 l5.length c5,.int .i64 j,.int .i64 a,.int .i64 tg,.int .i64 els] 59 (0,0)):=⟨_,rfl⟩;have HW:=aa.mk Eg;have hB1:Below w.heap.size w W1:=by rw [Eg];exact ia (ia (Below.refl _ _) _) _
 have hz:W1.heap.size=w.heap.size + 2:=by rw [Eg];simp
 have aV:W1.cell? ⟨w.heap.size,0,none⟩=some (.slice A0 n0 c0):=by rw [Eg];simp
 have KC:W1.cell? ⟨w.heap.size,1,none⟩=some (.int .i64 p1):=by rw [Eg];simp
 have vP:W1.cell? ⟨w.heap.size,2,none⟩=some (.int .i64 p2):=by rw [Eg];simp
 have wI:W1.cell? ⟨w.heap.size,3,none⟩=some (.int .i64 slots):=by rw [Eg];simp
 have SK:W1.cell? ⟨w.heap.size,4,none⟩=some (.slice A4 n4 c4):=by rw [Eg];simp
 have hx0:W1.cell? ⟨w.heap.size + 1,0,none⟩=some (.slice A5 l5.length c5):=by rw [Eg];simp
 have hx1:W1.cell? ⟨w.heap.size + 1,1,none⟩=some (.int .i64 j):=by rw [Eg];simp
 have XF:W1.cell? ⟨w.heap.size + 1,2,none⟩=some (.int .i64 a):=by rw [Eg];simp
 have WA:W1.cell? ⟨w.heap.size + 1,3,none⟩=some (.int .i64 tg):=by rw [Eg];simp
 have Nu:W1.cell? ⟨w.heap.size + 1,4,none⟩=some (.int .i64 els):=by rw [Eg];simp
 have Hu:=Kd.Kb hr5 hB1;clear Eg hr5
 have HF:=aa.mk (Oy 103 #[.pointer (some ⟨w.heap.size,0,none⟩)] (fun x=>!mm n0 slots x) eg A5 c5 l5 W1 Hu hc5
  (fun W2 x hb'=>ES w.heap.size A0 A4 c0 c4 n0 n4 p1 p2 slots hn0 qG W2 x ((hb'.cell (p:=⟨w.heap.size,0,none⟩) (by simp;omega)).trans aV) ((hb'.cell (p:=⟨w.heap.size,1,none⟩) (by simp;omega)).trans KC) ((hb'.cell (p:=⟨w.heap.size,2,none⟩) (by simp;omega)).trans vP) ((hb'.cell (p:=⟨w.heap.size,3,none⟩) (by simp;omega)).trans wI) ((hb'.cell (p:=⟨w.heap.size,4,none⟩) (by simp;omega)).trans SK) (Nat.lt_of_lt_of_le (by omega) hb'.size)))
 have HB:=aa.mk hB1;clear Hu hB1 eg;unfold sj;cases hq:l5.any (fun x=>!mm n0 slots x) with
 | true =>
  rw [hq] at HF;go_enter Try.func77,Try.ntmps77
  go_upto_region 1 with (fail)
  rw [← HW.out];clear HW;go_wp2_with (first|(go_at_call 102;(with_reducible refine HF.out.mono ?_);rintro e w2 ⟨rfl,ek⟩;have Ty:=aa.mk ek;clear ek))
  all_goals
   go_ret;exact ⟨by simp,Ma HB.out Ty.out⟩
 | false =>
  rw [hq] at HF;cases ha0:decide (0 ≤ a)
  all_goals
   go_enter Try.func77,Try.ntmps77
   go_upto_region 1 with (fail)
   rw [← HW.out];clear HW
   go_upto_region 3 with (first|(go_at_call 102;(with_reducible refine HF.out.mono ?_);rintro e w2 ⟨rfl,ek⟩;replace wI:=(ek.cell (World.block_lt_of_cell? W1 _ wI)).trans wI;replace SK:=(ek.cell (World.block_lt_of_cell? W1 _ SK)).trans SK;replace hx1:=(ek.cell (World.block_lt_of_cell? W1 _ hx1)).trans hx1;replace XF:=(ek.cell (World.block_lt_of_cell? W1 _ XF)).trans XF;replace WA:=(ek.cell (World.block_lt_of_cell? W1 _ WA)).trans WA;replace Nu:=(ek.cell (World.block_lt_of_cell? W1 _ Nu)).trans Nu;have Ty:=aa.mk (Ma HB.out ek);clear ek HB aV KC vP hx0))
   go_quiet ((go_at_call 55;exact Calls.quiet_of ((ym _ _ _ _).mono fun _ _ ⟨he,hm⟩=>⟨he,hm.out⟩)))
   go_wp2
   all_goals go_ret
   all_goals exact ⟨by first|(simp [Fl, *];done)|(simp [Fl, *];intros;omega)|(clear HF wI SK hx1 XF WA Nu;simp_all [Fl];done)|(clear HF wI SK hx1 XF WA Nu;simp_all [Fl];omega),by repeat (first|exact Ty.out|apply ga)⟩
def Qj.f (Ua:List Int) (Pa:Int) (Ra:Int) (Sa:Int) (Fa:List (Ff)) (Pc:List (tf)) (Oc:Int) (Bc:Int) (Nc:Int) (Ed:Int):Option Bool:=some (sj Ua.length Sa Fa.length Pc Oc Bc Nc Ed)
theorem Qj.calls (yb:Option Addr) (zb:Nat) (Ua:List Int) (Pa:Int) (Ra:Int) (Sa:Int) (fc:Option Addr) (Qb:Nat) (Fa:List (Ff)) (Wf:Option Addr) (Gf:Nat) (Pc:List (tf)) (Oc:Int) (Bc:Int) (Nc:Int) (Ed:Int) (r:Bool) (w:World) (jf:Kd.C (Kd.int .i64) w yb Ua.length Ua) (Ze:Ua.length ≤ zb) (Lg:Kd.C Wr w fc Fa.length Fa) (Ig:Fa.length ≤ Qb) (Xr:Kd.C Xk w Wf Pc.length Pc) (Zr:Pc.length ≤ Gf) (h:Qj.f Ua Pa Ra Sa Fa Pc Oc Bc Nc Ed=some r) :
  Calls Try.prog 77 #[.agg #[.slice yb Ua.length zb,.int .i64 Pa,.int .i64 Ra,.int .i64 Sa,.slice fc Fa.length Qb],.agg #[.slice Wf Pc.length Gf,.int .i64 Oc,.int .i64 Bc,.int .i64 Nc,.int .i64 Ed]] w fun e w'=>e = .returned (.bool r)∧Below w.heap.size w w':=by
 injection h with h
 subst h;exact yL yb fc Wf zb Qb Gf Ua.length Fa.length Pa Ra Sa Pc Oc Bc Nc Ed w jf.2.1 Lg.2.1 Xr Zr
mutual
def jd.j0:Nat→Bool→List Int→Int→Int→Int→List (Ff)→Option (Bool)
 | 0,_,_,_,_,_,_=>none
 | k + 1,x29,qe,Ie,Wd,me,Qc=>if x29=true then (some false) else (jd.l0 k 0 Qc (Qc.length:Int) 0 qe Ie Wd me Qc)
def jd.l0:Nat→Int→List (Ff)→Int→Int→List Int→Int→Int→Int→List (Ff)→Option (Bool)
 | 0,_,_,_,_,_,_,_,_,_=>none
 | k + 1,x3,V6,x32,lY,qe,Ie,Wd,me,Qc=>if lY < x32 then (if 0 ≤ lY then (if lY < (V6.length:Int) then ((Qj.f qe Ie Wd me Qc ((Ia V6 lY).f0) ((Ia V6 lY).f1) ((Ia V6 lY).f2) ((Ia V6 lY).f3) ((Ia V6 lY).f4)).bind fun t107=>(if t107=true then (jd.l0 k (wrap64 (x3 + (((Ia V6 lY).f0).length:Int))) V6 x32 (wrap64 (lY + 1)) qe Ie Wd me Qc) else (some false))) else (none)) else (none)) else (some (decide (x3 ≤ 1000)))
end
def jd.f (k:Nat) (Ua:List Int) (Pa:Int) (Ra:Int) (Sa:Int) (Fa:List (Ff)):Option (Bool):=(Zg.f Ua Pa Ra ([]:List (EB))).bind fun t102=>(if t102=true then ((Gl.f Sa Ra 1000).bind fun t103=>(if t103=true then ((Gl.f (Fa.length:Int) 1 300).bind fun t104=>(jd.j0 k (!t104) Ua Pa Ra Sa Fa)) else (jd.j0 k true Ua Pa Ra Sa Fa))) else (jd.j0 k true Ua Pa Ra Sa Fa))
theorem jd.calls (k:Nat) (yb:Option Addr) (zb:Nat) (Ua:List Int) (Pa:Int) (Ra:Int) (Sa:Int) (fc:Option Addr) (Qb:Nat) (Fa:List (Ff)) (r:Bool) (w:World) (jf:Kd.C (Kd.int .i64) w yb Ua.length Ua) (Ze:Ua.length ≤ zb) (Lg:Kd.C Wr w fc Fa.length Fa) (Ig:Fa.length ≤ Qb) (h:jd.f k Ua Pa Ra Sa Fa=some r) :
  Calls Try.prog 46 #[.agg #[.slice yb Ua.length zb,.int .i64 Pa,.int .i64 Ra,.int .i64 Sa,.slice fc Fa.length Qb]] w fun e w'=>e = .returned (.bool r)∧Below w.heap.size w w':=by
 have uI:=Try.underlying30;have kaG:=Try.underlying95;have oG:=Try.underlying59;have lf:=aa.mk jf;have Df:=aa.mk Ze;clear jf Ze;have Tg:=aa.mk Lg;have Ej:=aa.mk Ig;clear Lg Ig;have HB:=aa.mk (Below.refl w.heap.size w);have H:((Zg.f Ua Pa Ra ([]:List (EB))).bind fun t102=>(if t102=true then ((Gl.f Sa Ra 1000).bind fun t103=>(if t103=true then ((Gl.f (Fa.length:Int) 1 300).bind fun t104=>(jd.j0 k (!t104) Ua Pa Ra Sa Fa)) else (jd.j0 k true Ua Pa Ra Sa Fa))) else (jd.j0 k true Ua Pa Ra Sa Fa)))=some r:=h;clear h;have yY:=aa.mk H;clear H;go_enter Try.func46,Try.ntmps46
 go_upto_region 1 with (first|((with_reducible refine Za (N:=1) rfl ?_);(try (refine Vj (by rfl) ?_;dsimp only));refine Ab ?hg (N:=1) ?hd (cs:=#[.slice yb Ua.length zb,.int .i64 Pa,.int .i64 Ra,.int .i64 Sa,.slice fc Fa.length Qb]) (t:=30) ?hr ?_;(case hd|hg=>rfl);(case hr=>exact gaK);intro ya hg w3 Fb hb;have Bb:=aa.mk (Ma jaK hb);have Db:=aa.mk (Fb);have Ib:=aa.mk ((by rw [hg];exact (Da jaK):w.heap.size ≤ ya));have Xb:=aa.mk ((by rw [hg];exact (Da jaK):w.heap.size ≤ ya));clear HB;have HB:=Bb;have ta:=Db;have Jd:=Ib;have Qa:=Xb;clear Bb Db Ib Xb hb Fb hg))
 (try simp only [Act.put,List.setIfInBounds_toArray,List.set_cons_zero,List.set_cons_succ])
 go_cut [29] (fun v29 wc=>∃ (kq:Nat) (UO:Bool),v29 = .bool UO∧aa (jd.j0 kq UO Ua Pa Ra Sa Fa=some r)∧aa (kq ≤ k)∧aa (wc.heap[ya]? = some (.cells #[(.slice yb Ua.length zb),.int .i64 Pa,.int .i64 Ra,.int .i64 Sa,(.slice fc Fa.length Qb)] 30 (0,0)))∧aa (Below w.heap.size w wc))
 case first =>
  have H:=yY.out;clear yY;replace H:=Option.bind_eq_some_iff.mp H;obtain ⟨t102,bY,H⟩:=H
  try dsimp only at H
  have A4:=aa.mk bY;clear bY
  by_cases c5:t102=true
  ·subst c5;rw [if_pos rfl] at H;replace H:=Option.bind_eq_some_iff.mp H;obtain ⟨t103,X_,H⟩:=H
   try dsimp only at H
   have A6:=aa.mk X_;clear X_
   by_cases c7:t103=true
   ·subst c7;rw [if_pos rfl] at H;replace H:=Option.bind_eq_some_iff.mp H;obtain ⟨t104,aY,H⟩:=H
    try dsimp only at H
    have A8:=aa.mk aY;clear aY;have H':=aa.mk H;clear H;obtain ⟨Iv,Hv,Gv,Fv,Dv,uv,tv,qv,ov,nv⟩:=ri ta.out;go_wp2_with (first|((with_reducible refine Cb (f:=76) rfl ?_);refine Jc (some 13) rfl rfl Try.func76 (by kernel_rfl) rfl #[.agg #[.slice yb Ua.length zb,.int .i64 Pa,.int .i64 Ra,.slice none 0 0]] rfl laK ?_;(refine (Zg.calls _ _ Ua Pa Ra _ _ ([]:List (EB)) true _ ?Ic ?Gc ?Ae ?ze A4.out).mono ?_);(case Ic=>repeat (first|exact (Kd.Kb lf.out HB.out)|(with_reducible refine Kd.Vb ?_ _)|(with_reducible refine Kd.Ub ?_ _)|(with_reducible refine Kd.tc ?_)));(case Gc=>exact Df.out);(case Ae=>exact Kd.UR _ _);(case ze=>exact Nat.le_refl _);rintro e Bo ⟨rfl,hb⟩;refine ⟨_,rfl,?_⟩;have Bb:=aa.mk (Na (g:=ya) (o:=.cells #[.slice yb Ua.length zb,.int .i64 Pa,.int .i64 Ra,.int .i64 Sa,.slice fc Fa.length Qb] 30 (0,0)) kaK hb);have Db:=aa.mk (Ma iaK hb);clear ta HB;have ta:=Bb;have HB:=Db;clear Bb Db;(try clear hb);(try clear ek);(try clear hk);(try clear hi);have tr:Bo.cell? ⟨ya,0,none⟩=some (.slice yb Ua.length zb):=(ja ta.out 0).trans rfl;have sr:Bo.cell? ⟨ya,1,none⟩=some (.int .i64 Pa):=(ja ta.out 1).trans rfl;have nr:Bo.cell? ⟨ya,2,none⟩=some (.int .i64 Ra):=(ja ta.out 2).trans rfl;have kr:Bo.cell? ⟨ya,3,none⟩=some (.int .i64 Sa):=(ja ta.out 3).trans rfl;have jr:Bo.cell? ⟨ya,4,none⟩=some (.slice fc Fa.length Qb):=(ja ta.out 4).trans rfl;have Kq:=qa ta.out 0;have Jq:=qa ta.out 1;have Iq:=qa ta.out 2;have Hq:=qa ta.out 3;have Gq:=qa ta.out 4)|(go_at_call 55;(with_reducible refine (Gl.calls Sa Ra 1000 true _ A6.out).mono ?_);rintro e w' ⟨rfl,⟨nd,rfl⟩⟩)|(go_at_call 55;(with_reducible refine (Gl.calls (Fa.length:Int) 1 300 t104 _ A8.out).mono ?_);rintro e w' ⟨rfl,⟨nd,rfl⟩⟩))
    go_meet
    case rel=>exact ⟨_,(!t104),saK,H',⟨ZaK⟩,⟨taK⟩,⟨oaK⟩⟩
   ·replace c7:=Bool.eq_false_iff.mpr c7;subst c7;rw [if_neg (show ¬ (false=true) by decide)] at H;have H':=aa.mk H;clear H;obtain ⟨nu,lu,ku,ju,BA,Lt,Kt,Jt,Ht,oA⟩:=ri ta.out;go_wp2_with (first|((with_reducible refine Cb (f:=76) rfl ?_);refine Jc (some 13) rfl rfl Try.func76 (by kernel_rfl) rfl #[.agg #[.slice yb Ua.length zb,.int .i64 Pa,.int .i64 Ra,.slice none 0 0]] rfl laK ?_;(refine (Zg.calls _ _ Ua Pa Ra _ _ ([]:List (EB)) true _ ?Ic ?Gc ?Ae ?ze A4.out).mono ?_);(case Ic=>repeat (first|exact (Kd.Kb lf.out HB.out)|(with_reducible refine Kd.Vb ?_ _)|(with_reducible refine Kd.Ub ?_ _)|(with_reducible refine Kd.tc ?_)));(case Gc=>exact Df.out);(case Ae=>exact Kd.UR _ _);(case ze=>exact Nat.le_refl _);rintro e Ep ⟨rfl,hb⟩;refine ⟨_,rfl,?_⟩;have Bb:=aa.mk (Na (g:=ya) (o:=.cells #[.slice yb Ua.length zb,.int .i64 Pa,.int .i64 Ra,.int .i64 Sa,.slice fc Fa.length Qb] 30 (0,0)) kaK hb);have Db:=aa.mk (Ma iaK hb);clear ta HB;have ta:=Bb;have HB:=Db;clear Bb Db;(try clear hb);(try clear ek);(try clear hk);(try clear hi);have Xn:Ep.cell? ⟨ya,0,none⟩=some (.slice yb Ua.length zb):=(ja ta.out 0).trans rfl;have Wn:Ep.cell? ⟨ya,1,none⟩=some (.int .i64 Pa):=(ja ta.out 1).trans rfl;have Vn:Ep.cell? ⟨ya,2,none⟩=some (.int .i64 Ra):=(ja ta.out 2).trans rfl;have Un:Ep.cell? ⟨ya,3,none⟩=some (.int .i64 Sa):=(ja ta.out 3).trans rfl;have Tn:Ep.cell? ⟨ya,4,none⟩=some (.slice fc Fa.length Qb):=(ja ta.out 4).trans rfl;have Sn:=qa ta.out 0;have Rn:=qa ta.out 1;have Qn:=qa ta.out 2;have Pn:=qa ta.out 3;have Nn:=qa ta.out 4)|(go_at_call 55;(with_reducible refine (Gl.calls Sa Ra 1000 false _ A6.out).mono ?_);rintro e w' ⟨rfl,⟨nd,rfl⟩⟩))
    go_meet
    case rel=>exact ⟨_,(true),saK,H',⟨ZaK⟩,⟨taK⟩,⟨oaK⟩⟩
  ·replace c5:=Bool.eq_false_iff.mpr c5;subst c5;rw [if_neg (show ¬ (false=true) by decide)] at H;have H':=aa.mk H;clear H;obtain ⟨Ix,Hx,Gx,Ex,Dx,Rw,Qw,Pw,Ow,Nw⟩:=ri ta.out;go_wp2_with (first|((with_reducible refine Cb (f:=76) rfl ?_);refine Jc (some 13) rfl rfl Try.func76 (by kernel_rfl) rfl #[.agg #[.slice yb Ua.length zb,.int .i64 Pa,.int .i64 Ra,.slice none 0 0]] rfl laK ?_;(refine (Zg.calls _ _ Ua Pa Ra _ _ ([]:List (EB)) false _ ?Ic ?Gc ?Ae ?ze A4.out).mono ?_);(case Ic=>repeat (first|exact (Kd.Kb lf.out HB.out)|(with_reducible refine Kd.Vb ?_ _)|(with_reducible refine Kd.Ub ?_ _)|(with_reducible refine Kd.tc ?_)));(case Gc=>exact Df.out);(case Ae=>exact Kd.UR _ _);(case ze=>exact Nat.le_refl _);rintro e um ⟨rfl,hb⟩;refine ⟨_,rfl,?_⟩;have Bb:=aa.mk (Na (g:=ya) (o:=.cells #[.slice yb Ua.length zb,.int .i64 Pa,.int .i64 Ra,.int .i64 Sa,.slice fc Fa.length Qb] 30 (0,0)) kaK hb);have Db:=aa.mk (Ma iaK hb);clear ta HB;have ta:=Bb;have HB:=Db;clear Bb Db;(try clear hb);(try clear ek);(try clear hk);(try clear hi)))
   go_meet
   case rel=>exact ⟨_,(true),saK,H',⟨ZaK⟩,⟨taK⟩,⟨oaK⟩⟩
 case rest =>
  clear yY
  try clear p2
  try clear c4
  try clear c5
  try clear c7
  try clear tr
  try clear sr
  try clear nr
  try clear kr
  try clear jr
  try clear nu
  try clear lu
  try clear ku
  try clear ju
  try clear BA
  try clear Xn
  try clear Wn
  try clear Vn
  try clear Un
  try clear Tn
  try clear Ix
  try clear Hx
  try clear Gx
  try clear Ex
  try clear Dx
  try clear Iv
  try clear Hv
  try clear Gv
  try clear Fv
  try clear Dv
  try clear Kq
  try clear Jq
  try clear Iq
  try clear Hq
  try clear Gq
  try clear Lt
  try clear Kt
  try clear Jt
  try clear Ht
  try clear oA
  try clear Sn
  try clear Rn
  try clear Qn
  try clear Pn
  try clear Nn
  try clear Rw
  try clear Qw
  try clear Pw
  try clear Ow
  try clear Nw
  try clear uv
  try clear tv
  try clear qv
  try clear ov
  try clear nv
  obtain ⟨kq,UO,rfl,HA,wY,ta,HB⟩:=hcut;cases kq with
  | zero=>exact absurd HA.out (by simp [jd.j0])
  | succ kj1 =>
   have H:=HA.out;clear HA;simp only [jd.j0] at H
   by_cases iK:UO=true
   ·subst iK;rw [if_pos rfl] at H;obtain rfl:=Option.some.inj H;go_wp2;go_ret;exact ⟨naK,oaK⟩
   ·replace iK:=Bool.eq_false_iff.mpr iK;subst iK;rw [if_neg (show ¬ (false=true) by decide)] at H;have H':=aa.mk H;clear H;obtain ⟨gu,fu,eu,cu,gx,Ft,Et,Dt,Ct,Cw⟩:=ri ta.out;go_wp2
    go_loopg [3,33] kj1 (fun kq v3 v33 w'=>∃ (EY:Int) (Ue:Int),v3 = .int .i64 EY∧v33 = .int .i64 Ue∧aa (jd.l0 kq EY Fa (Fa.length:Int) Ue Ua Pa Ra Sa Fa=some r)∧aa (kq ≤ kj1)∧aa (w'.heap[ya]? = some (.cells #[(.slice yb Ua.length zb),.int .i64 Pa,.int .i64 Ra,.int .i64 Sa,(.slice fc Fa.length Qb)] 30 (0,0)))∧aa (Below w.heap.size w w'))
    case atStart=>exact ⟨(0),(0),saK,saK,H',⟨Nat.le_refl _⟩,⟨taK⟩,⟨oaK⟩⟩
    case round =>
     clear H'
     try clear c1
     try clear p2
     try clear c4
     try clear c5
     try clear c7
     try clear iK
     try clear tr
     try clear sr
     try clear nr
     try clear kr
     try clear jr
     try clear nu
     try clear lu
     try clear ku
     try clear ju
     try clear BA
     try clear Xn
     try clear Wn
     try clear Vn
     try clear Un
     try clear Tn
     try clear Ix
     try clear Hx
     try clear Gx
     try clear Ex
     try clear Dx
     try clear gu
     try clear fu
     try clear eu
     try clear cu
     try clear gx
     try clear Iv
     try clear Hv
     try clear Gv
     try clear Fv
     try clear Dv
     try clear Kq
     try clear Jq
     try clear Iq
     try clear Hq
     try clear Gq
     try clear Lt
     try clear Kt
     try clear Jt
     try clear Ht
     try clear oA
     try clear Sn
     try clear Rn
     try clear Qn
     try clear Pn
     try clear Nn
     try clear Rw
     try clear Qw
     try clear Pw
     try clear Ow
     try clear Nw
     try clear Ft
     try clear Et
     try clear Dt
     try clear Ct
     try clear Cw
     try clear uv
     try clear tv
     try clear qv
     try clear ov
     try clear nv
     try clear p2
     (try clear HA);(try clear KF);(try clear ta);(try clear HB);obtain ⟨EY,Ue,rfl,rfl,HA,KF,ta,HB⟩:=hrel;cases gk with
     | zero=>exact absurd HA.out (by simp [jd.l0])
     | succ k2 =>
      have H:=HA.out;clear HA;simp only [jd.l0] at H
      by_cases iC:Ue < (Fa.length:Int)
      ·rw [if_pos iC] at H;have nR:decide (Ue < (Fa.length:Int))=true:=decide_eq_true iC;clear iC
       by_cases Tp:0 ≤ Ue
       ·rw [if_pos Tp] at H;have fy:decide (0 ≤ Ue)=true:=decide_eq_true Tp;clear Tp
        by_cases iE:Ue < (Fa.length:Int)
        ·rw [if_pos iE] at H;have WV:decide (Ue < (Fa.length:Int))=true:=decide_eq_true iE;clear iE;replace H:=Option.bind_eq_some_iff.mp H;obtain ⟨t107,Man,H⟩:=H
         try dsimp only at H
         have A22:=aa.mk Man;clear Man
         by_cases VV:t107=true
         ·subst VV;rw [if_pos rfl] at H;have H':=aa.mk H;clear H;have sn:0 ≤ (Ue:Int):=Va;have qn:Ue < (Fa.length:Int):=Va;obtain ⟨Zl,Vl,Ul,xB,Li,Xm,Wm,Vm,Um,Dk,Fk⟩:=Bj Tg.out Ue sn qn;cases xB;replace Li:=Ja HB.out Li;replace Xm:=Ja HB.out Xm;replace Wm:=Ja HB.out Wm;replace Vm:=Ja HB.out Vm;replace Um:=Ja HB.out Um;have Bp:=aa.mk Fk;have Mx:=aa.mk Dk;clear Fk Dk;replace sn:=eq_true sn;replace qn:=eq_true qn;go_wp2_with (first|((with_reducible refine Za (N:=5) rfl ?_);(try (refine Vj (by rfl) ?_;dsimp only));refine Ab ?hg (N:=5) ?hd (cs:=#[.slice none 0 0,.int .i64 0,.int .i64 0,.int .i64 0,.int .i64 0]) (t:=59) ?hr ?_;(case hd|hg=>rfl);(case hr=>exact gaK);intro Wl hg Xv Fb hb;have Bb:=aa.mk (Na (g:=ya) (o:=.cells #[.slice yb Ua.length zb,.int .i64 Pa,.int .i64 Ra,.int .i64 Sa,.slice (some Zl) Fa.length Qb] 30 (0,0)) kaK hb);have Db:=aa.mk (Ma iaK hb);have Ib:=aa.mk (Fb);have Xb:=aa.mk ((by rw [hg];exact (Da iaK):w.heap.size ≤ Wl));have De:=aa.mk ((by rw [hg];exact (Da iaK):w.heap.size ≤ Wl));have ef:=aa.mk ((by rw [hg];exact Nat.ne_of_lt (Tb (g:=ya) (o:=.cells #[.slice yb Ua.length zb,.int .i64 Pa,.int .i64 Ra,.int .i64 Sa,.slice (some Zl) Fa.length Qb] 30 (0,0)) kaK):ya ≠ Wl));have Cf:=aa.mk ((by rw [hg];exact Nat.ne_of_gt (Tb (g:=ya) (o:=.cells #[.slice yb Ua.length zb,.int .i64 Pa,.int .i64 Ra,.int .i64 Sa,.slice (some Zl) Fa.length Qb] 30 (0,0)) kaK):Wl ≠ ya));clear ta HB;have ta:=Bb;have HB:=Db;have Fj:=Ib;have Aan:=Xb;have Vv:=De;have Zh:=ef;have IB:=Cf;clear Bb Db Ib Xb De ef Cf hb Fb hg;have ZU:=IB.out;have YU:=Zh.out;have Qq:Xv.cell? ⟨Wl,0,none⟩=some (.slice none 0 0):=(ja Fj.out 0).trans rfl;have Pq:Xv.cell? ⟨Wl,1,none⟩=some (.int .i64 0):=(ja Fj.out 1).trans rfl;have Oq:Xv.cell? ⟨Wl,2,none⟩=some (.int .i64 0):=(ja Fj.out 2).trans rfl;have Nq:Xv.cell? ⟨Wl,3,none⟩=some (.int .i64 0):=(ja Fj.out 3).trans rfl;have Mq:Xv.cell? ⟨Wl,4,none⟩=some (.int .i64 0):=(ja Fj.out 4).trans rfl;have mq:=qa Fj.out 0;have lq:=qa Fj.out 1;have jq:=qa Fj.out 2;have iq:=qa Fj.out 3;have gq:=qa Fj.out 4;have Wt:Xv.cell? ⟨ya,0,none⟩=some (.slice yb Ua.length zb):=(ja ta.out 0).trans rfl;have Vt:Xv.cell? ⟨ya,1,none⟩=some (.int .i64 Pa):=(ja ta.out 1).trans rfl;have Ut:Xv.cell? ⟨ya,2,none⟩=some (.int .i64 Ra):=(ja ta.out 2).trans rfl;have Tt:Xv.cell? ⟨ya,3,none⟩=some (.int .i64 Sa):=(ja ta.out 3).trans rfl;have Rt:Xv.cell? ⟨ya,4,none⟩=some (.slice (some Zl) Fa.length Qb):=(ja ta.out 4).trans rfl;have nt:=qa ta.out 0;have jt:=qa ta.out 1;have ct:=qa ta.out 2;have bt:=qa ta.out 3;have Zs:=qa ta.out 4)|((with_reducible refine Cb (f:=77) rfl ?_);refine Jc (some 44) rfl rfl Try.func77 (by kernel_rfl) rfl #[.agg #[.slice yb Ua.length zb,.int .i64 Pa,.int .i64 Ra,.int .i64 Sa,.slice (some Zl) Fa.length Qb],.agg #[.slice Vl ((Ia Fa Ue).f0).length Ul,.int .i64 ((Ia Fa Ue).f1),.int .i64 ((Ia Fa Ue).f2),.int .i64 ((Ia Fa Ue).f3),.int .i64 ((Ia Fa Ue).f4)]] rfl laK ?_;(with_reducible refine (Qj.calls _ _ Ua Pa Ra Sa _ _ Fa _ _ ((Ia Fa Ue).f0) ((Ia Fa Ue).f1) ((Ia Fa Ue).f2) ((Ia Fa Ue).f3) ((Ia Fa Ue).f4) true _ ?Ic ?Gc ?Ae ?ze ?Su ?Ru A22.out).mono ?_);(case Ic=>exact Kd.Kb lf.out EaK);(case Gc=>exact Df.out);(case Ae=>exact Kd.Kb Tg.out EaK);(case ze=>exact Ej.out);(case Su=>exact Kd.Kb Bp.out EaK);(case Ru=>exact Mx.out);rintro e Fu ⟨rfl,hb⟩;refine ⟨_,rfl,?_⟩;have Bb:=aa.mk (Na (g:=ya) (o:=.cells #[.slice yb Ua.length zb,.int .i64 Pa,.int .i64 Ra,.int .i64 Sa,.slice (some Zl) Fa.length Qb] 30 (0,0)) RaK hb);have Db:=aa.mk (Na (g:=Wl) (o:=.cells #[.slice Vl ((Ia Fa Ue).f0).length Ul,.int .i64 ((Ia Fa Ue).f1),.int .i64 ((Ia Fa Ue).f2),.int .i64 ((Ia Fa Ue).f3),.int .i64 ((Ia Fa Ue).f4)] 59 (0,0)) AaK hb);have Ib:=aa.mk (Ma EaK hb);clear ta Fj HB;have ta:=Bb;have Fj:=Db;have HB:=Ib;clear Bb Db Ib;(try clear hb);(try clear ek);(try clear hk);(try clear hi)))
          go_roundg k2
          case measure=>have:=wY.out;have:=KF.out;omega
          case rel=>exact ⟨(wrap64 (EY + (((Ia Fa Ue).f0).length:Int))),(wrap64 (Ue + 1)),saK,saK,H',⟨by have:=wY.out;have:=KF.out;omega⟩,⟨taK⟩,⟨by repeat (first|(with_reducible first|exact HB.out|apply ia|apply ga|apply oa|refine ua ?_ Qa.out|refine ua ?_ Vv.out)|exact HB.out)⟩⟩
         ·replace VV:=Bool.eq_false_iff.mpr VV;subst VV;rw [if_neg (show ¬ (false=true) by decide)] at H;obtain rfl:=Option.some.inj H;have sn:0 ≤ (Ue:Int):=Va;have qn:Ue < (Fa.length:Int):=Va;obtain ⟨Zl,Vl,Ul,xB,Li,Xm,Wm,Vm,Um,Dk,Fk⟩:=Bj Tg.out Ue sn qn;cases xB;replace Li:=Ja HB.out Li;replace Xm:=Ja HB.out Xm;replace Wm:=Ja HB.out Wm;replace Vm:=Ja HB.out Vm;replace Um:=Ja HB.out Um;have Bp:=aa.mk Fk;have Mx:=aa.mk Dk;clear Fk Dk;replace sn:=eq_true sn;replace qn:=eq_true qn;go_wp2_with (first|((with_reducible refine Za (N:=5) rfl ?_);(try (refine Vj (by rfl) ?_;dsimp only));refine Ab ?hg (N:=5) ?hd (cs:=#[.slice none 0 0,.int .i64 0,.int .i64 0,.int .i64 0,.int .i64 0]) (t:=59) ?hr ?_;(case hd|hg=>rfl);(case hr=>exact gaK);intro Wl hg Ls Fb hb;have Bb:=aa.mk (Na (g:=ya) (o:=.cells #[.slice yb Ua.length zb,.int .i64 Pa,.int .i64 Ra,.int .i64 Sa,.slice (some Zl) Fa.length Qb] 30 (0,0)) kaK hb);have Db:=aa.mk (Ma iaK hb);have Ib:=aa.mk (Fb);have Xb:=aa.mk ((by rw [hg];exact (Da iaK):w.heap.size ≤ Wl));have De:=aa.mk ((by rw [hg];exact (Da iaK):w.heap.size ≤ Wl));have ef:=aa.mk ((by rw [hg];exact Nat.ne_of_lt (Tb (g:=ya) (o:=.cells #[.slice yb Ua.length zb,.int .i64 Pa,.int .i64 Ra,.int .i64 Sa,.slice (some Zl) Fa.length Qb] 30 (0,0)) kaK):ya ≠ Wl));have Cf:=aa.mk ((by rw [hg];exact Nat.ne_of_gt (Tb (g:=ya) (o:=.cells #[.slice yb Ua.length zb,.int .i64 Pa,.int .i64 Ra,.int .i64 Sa,.slice (some Zl) Fa.length Qb] 30 (0,0)) kaK):Wl ≠ ya));clear ta HB;have ta:=Bb;have HB:=Db;have Fj:=Ib;have Aan:=Xb;have Vv:=De;have Zh:=ef;have IB:=Cf;clear Bb Db Ib Xb De ef Cf hb Fb hg;have wag:=IB.out;have fag:=Zh.out;have Ww:Ls.cell? ⟨Wl,0,none⟩=some (.slice none 0 0):=(ja Fj.out 0).trans rfl;have Vw:Ls.cell? ⟨Wl,1,none⟩=some (.int .i64 0):=(ja Fj.out 1).trans rfl;have Uw:Ls.cell? ⟨Wl,2,none⟩=some (.int .i64 0):=(ja Fj.out 2).trans rfl;have Tw:Ls.cell? ⟨Wl,3,none⟩=some (.int .i64 0):=(ja Fj.out 3).trans rfl;have Sw:Ls.cell? ⟨Wl,4,none⟩=some (.int .i64 0):=(ja Fj.out 4).trans rfl;have uw:=qa Fj.out 0;have tw:=qa Fj.out 1;have sw:=qa Fj.out 2;have qw:=qa Fj.out 3;have ow:=qa Fj.out 4;have VD:Ls.cell? ⟨ya,0,none⟩=some (.slice yb Ua.length zb):=(ja ta.out 0).trans rfl;have UD:Ls.cell? ⟨ya,1,none⟩=some (.int .i64 Pa):=(ja ta.out 1).trans rfl;have TD:Ls.cell? ⟨ya,2,none⟩=some (.int .i64 Ra):=(ja ta.out 2).trans rfl;have SD:Ls.cell? ⟨ya,3,none⟩=some (.int .i64 Sa):=(ja ta.out 3).trans rfl;have RD:Ls.cell? ⟨ya,4,none⟩=some (.slice (some Zl) Fa.length Qb):=(ja ta.out 4).trans rfl;have kD:=qa ta.out 0;have jD:=qa ta.out 1;have iD:=qa ta.out 2;have hD:=qa ta.out 3;have gD:=qa ta.out 4)|((with_reducible refine Cb (f:=77) rfl ?_);refine Jc (some 44) rfl rfl Try.func77 (by kernel_rfl) rfl #[.agg #[.slice yb Ua.length zb,.int .i64 Pa,.int .i64 Ra,.int .i64 Sa,.slice (some Zl) Fa.length Qb],.agg #[.slice Vl ((Ia Fa Ue).f0).length Ul,.int .i64 ((Ia Fa Ue).f1),.int .i64 ((Ia Fa Ue).f2),.int .i64 ((Ia Fa Ue).f3),.int .i64 ((Ia Fa Ue).f4)]] rfl laK ?_;(with_reducible refine (Qj.calls _ _ Ua Pa Ra Sa _ _ Fa _ _ ((Ia Fa Ue).f0) ((Ia Fa Ue).f1) ((Ia Fa Ue).f2) ((Ia Fa Ue).f3) ((Ia Fa Ue).f4) false _ ?Ic ?Gc ?Ae ?ze ?Su ?Ru A22.out).mono ?_);(case Ic=>exact Kd.Kb lf.out EaK);(case Gc=>exact Df.out);(case Ae=>exact Kd.Kb Tg.out EaK);(case ze=>exact Ej.out);(case Su=>exact Kd.Kb Bp.out EaK);(case Ru=>exact Mx.out);rintro e VO ⟨rfl,hb⟩;refine ⟨_,rfl,?_⟩;have Bb:=aa.mk (Na (g:=ya) (o:=.cells #[.slice yb Ua.length zb,.int .i64 Pa,.int .i64 Ra,.int .i64 Sa,.slice (some Zl) Fa.length Qb] 30 (0,0)) RaK hb);have Db:=aa.mk (Na (g:=Wl) (o:=.cells #[.slice Vl ((Ia Fa Ue).f0).length Ul,.int .i64 ((Ia Fa Ue).f1),.int .i64 ((Ia Fa Ue).f2),.int .i64 ((Ia Fa Ue).f3),.int .i64 ((Ia Fa Ue).f4)] 59 (0,0)) AaK hb);have Ib:=aa.mk (Ma EaK hb);clear ta Fj HB;have ta:=Bb;have Fj:=Db;have HB:=Ib;clear Bb Db Ib;(try clear hb);(try clear ek);(try clear hk);(try clear hi)));go_ret;exact ⟨naK,by repeat (first|(with_reducible first|exact HB.out|apply ia|apply ga|apply oa|refine ua ?_ Qa.out|refine ua ?_ Vv.out)|exact HB.out)⟩
        ·rw [if_neg iE] at H;exact absurd H (by simp)
       ·rw [if_neg Tp] at H;exact absurd H (by simp)
      ·rw [if_neg iC] at H;have nR:decide (Ue < (Fa.length:Int))=false:=decide_eq_false iC;clear iC;obtain rfl:=Option.some.inj H;go_wp2;go_ret;exact ⟨naK,oaK⟩
def bf.l0:Nat→List Int→List Bool→Int→Int→Option (List Int)
 | 0,_,_,_,_=>none
 | k + 1,x3,x7,x8,x9=>if x9 < x8 then (if 0 ≤ x9 then (if x9 < (x7.length:Int) then (if Kg false x7 x9=true then (if x3.length < 17592186044416 then (bf.l0 k (x3 ++ [x9]) x7 x8 (wrap64 (x9 + 1))) else (none)) else (bf.l0 k x3 x7 x8 (wrap64 (x9 + 1)))) else (none)) else (none)) else (some x3)
def bf.f (k:Nat) (l0:List Bool):Option (List Int):=bf.l0 k (([]:List Int)) l0 (l0.length:Int) 0
theorem bf.calls (k:Nat) (A0:Option Addr) (c0:Nat) (l0:List Bool) (r:List Int) (w:World) (Tk:Kd.C Kd.bool w A0 l0.length l0) (hc0:l0.length ≤ c0) (h:bf.f k l0=some r) :
  Calls Try.prog 48 #[.slice A0 l0.length c0] w fun e w'=>∃ Zn:Value,e = .returned (Zn)∧Kd.R (Kd.int .i64) 3 w' w.heap.size (fun _=>True) Zn r∧Below w.heap.size w w':=by
 have ij:=aa.mk Tk;have nH:=aa.mk hc0;clear Tk hc0;have HB:=aa.mk (Below.refl w.heap.size w);have H:(bf.l0 k (([]:List Int)) l0 (l0.length:Int) 0)=some r:=h;clear h;obtain ⟨Ee,gf⟩:∃ y_:List Int,y_=(([]:List Int)):=⟨_,rfl⟩;replace H:(bf.l0 k Ee l0 (l0.length:Int) 0)=some r:=by first|(rw [gf];with_reducible exact H)|(have Ld:=(Option.bind_some _ _).symm.trans H;rw [gf];with_reducible exact Ld)|(have Ld:=(Option.bind_some _ _).symm.trans H;with_reducible exact Ld)|with_reducible exact H|(rw [gf];exact H)|exact H
 have cj:=aa.mk gf;clear gf;have H':=aa.mk H;clear H;go_enter Try.func48,Try.ntmps48;go_wp2_with (first|((with_reducible refine Za (N:=6) rfl ?_);refine Kd.Ei (Kd.int .i64) _ 3 ?hg (N:=6) ?hd (xs:=([]:List Int)) (inner:=[]) (ok:=fun _=>True) (Sh:=fun _=>True) ?hr ?hp (fun _ hk=>hk) trivial (Below.refl _ _) (Nat.le_refl _) (by simp) ?_;(case hd|hg=>rfl);(case hr=>exact gaK);(case hp=>exact (Wc.none _ _));intro jG w2 XE hb bk xe;clear bk xe;(first|rw [← cj.out] at XE|(simp only [Int.reduceToNat] at XE;rw [← cj.out] at XE));have Bb:=aa.mk (Kd.td XE (Da jaK));have Db:=aa.mk (Ma jaK hb);clear HB;have kn:=Bb;have HB:=Db;clear Bb Db hb XE))
 go_loopg [3,9] k (fun kq v3 v9 w'=>∃ (We:List Int) (oh:Int),v9 = .int .i64 oh∧aa (bf.l0 kq We l0 (l0.length:Int) oh=some r)∧aa (kq ≤ k)∧aa (Kd.R (Kd.int .i64) 3 w' w.heap.size (fun _=>True) v3 We)∧aa (Below w.heap.size w w'))
 case atStart=>exact ⟨(Ee),(0),saK,H',⟨Nat.le_refl _⟩,⟨haL⟩,⟨raK⟩⟩
 case round =>
  clear H'
  try clear p2
  (try clear HA);(try clear Vg);(try clear Jf);(try clear HB);obtain ⟨We,oh,rfl,HA,Vg,Jf,HB⟩:=hrel;cases gk with
  | zero=>exact absurd HA.out (by simp [bf.l0])
  | succ k1 =>
   have H:=HA.out;clear HA;simp only [bf.l0] at H
   by_cases c4:oh < (l0.length:Int)
   ·rw [if_pos c4] at H;have mj:decide (oh < (l0.length:Int))=true:=decide_eq_true c4;clear c4
    by_cases c5:0 ≤ oh
    ·rw [if_pos c5] at H;have Tl:decide (0 ≤ oh)=true:=decide_eq_true c5;clear c5
     by_cases c6:oh < (l0.length:Int)
     ·rw [if_pos c6] at H;have vn:decide (oh < (l0.length:Int))=true:=decide_eq_true c6;clear c6;obtain ⟨bq7,cac⟩:∃ b_:Bool,b_=(Kg false l0 oh):=⟨_,rfl⟩;replace H:(if bq7=true then (if We.length < 17592186044416 then (bf.l0 k1 (We ++ [oh]) l0 (l0.length:Int) (wrap64 (oh + 1))) else (none)) else (bf.l0 k1 We l0 (l0.length:Int) (wrap64 (oh + 1))))=some r:=by rw [← cac] at H;exact H
      have eam:=aa.mk cac;clear cac
      by_cases c8:bq7=true
      ·subst c8;rw [if_pos rfl] at H
       by_cases c9:We.length < 17592186044416
       ·rw [if_pos c9] at H;have sad:=aa.mk c9;clear c9;obtain ⟨He,cg⟩:∃ y_:List Int,y_=(We ++ [oh]):=⟨_,rfl⟩;replace H:(bf.l0 k1 He l0 (l0.length:Int) (wrap64 (oh + 1)))=some r:=by first|(rw [cg];with_reducible exact H)|(have Ld:=(Option.bind_some _ _).symm.trans H;rw [cg];with_reducible exact Ld)|(have Ld:=(Option.bind_some _ _).symm.trans H;with_reducible exact Ld)|with_reducible exact H|(rw [cg];exact H)|exact H
        have cm:=aa.mk cg;clear cg;have H':=aa.mk H;clear H;have xm:0 ≤ (oh:Int):=Va;have wm:oh < (l0.length:Int):=Va;obtain ⟨ny,Ny,Rh⟩:=Kd.wu ij.out oh xm wm;(try rw [← eam.out] at Rh);cases Ny;replace Rh:=Ja HB.out Rh;replace xm:=eq_true xm;replace wm:=eq_true wm;go_wp2_with (first|((with_reducible refine Qe (b:=.append) (xs:=#[.tmp 15,.tmp 17]) rfl ?_);at_builtin;refine Kd.Ph (Kd.int .i64) (w0:=w) w.heap.size rfl (.tmp 15) (.tmp 17) 22 3 (.int .i64 0) 8 rfl Try.underlying22 info3 rfl (by decide) (by omega) u3 We oh [.int .i64 oh] (fun _=>True) (fun _=>False) rfl rfl ?aP (fun _ hk=>hk.elim) ?aF ?aO ?aB ?aS ?aL ?_;(case aP=>exact rfl);(case aB=>exact jaK);(case aF=>exact (fun _ _=>trivial));(case aO=>exact CaK);(case aS=>exact (Da jaK));(case aL=>have:=sad.out;omega);intro xE Bo ho hb hg hat;rw [← cm.out] at ho;have Bb:=aa.mk (hb);have Db:=aa.mk (ho);clear HB Jf;have HB:=Bb;have Km:=Db;clear Bb Db ho hb hg hat))
        go_roundg k1
        case measure=>have:=Vg.out;omega
        case rel=>exact ⟨(He),(wrap64 (oh + 1)),saK,H',⟨by have:=Vg.out;omega⟩,⟨iaL⟩,⟨raK⟩⟩
       ·rw [if_neg c9] at H;exact absurd H (by simp)
      ·replace c8:=Bool.eq_false_iff.mpr c8;subst c8;rw [if_neg (show ¬ (false=true) by decide)] at H;have H':=aa.mk H;clear H;have xm:0 ≤ (oh:Int):=Va;have wm:oh < (l0.length:Int):=Va;obtain ⟨ny,Ny,Rh⟩:=Kd.wu ij.out oh xm wm;(try rw [← eam.out] at Rh);cases Ny;replace Rh:=Ja HB.out Rh;replace xm:=eq_true xm;replace wm:=eq_true wm;go_wp2
       go_roundg k1
       case measure=>have:=Vg.out;omega
       case rel=>exact ⟨(We),(wrap64 (oh + 1)),saK,H',⟨by have:=Vg.out;omega⟩,⟨QaK⟩,⟨raK⟩⟩
     ·rw [if_neg c6] at H;exact absurd H (by simp)
    ·rw [if_neg c5] at H;exact absurd H (by simp)
   ·rw [if_neg c4] at H;have mj:decide (oh < (l0.length:Int))=false:=decide_eq_false c4;clear c4;obtain rfl:=Option.some.inj H;go_wp2;go_ret;exact ⟨_,naK,QaK,raK⟩
def Am.f (Nb:Int) (Pa:Int) (Ra:Int) (Sa:Int) (Eb:Int) (qc:Int) (Cc:ByteArray):Option (Int):=if Nb=4 then (some (-1)) else (if Nb=6 then (some (-1)) else (some Pa))
theorem Am.calls (Nb:Int) (Pa:Int) (Ra:Int) (Sa:Int) (Eb:Int) (qc:Int) (Cc:ByteArray) (r:Int) (w:World) (h:Am.f Nb Pa Ra Sa Eb qc Cc=some r) :
  Calls Try.prog 87 #[.agg #[.int .i64 Nb,.int .i64 Pa,.int .i64 Ra,.int .i64 Sa,.int .i64 Eb,.int .i64 qc,.string Cc]] w fun e w'=>e = .returned (.int .i64 r)∧Below w.heap.size w w':=by
 have CC:=Try.underlying65;have HB:=aa.mk (Below.refl w.heap.size w);have H:(if Nb=4 then (some (-1)) else (if Nb=6 then (some (-1)) else (some Pa)))=some r:=h;clear h
 by_cases c2:Nb=4
 ·rw [if_pos c2] at H;have Ju:=beq_iff_eq.mpr c2;have AB:=bne_eq_false_iff_eq.mpr c2;clear c2;obtain rfl:=Option.some.inj H;go_enter Try.func87,Try.ntmps87;go_wp2_with (first|((with_reducible refine Za (N:=1) rfl ?_);refine Ab ?hg (N:=1) ?hd (cs:=#[.int .i64 Nb,.int .i64 Pa,.int .i64 Ra,.int .i64 Sa,.int .i64 Eb,.int .i64 qc,.string Cc]) (t:=65) ?hr ?_;(case hd|hg=>rfl);(case hr=>exact gaK);intro ya hg w3 Fb hb;have Bb:=aa.mk (Ma jaK hb);have Db:=aa.mk (Fb);have Ib:=aa.mk ((by rw [hg];exact (Da jaK):w.heap.size ≤ ya));have Xb:=aa.mk ((by rw [hg];exact (Da jaK):w.heap.size ≤ ya));clear HB;have HB:=Bb;have ta:=Db;have Jd:=Ib;have Qa:=Xb;clear Bb Db Ib Xb hb Fb hg;have NN:w3.cell? ⟨ya,0,none⟩=some (.int .i64 Nb):=(ja ta.out 0).trans rfl;have MN:w3.cell? ⟨ya,1,none⟩=some (.int .i64 Pa):=(ja ta.out 1).trans rfl;have LN:w3.cell? ⟨ya,2,none⟩=some (.int .i64 Ra):=(ja ta.out 2).trans rfl;have KN:w3.cell? ⟨ya,3,none⟩=some (.int .i64 Sa):=(ja ta.out 3).trans rfl;have JN:w3.cell? ⟨ya,4,none⟩=some (.int .i64 Eb):=(ja ta.out 4).trans rfl;have Vab:w3.cell? ⟨ya,5,none⟩=some (.int .i64 qc):=(ja ta.out 5).trans rfl;have Uab:w3.cell? ⟨ya,6,none⟩=some (.string Cc):=(ja ta.out 6).trans rfl;have FN:=qa ta.out 0;have EN:=qa ta.out 1;have DN:=qa ta.out 2;have CN:=qa ta.out 3;have BN:=qa ta.out 4;have sab:=qa ta.out 5;have rab:=qa ta.out 6));go_ret;exact ⟨naK,oaK⟩
 ·rw [if_neg c2] at H;have Ju:=beq_eq_false_iff_ne.mpr c2;have AB:=bne_iff_ne.mpr c2
  by_cases c5:Nb=6
  ·rw [if_pos c5] at H;have Tl:=beq_iff_eq.mpr c5;have tu:=bne_eq_false_iff_eq.mpr c5;clear c5;obtain rfl:=Option.some.inj H;go_enter Try.func87,Try.ntmps87;go_wp2_with (first|((with_reducible refine Za (N:=1) rfl ?_);refine Ab ?hg (N:=1) ?hd (cs:=#[.int .i64 Nb,.int .i64 Pa,.int .i64 Ra,.int .i64 Sa,.int .i64 Eb,.int .i64 qc,.string Cc]) (t:=65) ?hr ?_;(case hd|hg=>rfl);(case hr=>exact gaK);intro ya hg w6 Fb hb;have Bb:=aa.mk (Ma jaK hb);have Db:=aa.mk (Fb);have Ib:=aa.mk ((by rw [hg];exact (Da jaK):w.heap.size ≤ ya));have Xb:=aa.mk ((by rw [hg];exact (Da jaK):w.heap.size ≤ ya));clear HB;have HB:=Bb;have ta:=Db;have Jd:=Ib;have Qa:=Xb;clear Bb Db Ib Xb hb Fb hg;have Nv:w6.cell? ⟨ya,0,none⟩=some (.int .i64 Nb):=(ja ta.out 0).trans rfl;have Mv:w6.cell? ⟨ya,1,none⟩=some (.int .i64 Pa):=(ja ta.out 1).trans rfl;have Lv:w6.cell? ⟨ya,2,none⟩=some (.int .i64 Ra):=(ja ta.out 2).trans rfl;have Kv:w6.cell? ⟨ya,3,none⟩=some (.int .i64 Sa):=(ja ta.out 3).trans rfl;have Jv:w6.cell? ⟨ya,4,none⟩=some (.int .i64 Eb):=(ja ta.out 4).trans rfl;have sV:w6.cell? ⟨ya,5,none⟩=some (.int .i64 qc):=(ja ta.out 5).trans rfl;have rV:w6.cell? ⟨ya,6,none⟩=some (.string Cc):=(ja ta.out 6).trans rfl;have Bv:=qa ta.out 0;have Av:=qa ta.out 1;have zv:=qa ta.out 2;have wv:=qa ta.out 3;have vv:=qa ta.out 4;have eV:=qa ta.out 5;have dV:=qa ta.out 6));go_ret;exact ⟨naK,oaK⟩
  ·rw [if_neg c5] at H;have Tl:=beq_eq_false_iff_ne.mpr c5;have tu:=bne_iff_ne.mpr c5;obtain rfl:=Option.some.inj H;go_enter Try.func87,Try.ntmps87;go_wp2_with (first|((with_reducible refine Za (N:=1) rfl ?_);refine Ab ?hg (N:=1) ?hd (cs:=#[.int .i64 Nb,.int .i64 Pa,.int .i64 Ra,.int .i64 Sa,.int .i64 Eb,.int .i64 qc,.string Cc]) (t:=65) ?hr ?_;(case hd|hg=>rfl);(case hr=>exact gaK);intro ya hg w8 Fb hb;have Bb:=aa.mk (Ma jaK hb);have Db:=aa.mk (Fb);have Ib:=aa.mk ((by rw [hg];exact (Da jaK):w.heap.size ≤ ya));have Xb:=aa.mk ((by rw [hg];exact (Da jaK):w.heap.size ≤ ya));clear HB;have HB:=Bb;have ta:=Db;have Jd:=Ib;have Qa:=Xb;clear Bb Db Ib Xb hb Fb hg;have Iv:w8.cell? ⟨ya,0,none⟩=some (.int .i64 Nb):=(ja ta.out 0).trans rfl;have Hv:w8.cell? ⟨ya,1,none⟩=some (.int .i64 Pa):=(ja ta.out 1).trans rfl;have Gv:w8.cell? ⟨ya,2,none⟩=some (.int .i64 Ra):=(ja ta.out 2).trans rfl;have Fv:w8.cell? ⟨ya,3,none⟩=some (.int .i64 Sa):=(ja ta.out 3).trans rfl;have Dv:w8.cell? ⟨ya,4,none⟩=some (.int .i64 Eb):=(ja ta.out 4).trans rfl;have qV:w8.cell? ⟨ya,5,none⟩=some (.int .i64 qc):=(ja ta.out 5).trans rfl;have pV:w8.cell? ⟨ya,6,none⟩=some (.string Cc):=(ja ta.out 6).trans rfl;have uv:=qa ta.out 0;have tv:=qa ta.out 1;have qv:=qa ta.out 2;have ov:=qa ta.out 3;have nv:=qa ta.out 4;have cV:=qa ta.out 5;have bV:=qa ta.out 6));go_ret;exact ⟨naK,oaK⟩
end Go.Proofs.Ytkigbdceceeenaa.P
end
