import Derived.Test.YtmifdccaajngcaaQTwice1
import Derived.Shelf.Abstract
import Derived.Test.YtmifdccaajngcaaQTwice3
import Derived.Outline
import Derived.RegionTactic
import Derived.Deep.QuietTactic
import Derived.BigQuiet
import Derived.Test.YtmifdccaajngcaaQTwice2
set_option maxHeartbeats 8000000
set_option maxRecDepth 100000
section
namespace Go.Proofs.Ytmifdccaajngcaa.P
open Go.RowKit Go.Proofs.Na.Ec Go.Proofs.Na.gf Go.Proofs.Na.Eg
set_option linter.unusedVariables false
set_option linter.unusedSimpArgs false
attribute [local go_sem] Yk Wk Gm Fm tj sj Xk Vk
def Ob.l0:Nat→List ByteArray→ByteArray→Int→Int→Option (Int)
 | 0,_,_,_,_=>none
 | k + 1,x0,x1,x7,x8=>if x8 < x7 then (if 0 ≤ x8 then (if x8 < (x0.length:Int) then (if x1.toList=(cm ByteArray.empty x0 x8).toList then (some x8) else (Ob.l0 k x0 x1 x7 (wrap64 (x8 + 1)))) else (none)) else (none)) else (some (-1))
def Ob.f (k:Nat) (l0:List ByteArray) (a1:ByteArray):Option (Int):=Ob.l0 k l0 a1 (l0.length:Int) 0
theorem Ob.jQ:∀ k,(∀ y0 y1 y2 y3,vq (Ob.l0 k y0 y1 y2 y3) (Ob.l0 (k + 1) y0 y1 y2 y3))
 | 0=>fun _ _ _ _ r h=>by simp [Ob.l0] at h
 | k + 1=>by
  have B8:=Ob.jQ k
  ·intro y0 y1 y2 y3;unfold Ob.l0
   repeat' first
   | (with_reducible exact B8 _ _ _ _)
   | (with_reducible exact vq.refl _)
   | (with_reducible exact vq.none _)
   | (with_reducible refine vq.ite ?_ ?_)
   | (with_reducible refine vq.bind ?_ (fun _=>?_))
   | exact B8 _ _ _ _
   | exact vq.none _
   | refine vq.ite ?_ ?_
   | refine vq.bind ?_ (fun _=>?_)
theorem Ob.mono:∀ a0 a1 k,vq (Ob.f k a0 a1) (Ob.f (k + 1) a0 a1):=by
 intro a0 a1 k;have B8:=Ob.jQ k;unfold Ob.f
 repeat' first
   | (with_reducible exact B8 _ _ _ _)
   | (with_reducible exact vq.refl _)
   | (with_reducible exact vq.none _)
   | (with_reducible refine vq.ite ?_ ?_)
   | (with_reducible refine vq.bind ?_ (fun _=>?_))
   | exact B8 _ _ _ _
   | exact vq.none _
   | refine vq.ite ?_ ?_
   | refine vq.bind ?_ (fun _=>?_)
theorem Ob.calls (k:Nat) (A0:Option Addr) (c0:Nat) (l0:List ByteArray) (a1:ByteArray) (r:Int) (w:World) (fk:Kd.C Kd.string w A0 l0.length l0) (hc0:l0.length ≤ c0) (h:Ob.f k l0 a1=some r) :
  Calls Try.prog 141 #[.slice A0 l0.length c0,.string a1] w fun e w'=>e = .returned (.int .i64 r)∧Wd w w':=by
 have Jh:=ia.mk fk;have uD:=ia.mk hc0;clear fk hc0;have H:(Ob.l0 k l0 a1 (l0.length:Int) 0)=some r:=h;clear h;have H':=ia.mk H;clear H;go_enter Try.func141,Try.ntmps141;go_wp2
 go_loopg [8] k (fun kq v8 w'=>∃ (Vo:Int),v8 = .int .i64 Vo∧ia (Ob.l0 kq l0 a1 (l0.length:Int) Vo=some r)∧ia (kq ≤ k)∧Wd w w')
 case atStart=>exact ⟨(0),(by first|rfl|(simp;done)|(simp [*];done)),H',⟨Nat.le_refl _⟩,by repeat (first|exact Wd.refl _|apply Wd.step)⟩
 case round =>
  clear H'
  try clear c1
  try clear p2
  (try clear HA);(try clear jh);obtain ⟨Vo,rfl,HA,jh,⟨m1,rfl⟩⟩:=hrel;cases gk with
  | zero=>exact absurd HA.out (by simp [Ob.l0])
  | succ k1 =>
   have H:=HA.out;clear HA;simp only [Ob.l0] at H
   by_cases c3:Vo < (l0.length:Int)
   ·rw [if_pos c3] at H;have aj:decide (Vo < (l0.length:Int))=true:=decide_eq_true c3;clear c3
    by_cases c4:0 ≤ Vo
    ·rw [if_pos c4] at H;have Fl:decide (0 ≤ Vo)=true:=decide_eq_true c4;clear c4
     by_cases c5:Vo < (l0.length:Int)
     ·rw [if_pos c5] at H;have Yo:decide (Vo < (l0.length:Int))=true:=decide_eq_true c5;clear c5
      by_cases c6:a1.toList=(cm ByteArray.empty l0 Vo).toList
      ·rw [if_pos c6] at H;have Cn:(a1.toList == (cm ByteArray.empty l0 Vo).toList)=true:=beq_iff_eq.mpr c6;have qF:(a1.toList != (cm ByteArray.empty l0 Vo).toList)=false:=bne_eq_false_iff_eq.mpr c6;clear c6;obtain rfl:=Option.some.inj H;have Le:0 ≤ (Vo:Int):=of_decide_eq_true (by first|(with_reducible assumption)|assumption);have Ke:Vo < (l0.length:Int):=of_decide_eq_true (by first|(with_reducible assumption)|assumption);obtain ⟨Oc,Eh,Tc⟩:=Kd.av Jh.out Vo Le Ke;cases Eh;replace Le:=eq_true Le;replace Ke:=eq_true Ke;go_wp2;go_ret;exact ⟨by first|rfl|(simp;done)|(simp [*];done),by repeat (first|exact Wd.refl _|apply Wd.step)⟩
      ·rw [if_neg c6] at H;have Cn:(a1.toList == (cm ByteArray.empty l0 Vo).toList)=false:=beq_eq_false_iff_ne.mpr c6;have qF:(a1.toList != (cm ByteArray.empty l0 Vo).toList)=true:=bne_iff_ne.mpr c6;have H':=ia.mk H;clear H;have Le:0 ≤ (Vo:Int):=of_decide_eq_true (by first|(with_reducible assumption)|assumption);have Ke:Vo < (l0.length:Int):=of_decide_eq_true (by first|(with_reducible assumption)|assumption);obtain ⟨Oc,Eh,Tc⟩:=Kd.av Jh.out Vo Le Ke;cases Eh;replace Le:=eq_true Le;replace Ke:=eq_true Ke;go_wp2
       go_roundg k1
       case measure=>have:=jh.out;omega
       case rel=>exact ⟨(wrap64 (Vo + 1)),(by first|rfl|(simp;done)|(simp [*];done)),H',⟨by have:=jh.out;omega⟩,by repeat (first|exact Wd.refl _|apply Wd.step)⟩
     ·rw [if_neg c5] at H;exact absurd H (by simp)
    ·rw [if_neg c4] at H;exact absurd H (by simp)
   ·rw [if_neg c3] at H;have aj:decide (Vo < (l0.length:Int))=false:=decide_eq_false c3;clear c3;obtain rfl:=Option.some.inj H;go_wp2;go_ret;exact ⟨by first|rfl|(simp;done)|(simp [*];done),by repeat (first|exact Wd.refl _|apply Wd.step)⟩
def Md.f (k:Nat) (l0:List ByteArray) (a1:ByteArray):Option (Bool):=(Ob.f k l0 a1).bind fun t101=>(some (decide (t101 ≥ 0)))
theorem Md.mono:∀ a0 a1 k,vq (Md.f k a0 a1) (Md.f (k + 1) a0 a1):=by
 intro a0 a1 k;unfold Md.f
 repeat' first
   | (with_reducible exact Ob.mono _ _ _)
   | (with_reducible exact vq.refl _)
   | (with_reducible exact vq.none _)
   | (with_reducible refine vq.ite ?_ ?_)
   | (with_reducible refine vq.bind ?_ (fun _=>?_))
   | exact Ob.mono _ _ _
   | exact vq.none _
   | refine vq.ite ?_ ?_
   | refine vq.bind ?_ (fun _=>?_)
theorem Md.calls (k:Nat) (A0:Option Addr) (c0:Nat) (l0:List ByteArray) (a1:ByteArray) (r:Bool) (w:World) (fk:Kd.C Kd.string w A0 l0.length l0) (hc0:l0.length ≤ c0) (h:Md.f k l0 a1=some r) :
  Calls Try.prog 140 #[.slice A0 l0.length c0,.string a1] w fun e w'=>e = .returned (.bool r)∧Wd w w':=by
 have Jh:=ia.mk fk;have uD:=ia.mk hc0;clear fk hc0;have H:((Ob.f k l0 a1).bind fun t101=>(some (decide (t101 ≥ 0))))=some r:=h;clear h;replace H:=Option.bind_eq_some_iff.mp H;obtain ⟨t101,EC,H⟩:=H;replace H:(some (decide (t101 ≥ 0)))=some r:=H;have A3:=ia.mk EC;clear EC;obtain rfl:=Option.some.inj H;go_enter Try.func140,Try.ntmps140;go_wp2_with (first|((with_reducible refine Gb (f:=141) rfl ?_);refine Bd (some 7) rfl rfl Try.func141 (by kernel_rfl) rfl #[.slice A0 l0.length c0,.string a1] rfl (by (try simp only [List.map_toArray,List.map_cons,List.map_nil]);first|done|rfl|(simp only [List.length_drop,List.length_take];rfl)) ?_;(with_reducible refine (Ob.calls k _ _ l0 a1 t101 _ ?zd ?yd A3.out).mono ?_);(case zd=>repeat (first|exact Jh.out|(with_reducible refine Kd.Sc ?_ _)|(with_reducible refine Kd.Rc ?_ _)|(with_reducible refine Kd.Cd ?_)));(case yd=>exact uD.out);rintro e w' ⟨rfl,⟨nd,rfl⟩⟩;refine ⟨_,rfl,?_⟩));go_ret;exact ⟨by first|rfl|(simp;done)|(simp [*];done),by repeat (first|exact Wd.refl _|apply Wd.step)⟩
def Vn.f (k:Nat) (a0:ByteArray):Option (Bool):=(Md.f k (([(⟨#[61,61]⟩:ByteArray),(⟨#[60]⟩:ByteArray),(⟨#[38]⟩:ByteArray),(⟨#[43]⟩:ByteArray),(⟨#[45]⟩:ByteArray),(⟨#[42]⟩:ByteArray)]:List ByteArray)) a0).bind fun t104=>(some t104)
theorem Vn.calls (k:Nat) (a0:ByteArray) (r:Bool) (w:World) (h:Vn.f k a0=some r) :
  Calls Try.prog 136 #[.string a0] w fun e w'=>e = .returned (.bool r)∧Below w.heap.size w w':=by
 have HB:=ia.mk (Below.refl w.heap.size w);have H:((Md.f k (([(⟨#[61,61]⟩:ByteArray),(⟨#[60]⟩:ByteArray),(⟨#[38]⟩:ByteArray),(⟨#[43]⟩:ByteArray),(⟨#[45]⟩:ByteArray),(⟨#[42]⟩:ByteArray)]:List ByteArray)) a0).bind fun t104=>(some t104))=some r:=h;clear h;obtain ⟨yg,Hg⟩:∃ y_:List ByteArray,y_=(([(⟨#[61,61]⟩:ByteArray),(⟨#[60]⟩:ByteArray),(⟨#[38]⟩:ByteArray),(⟨#[43]⟩:ByteArray),(⟨#[45]⟩:ByteArray),(⟨#[42]⟩:ByteArray)]:List ByteArray)):=⟨_,rfl⟩;replace H:((Md.f k yg a0).bind fun t104=>(some t104))=some r:=by first|(rw [Hg];with_reducible exact H)|(have sg:=(Option.bind_some _ _).symm.trans H;rw [Hg];with_reducible exact sg)|(have sg:=(Option.bind_some _ _).symm.trans H;with_reducible exact sg)|with_reducible exact H|(rw [Hg];exact H)|exact H
 have Ql:=ia.mk Hg;clear Hg;replace H:=Option.bind_eq_some_iff.mp H;obtain ⟨t104,jP,H⟩:=H;replace H:(some t104)=some r:=H;have A2:=ia.mk jP;clear jP;obtain rfl:=Option.some.inj H;go_enter Try.func136,Try.ntmps136;go_wp2_with (first|((with_reducible refine Tb (N:=3) rfl ?_);refine Kd.Gs Kd.string _ 9 ?hg (N:=3) ?hd (xs:=([(⟨#[61,61]⟩:ByteArray),(⟨#[60]⟩:ByteArray),(⟨#[38]⟩:ByteArray),(⟨#[43]⟩:ByteArray),(⟨#[45]⟩:ByteArray),(⟨#[42]⟩:ByteArray)]:List ByteArray)) (inner:=[.string (⟨#[61,61]⟩:ByteArray),.string (⟨#[60]⟩:ByteArray),.string (⟨#[38]⟩:ByteArray),.string (⟨#[43]⟩:ByteArray),.string (⟨#[45]⟩:ByteArray),.string (⟨#[42]⟩:ByteArray)]) (ok:=fun _=>True) (Bl:=fun _=>True) ?hr ?hp (fun _ hk=>hk) trivial (Below.refl _ _) (Nat.le_refl _) (by simp) ?_;(case hd=>rfl);(case hg=>rfl);(case hr=>first|(go_simp;done)|(go_simp;rfl));(case hp=>exact (Gf.one (show Kd.M Kd.string _ _ _ (⟨#[61,61]⟩:ByteArray) [.string (⟨#[61,61]⟩:ByteArray)] from rfl) (Gf.one (show Kd.M Kd.string _ _ _ (⟨#[60]⟩:ByteArray) [.string (⟨#[60]⟩:ByteArray)] from rfl) (Gf.one (show Kd.M Kd.string _ _ _ (⟨#[38]⟩:ByteArray) [.string (⟨#[38]⟩:ByteArray)] from rfl) (Gf.one (show Kd.M Kd.string _ _ _ (⟨#[43]⟩:ByteArray) [.string (⟨#[43]⟩:ByteArray)] from rfl) (Gf.one (show Kd.M Kd.string _ _ _ (⟨#[45]⟩:ByteArray) [.string (⟨#[45]⟩:ByteArray)] from rfl) (Gf.one (show Kd.M Kd.string _ _ _ (⟨#[42]⟩:ByteArray) [.string (⟨#[42]⟩:ByteArray)] from rfl) (Gf.none _ _))))))));intro lG w3 Hq hb kz uj;clear kz uj;(first|rw [← Ql.out] at Hq|(simp only [Int.reduceToNat] at Hq;rw [← Ql.out] at Hq));have Ub:=ia.mk (Kd.Kh Hq (Ma (by repeat (first|(with_reducible first|exact HB.out|apply qa|apply ja|apply ta)|exact HB.out))));have fc:=ia.mk (Oa (by repeat (first|(with_reducible first|exact HB.out|apply qa|apply ja|apply ta)|exact HB.out)) hb);clear HB;have fo:=Ub;have HB:=fc;clear Ub fc hb Hq;obtain ⟨Ao5,co5,Q4⟩:=Kd.Ze fo.out;subst Q4)|((with_reducible refine Gb (f:=140) rfl ?_);refine Bd (some 5) rfl rfl Try.func140 (by kernel_rfl) rfl #[.slice Ao5 yg.length co5,.string a0] rfl (by (try simp only [List.map_toArray,List.map_cons,List.map_nil]);first|done|rfl|(simp only [List.length_drop,List.length_take];rfl)) ?_;(with_reducible refine (Md.calls k _ _ yg a0 t104 _ ?zd ?yd A2.out).mono ?_);(case zd=>repeat (first|exact (Kd.Dc fo.out).2.2|(with_reducible refine Kd.Sc ?_ _)|(with_reducible refine Kd.Rc ?_ _)|(with_reducible refine Kd.Cd ?_)));(case yd=>exact (Kd.Dc fo.out).2.1);rintro e w' ⟨rfl,⟨nd,rfl⟩⟩;refine ⟨_,rfl,?_⟩));go_ret;exact ⟨by first|rfl|(simp [Ka,Ja] <;> rfl)|(simp [*,Ka,Ja] <;> rfl),by repeat (first|(with_reducible first|exact HB.out|apply qa|apply ja|apply ta)|exact HB.out)⟩
def ni.f (a0:Int) (a1:Int) (a2:Int):Option (Bool):=if a0 ≥ a1 then (some (decide (a0 ≤ a2))) else (some false)
theorem ni.calls (a0:Int) (a1:Int) (a2:Int) (r:Bool) (w:World) (h:ni.f a0 a1 a2=some r) :
  Calls Try.prog 58 #[.int .i64 a0,.int .i64 a1,.int .i64 a2] w fun e w'=>e = .returned (.bool r)∧Wd w w':=by
 have H:(if a0 ≥ a1 then (some (decide (a0 ≤ a2))) else (some false))=some r:=h;clear h
 by_cases c4:a0 ≥ a1
 ·rw [if_pos c4] at H;have Fl:decide (a1 ≤ a0)=true:=decide_eq_true c4;clear c4;obtain rfl:=Option.some.inj H;go_enter Try.func58,Try.ntmps58;go_wp2;go_ret;exact ⟨by first|rfl|(simp;done)|(simp [*];done),by repeat (first|exact Wd.refl _|apply Wd.step)⟩
 ·rw [if_neg c4] at H;have Fl:decide (a1 ≤ a0)=false:=decide_eq_false c4;clear c4;obtain rfl:=Option.some.inj H;go_enter Try.func58,Try.ntmps58;go_wp2;go_ret;exact ⟨by first|rfl|(simp;done)|(simp [*];done),by repeat (first|exact Wd.refl _|apply Wd.step)⟩
theorem DG (g:Nat) (lb:Array Value) (p:Int→Bool) (eg:∀ args w,(callFunc g args).run Try.prog w = .ok (.enter g args) w) (A0:Option Addr) (c0:Nat) (l0:List Int) (w:World) (fk:Kd.C (Kd.int .i64) w A0 l0.length l0) (hc0:l0.length ≤ c0)
  (hp:∀ (W:World) (x:Int),Below w.heap.size w W→Calls Try.prog g (#[(.int .i64 x)] ++ lb) W fun e w'=>e = .returned (.bool (p x))∧Below W.heap.size W w') :
  Calls Try.prog 130 #[.slice A0 l0.length c0,.func (.func g) #[] lb] w fun e w'=>(∃ i:Int,e = .returned (.int .i64 i)∧decide (0 ≤ i)=l0.any p)∧Below w.heap.size w w':=by
 have C7:=fk.2.1;have Jh:=ia.mk fk;have uD:=ia.mk hc0;have HP:=ia.mk hp;clear fk hc0 hp;go_enter Try.func130,Try.ntmps130;go_wp2
 go_loopg [5,8] l0.length (fun gg _ s8 wr=>∃ kk:Nat,kk ≤ l0.length∧l0.length - kk ≤ gg∧s8 = .int .i64 kk∧ia (Below w.heap.size w wr)∧ia ((l0.take kk).any p=false))
 case atStart=>exact ⟨0,Nat.zero_le _,by omega,rfl,⟨Below.refl _ w⟩,⟨by simp⟩⟩
 case round =>
  (try clear BW);(try clear HA);obtain ⟨kk,hkk,hg,rfl,BW,HA⟩:=hrel
  by_cases hlt:kk < l0.length
  ·have p1:0 ≤ (kk:Int):=by omega
   have q1:(kk:Int) < (l0.length:Int):=by omega
   obtain ⟨ad,e1,hx0⟩:=Kd.rq Jh.out (kk:Int) p1 q1;cases e1;simp only [Int.toNat_natCast] at hx0;replace hx0:=(BW.out.cell (World.block_lt_of_cell? w _ hx0)).trans hx0;have jn:=HP.out wr (rd l0 (kk:Int)) BW.out;cases hq:p (rd l0 (kk:Int)) with
   | true =>
    rw [hq] at jn;go_wp2_with (go_at_fn g;refine jn.mono ?_;rintro e w1 ⟨rfl,Hy⟩);go_ret;exact ⟨⟨_,rfl,by rw [lN (d:=0) hlt hq];simp⟩,BW.out.trans (Hy.mono BW.out.size)⟩
   | false =>
    rw [hq] at jn;go_wp2_with (go_at_fn g;refine jn.mono ?_;rintro e w1 ⟨rfl,Hy⟩)
    go_roundg (l0.length - (kk + 1))
    case measure=>omega
    case rel=>exact ⟨kk + 1,by omega,by omega,by go_num,⟨BW.out.trans (Hy.mono BW.out.size)⟩,⟨sq (d:=0) hlt HA.out hq⟩⟩
  ·have D3:¬ (kk:Int) < (l0.length:Int):=by omega
   have he:kk=l0.length:=by omega
   subst he;go_wp2;go_ret;exact ⟨⟨_,rfl,by have h_:=HA.out;rw [List.take_length] at h_;rw [h_];simp⟩,BW.out⟩
theorem zz (g:Nat) (lb:Array Value) (p:Int→Bool) (eg:∀ args w,(callFunc g args).run Try.prog w = .ok (.enter g args) w) (A0:Option Addr) (c0:Nat) (l0:List Int) (w:World) (fk:Kd.C (Kd.int .i64) w A0 l0.length l0) (hc0:l0.length ≤ c0)
  (hp:∀ (W:World) (x:Int),Below w.heap.size w W→Calls Try.prog g (#[(.int .i64 x)] ++ lb) W fun e w'=>e = .returned (.bool (p x))∧Below W.heap.size W w') :
  Calls Try.prog 113 #[.slice A0 l0.length c0,.func (.func g) #[] lb] w fun e w'=>e = .returned (.bool (l0.any p))∧Below w.heap.size w w':=by
 have HI:=ia.mk (DG g lb p eg A0 c0 l0 w fk hc0 hp);clear fk hc0 hp;go_enter Try.func113,Try.ntmps113;go_wp2_with (go_at_call 130;refine HI.out.mono ?_;rintro e w1 ⟨⟨i,rfl,hi⟩,Hy⟩;have HD:=ia.mk hi;clear hi);go_ret;exact ⟨by rw [← HD.out];first|rfl|simp,Hy⟩
def wm (a b c:Int):Bool:=decide (b ≤ a) && decide (a ≤ c)
theorem jm (a b c:Int) (w:World):Calls Try.prog 58 #[.int .i64 a,.int .i64 b,.int .i64 c] w fun e w'=>e = .returned (.bool (wm a b c))∧Wd w w' :=
 ni.calls a b c (wm a b c) w (by
  unfold ni.f wm
  by_cases h:a ≥ b
  ·rw [if_pos h];have h':b ≤ a:=h;simp [h']
  ·rw [if_neg h];have h':¬ b ≤ a:=h
   simp [h'])
def gz (l:List Int) (p v:Int):Bool:=wm (l.length:Int) 1 4 && !(l.any fun n=>!wm n 1 16) && wm p 0 (if v < 6 then v else 6) && decide (v ≤ 20)
theorem zG (W:World) (x:Int):Calls Try.prog 114 #[.int .i64 x] W fun e w'=>e = .returned (.bool (!wm x 1 16))∧Below W.heap.size W w':=by
 have HC:=ia.mk (jm x 1 16);generalize wm x 1 16=b at HC ⊢;go_enter Try.func114,Try.ntmps114;go_wp2_with (go_at_call 58;refine (HC.out _).mono ?_;rintro e w1 ⟨rfl,Hy⟩;have HD:=ia.mk Hy.below;clear Hy);go_ret;exact ⟨rfl,HD.out⟩
theorem xF (p0 p1 p2 p3:Value) (A:Option Addr) (c:Nat) (w:World) :
  Calls Try.prog 115 #[.agg #[p0,p1,p2,p3],.slice A 0 c,.int .i64 0] w fun e w'=>e = .returned (.bool true)∧Below w.heap.size w w':=by
 go_enter Try.func115,Try.ntmps115;go_wp2
 go_loop [25] (fun i=>i = .int .i64 0) (fun _=>0)
 case atStart=>exact rfl
 case round =>
  obtain rfl:=hrel;go_wp2;go_ret;exact ⟨rfl,qa (qa (Below.refl _ _) _) _⟩
theorem PC (A0 A3:Option Addr) (c0 c3:Nat) (l0:List Int) (a1 a2:Int) (w:World) (fk:Kd.C (Kd.int .i64) w A0 l0.length l0) (hc0:l0.length ≤ c0) :
  Calls Try.prog 89 #[.agg #[.slice A0 l0.length c0,.int .i64 a1,.int .i64 a2,.slice A3 0 c3]] w fun e w'=>e = .returned (.bool (gz l0 a1 a2))∧Below w.heap.size w w':=by
 have eg:=enters_of Try.func114 (by kernel_rfl) rfl;have C7:=fk.2.1;have O7:=ia.mk (jm (l0.length:Int) 1 4);have HC3:=ia.mk (jm a1 0 (if a2 < 6 then a2 else 6));have HF:=ia.mk (fun (W:World) (hb:Below w.heap.size w W)=>zz 114 #[] (fun n=>!wm n 1 16) eg A0 c0 l0 W (Kd.ec fk hb) hc0 (fun W x _=>zG W x));clear fk hc0;unfold gz
 by_cases h6:a2 < 6
 all_goals
  have hmin:min 6 a2=if a2 < 6 then a2 else 6:=by split <;> omega
  first|rw [if_pos h6] at HC3 hmin ⊢|rw [if_neg h6] at HC3 hmin ⊢
  cases Hy:wm (l0.length:Int) 1 4 with
  | false =>
   go_enter Try.func89,Try.ntmps89;go_wp2_with (first|(go_at_call 58;refine (jm _ _ _ _).mono ?_;rintro e w1 ⟨rfl,⟨n,rfl⟩⟩));go_ret;exact ⟨rfl,ja (qa (Below.refl _ _) _) _⟩
  | true =>
   cases jk:(l0.any fun n=>!wm n 1 16) with
   | true =>
    rw [jk] at HF;go_enter Try.func89,Try.ntmps89;go_wp2_with (first|(go_at_call 58;refine (jm _ _ _ _).mono ?_;rintro e w1 ⟨rfl,⟨n,rfl⟩⟩)|(go_at_call 113;refine (HF.out _ (ja (qa (Below.refl _ _) _) _)).mono ?_;rintro e w1 ⟨rfl,hb⟩;have HB:=ia.mk (Oa (ja (qa (Below.refl _ _) _) _) hb);clear hb));go_ret;exact ⟨rfl,HB.out⟩
   | false =>
    rw [jk] at HF;go_enter Try.func89,Try.ntmps89;go_wp2_with (first|(go_at_call 58;(with_reducible refine (jm _ _ _ _).mono ?_);rintro e w1 ⟨rfl,⟨n,rfl⟩⟩)|(go_at_call 113;(with_reducible refine (HF.out _ (ja (qa (Below.refl _ _) _) _)).mono ?_);rintro e w1 ⟨rfl,hb⟩;have HB:=ia.mk (Oa (ja (qa (Below.refl _ _) _) _) hb);obtain ⟨KX,dW⟩:=xZ hb;have oQ:=hb.size;simp at oQ;clear hb)|(go_at_call 115;(with_reducible refine (xF _ _ _ _ _ _ _).mono ?_);rintro e w2 ⟨rfl,hb⟩;have Ns:=ia.mk (Oa (ja HB.out _) hb);clear hb))
    all_goals
     go_ret
     first
      | exact ⟨by simp [*],Ns.out⟩
      | exact ⟨by simp [*],ja HB.out _⟩
def Bh.f (Ta:List Int) (Ra:Int) (Qa:Int) (yI:List (Ez)):Option Bool:=if yI.length=0 then some (gz Ta Ra Qa) else none
theorem Bh.calls (Jb:Option Addr) (Ib:Nat) (Ta:List Int) (Ra:Int) (Qa:Int) (o7:Option Addr) (g6:Nat) (yI:List (Ez)) (r:Bool) (w:World) (pg:Kd.C (Kd.int .i64) w Jb Ta.length Ta) (kg:Ta.length ≤ Ib) (Far:Kd.C ban w o7 yI.length yI) (Wat:yI.length ≤ g6) (h:Bh.f Ta Ra Qa yI=some r) :
  Calls Try.prog 89 #[.agg #[.slice Jb Ta.length Ib,.int .i64 Ra,.int .i64 Qa,.slice o7 yI.length g6]] w fun e w'=>e = .returned (.bool r)∧Below w.heap.size w w':=by
 unfold Bh.f at h
 split at h
 ·rename_i h0;injection h with h
  subst h;rw [h0];exact PC Jb o7 Ib g6 Ta Ra Qa w pg kg
 ·cases h
theorem aac (d:Nat) (w:World) (x0 y0:Int) (x1 y1:Int) (x2 y2:Int) (x3 y3:Int) (x4 y4:Int) (x5 y5:Int) (x6 y6:ByteArray) :
  (Op.equalIn (d + 2) 70 (.agg #[.int .i64 x0,.int .i64 x1,.int .i64 x2,.int .i64 x3,.int .i64 x4,.int .i64 x5,.string x6]) (.agg #[.int .i64 y0,.int .i64 y1,.int .i64 y2,.int .i64 y3,.int .i64 y4,.int .i64 y5,.string y6])).run Try.prog w = .ok (x0 == y0 && (x1 == y1 && (x2 == y2 && (x3 == y3 && (x4 == y4 && (x5 == y5 && (x6.toList == y6.toList))))))) w:=by
 refine P4 Try.underlying70 (by kernel_rfl) ?_;refine Aq (by rfl) (by go_simp;rfl) (by go_simp;rfl) (by go_simp) ?_;refine Aq (by rfl) (by go_simp;rfl) (by go_simp;rfl) (by go_simp) ?_;refine Aq (by rfl) (by go_simp;rfl) (by go_simp;rfl) (by go_simp) ?_;refine Aq (by rfl) (by go_simp;rfl) (by go_simp;rfl) (by go_simp) ?_;refine Aq (by rfl) (by go_simp;rfl) (by go_simp;rfl) (by go_simp) ?_;refine Aq (by rfl) (by go_simp;rfl) (by go_simp;rfl) (by go_simp) ?_;exact qR (by rfl) (by go_simp;rfl) (by go_simp;rfl) (by go_simp)
attribute [local go_sem high] aac
def qI:List ByteArray:=[⟨#[61,61]⟩,⟨#[60]⟩,⟨#[38]⟩,⟨#[43]⟩,⟨#[45]⟩,⟨#[42]⟩]
def yw (s:ByteArray):Bool:=qI.any fun y=>decide (s.toList=y.toList)
theorem mO (s:ByteArray):Vn.f 8 s=some (yw s):=by
 unfold Vn.f Md.f Ob.f yw qI;simp only [Ob.l0,List.any_cons,List.any_nil]
 by_cases h0:s.toList=[61,61]
 ·simp [cm,h0]
 by_cases h1:s.toList=[60]
 ·simp [cm,h1,wrap64]
 by_cases h2:s.toList=[38]
 ·simp [cm,h2,wrap64]
 by_cases h3:s.toList=[43]
 ·simp [cm,h3,wrap64]
 by_cases h4:s.toList=[45]
 ·simp [cm,h4,wrap64]
 by_cases h5:s.toList=[42]
 ·simp [cm,h5,wrap64]
 simp [cm,h0,h1,h2,h3,h4,h5,wrap64]
theorem BI (s:ByteArray) (w:World):Calls Try.prog 136 #[.string s] w fun e w'=>e = .returned (.bool (yw s))∧Below w.heap.size w w':=Vn.calls 8 s (yw s) w (mO s)
def gm (slots s:Int):Bool:=decide (0 ≤ s) && decide (s < slots)
theorem Zk (B:Nat) (slots s:Int) (W:World) (gR:W.cell? ⟨B,3,none⟩=some (.int .i64 slots)):Calls Try.prog 135 #[.int .i64 s,.pointer (some ⟨B,0,none⟩)] W fun e w'=>e = .returned (.bool (gm slots s))∧W=w':=by
 unfold gm
 by_cases h:0 ≤ s
 all_goals
  go_enter Try.func135,Try.ntmps135;go_wp2;go_ret;exact ⟨by simp [*];try omega,rfl⟩
theorem tO (A0 A4:Option Addr) (c0 c4 n0 n4:Nat) (p1 p2 slots d a b c n:Int) (t:ByteArray) (w:World) (hn0:n0 ≤ 9223372036854775807) (jD:n4 ≤ 9223372036854775807) :
  Calls Try.prog 118 #[.agg #[.slice A0 n0 c0,.int .i64 p1,.int .i64 p2,.int .i64 slots,.slice A4 n4 c4],.agg #[.int .i64 0,.int .i64 d,.int .i64 a,.int .i64 b,.int .i64 c,.int .i64 n,.string t]] w fun e w'=>e = .returned (.bool (gm slots d && (a == 0 && (b == 0 && (c == 0 && t.toList.isEmpty)))))∧Below w.heap.size w w':=by
 obtain ⟨W1,Xg⟩:∃ W1,W1=(w.alloc (.cells #[.slice A0 n0 c0,.int .i64 p1,.int .i64 p2,.int .i64 slots,.slice A4 n4 c4] 30 (0,0))).alloc (.cells #[.int .i64 0,.int .i64 d,.int .i64 a,.int .i64 b,.int .i64 c,.int .i64 n,.string t] 70 (0,0)):=⟨_,rfl⟩;have HW:=ia.mk Xg;have HB:=ia.mk (show Below w.heap.size w W1 from by rw [Xg];exact qa (qa (Below.refl _ _) _) _);have hz:W1.heap.size=w.heap.size + 2:=by rw [Xg];simp
 have bU:W1.cell? ⟨w.heap.size,3,none⟩=some (.int .i64 slots):=by rw [Xg];simp
 have hx0:W1.cell? ⟨w.heap.size + 1,0,none⟩=some (.int .i64 0):=by rw [Xg];simp
 have hx1:W1.cell? ⟨w.heap.size + 1,1,none⟩=some (.int .i64 d):=by rw [Xg];simp
 have Lo:W1.cell? ⟨w.heap.size + 1,2,none⟩=some (.int .i64 a):=by rw [Xg];simp
 have Ko:W1.cell? ⟨w.heap.size + 1,3,none⟩=some (.int .i64 b):=by rw [Xg];simp
 have Jo:W1.cell? ⟨w.heap.size + 1,4,none⟩=some (.int .i64 c):=by rw [Xg];simp
 have Hv:W1.cell? ⟨w.heap.size + 1,5,none⟩=some (.int .i64 n):=by rw [Xg];simp
 have Gv:W1.cell? ⟨w.heap.size + 1,6,none⟩=some (.string t):=by rw [Xg];simp
 clear Xg;go_enter Try.func118,Try.ntmps118;go_wp2_with (first|(go_at_call 58;(with_reducible refine (jm _ _ _ _).mono ?_);rintro e w1 ⟨rfl,⟨k1,rfl⟩⟩));rw [← HW.out];clear HW
 go_region
 all_goals go_wp2_with (first|(go_at_call 135;(refine (Zk _ slots _ _ ?hc).mono ?_);(case hc=>first|(go_simp;done)|(go_simp;rfl));rintro e w1 ⟨rfl,rfl⟩))
 all_goals go_ret
 all_goals exact ⟨by (try clear KX dW oQ Ns);simp [*],by repeat (first|exact HB.out|(refine Oa ?_ Ns.out)|apply ja|apply ta|apply qa|refine ua ?_ (by first|omega|(simp;done)|(simp;omega)))⟩
theorem sO (A0 A4:Option Addr) (c0 c4 n0 n4:Nat) (p1 p2 slots d a b c n:Int) (t:ByteArray) (w:World) (hn0:n0 ≤ 9223372036854775807) (jD:n4 ≤ 9223372036854775807) :
  Calls Try.prog 118 #[.agg #[.slice A0 n0 c0,.int .i64 p1,.int .i64 p2,.int .i64 slots,.slice A4 n4 c4],.agg #[.int .i64 1,.int .i64 d,.int .i64 a,.int .i64 b,.int .i64 c,.int .i64 n,.string t]] w fun e w'=>e = .returned (.bool (gm slots d && gm slots a && (b == 0 && (c == 0 && (n == 0 && t.toList.isEmpty)))))∧Below w.heap.size w w':=by
 obtain ⟨W1,Xg⟩:∃ W1,W1=(w.alloc (.cells #[.slice A0 n0 c0,.int .i64 p1,.int .i64 p2,.int .i64 slots,.slice A4 n4 c4] 30 (0,0))).alloc (.cells #[.int .i64 1,.int .i64 d,.int .i64 a,.int .i64 b,.int .i64 c,.int .i64 n,.string t] 70 (0,0)):=⟨_,rfl⟩;have HW:=ia.mk Xg;have HB:=ia.mk (show Below w.heap.size w W1 from by rw [Xg];exact qa (qa (Below.refl _ _) _) _);have hz:W1.heap.size=w.heap.size + 2:=by rw [Xg];simp
 have bU:W1.cell? ⟨w.heap.size,3,none⟩=some (.int .i64 slots):=by rw [Xg];simp
 have hx0:W1.cell? ⟨w.heap.size + 1,0,none⟩=some (.int .i64 1):=by rw [Xg];simp
 have hx1:W1.cell? ⟨w.heap.size + 1,1,none⟩=some (.int .i64 d):=by rw [Xg];simp
 have Lo:W1.cell? ⟨w.heap.size + 1,2,none⟩=some (.int .i64 a):=by rw [Xg];simp
 have Ko:W1.cell? ⟨w.heap.size + 1,3,none⟩=some (.int .i64 b):=by rw [Xg];simp
 have Jo:W1.cell? ⟨w.heap.size + 1,4,none⟩=some (.int .i64 c):=by rw [Xg];simp
 have Hv:W1.cell? ⟨w.heap.size + 1,5,none⟩=some (.int .i64 n):=by rw [Xg];simp
 have Gv:W1.cell? ⟨w.heap.size + 1,6,none⟩=some (.string t):=by rw [Xg];simp
 clear Xg;go_enter Try.func118,Try.ntmps118;go_wp2_with (first|(go_at_call 58;(with_reducible refine (jm _ _ _ _).mono ?_);rintro e w1 ⟨rfl,⟨k1,rfl⟩⟩));rw [← HW.out];clear HW
 go_region
 all_goals go_wp2_with (first|(go_at_call 135;(refine (Zk _ slots _ _ ?hc).mono ?_);(case hc=>first|(go_simp;done)|(go_simp;rfl));rintro e w1 ⟨rfl,rfl⟩))
 all_goals go_ret
 all_goals exact ⟨by (try clear KX dW oQ Ns);simp [*],by repeat (first|exact HB.out|(refine Oa ?_ Ns.out)|apply ja|apply ta|apply qa|refine ua ?_ (by first|omega|(simp;done)|(simp;omega)))⟩
theorem rO (A0 A4:Option Addr) (c0 c4 n0 n4:Nat) (p1 p2 slots d a b c n:Int) (t:ByteArray) (w:World) (hn0:n0 ≤ 9223372036854775807) (jD:n4 ≤ 9223372036854775807) :
  Calls Try.prog 118 #[.agg #[.slice A0 n0 c0,.int .i64 p1,.int .i64 p2,.int .i64 slots,.slice A4 n4 c4],.agg #[.int .i64 2,.int .i64 d,.int .i64 a,.int .i64 b,.int .i64 c,.int .i64 n,.string t]] w fun e w'=>e = .returned (.bool (gm slots d && gm slots a && gm slots b && yw t && (c == 0 && n == 0)))∧Below w.heap.size w w':=by
 obtain ⟨W1,Xg⟩:∃ W1,W1=(w.alloc (.cells #[.slice A0 n0 c0,.int .i64 p1,.int .i64 p2,.int .i64 slots,.slice A4 n4 c4] 30 (0,0))).alloc (.cells #[.int .i64 2,.int .i64 d,.int .i64 a,.int .i64 b,.int .i64 c,.int .i64 n,.string t] 70 (0,0)):=⟨_,rfl⟩;have HW:=ia.mk Xg;have HB:=ia.mk (show Below w.heap.size w W1 from by rw [Xg];exact qa (qa (Below.refl _ _) _) _);have hz:W1.heap.size=w.heap.size + 2:=by rw [Xg];simp
 have bU:W1.cell? ⟨w.heap.size,3,none⟩=some (.int .i64 slots):=by rw [Xg];simp
 have hx0:W1.cell? ⟨w.heap.size + 1,0,none⟩=some (.int .i64 2):=by rw [Xg];simp
 have hx1:W1.cell? ⟨w.heap.size + 1,1,none⟩=some (.int .i64 d):=by rw [Xg];simp
 have Lo:W1.cell? ⟨w.heap.size + 1,2,none⟩=some (.int .i64 a):=by rw [Xg];simp
 have Ko:W1.cell? ⟨w.heap.size + 1,3,none⟩=some (.int .i64 b):=by rw [Xg];simp
 have Jo:W1.cell? ⟨w.heap.size + 1,4,none⟩=some (.int .i64 c):=by rw [Xg];simp
 have Hv:W1.cell? ⟨w.heap.size + 1,5,none⟩=some (.int .i64 n):=by rw [Xg];simp
 have Gv:W1.cell? ⟨w.heap.size + 1,6,none⟩=some (.string t):=by rw [Xg];simp
 clear Xg;go_enter Try.func118,Try.ntmps118;go_wp2_with (first|(go_at_call 58;(with_reducible refine (jm _ _ _ _).mono ?_);rintro e w1 ⟨rfl,⟨k1,rfl⟩⟩));rw [← HW.out];clear HW
 go_region
 all_goals go_wp2_with (first|(go_at_call 135;(refine (Zk _ slots _ _ ?hc).mono ?_);(case hc=>first|(go_simp;done)|(go_simp;rfl));rintro e w1 ⟨rfl,rfl⟩)|(go_at_call 136;(with_reducible refine (BI _ _).mono ?_);rintro e w2 ⟨rfl,jk⟩;have Ns:=ia.mk jk;obtain ⟨KX,dW⟩:=xZ jk;have oQ:=jk.size;simp at oQ;clear jk))
 all_goals go_ret
 all_goals exact ⟨by (try clear KX dW oQ Ns);simp [*],by repeat (first|exact HB.out|(refine Oa ?_ Ns.out)|apply ja|apply ta|apply qa|refine ua ?_ (by first|omega|(simp;done)|(simp;omega)))⟩
theorem qO (A0 A4:Option Addr) (c0 c4 n0 n4:Nat) (p1 p2 slots d a b c n:Int) (t:ByteArray) (w:World) (hn0:n0 ≤ 9223372036854775807) (jD:n4 ≤ 9223372036854775807) :
  Calls Try.prog 118 #[.agg #[.slice A0 n0 c0,.int .i64 p1,.int .i64 p2,.int .i64 slots,.slice A4 n4 c4],.agg #[.int .i64 3,.int .i64 d,.int .i64 a,.int .i64 b,.int .i64 c,.int .i64 n,.string t]] w fun e w'=>e = .returned (.bool (gm slots d && gm slots b && wm n 0 ((n0:Int) - 1) && (gm slots a || a == -1) && (c == 0 && t.toList.isEmpty)))∧Below w.heap.size w w':=by
 obtain ⟨W1,Xg⟩:∃ W1,W1=(w.alloc (.cells #[.slice A0 n0 c0,.int .i64 p1,.int .i64 p2,.int .i64 slots,.slice A4 n4 c4] 30 (0,0))).alloc (.cells #[.int .i64 3,.int .i64 d,.int .i64 a,.int .i64 b,.int .i64 c,.int .i64 n,.string t] 70 (0,0)):=⟨_,rfl⟩;have HW:=ia.mk Xg;have HB:=ia.mk (show Below w.heap.size w W1 from by rw [Xg];exact qa (qa (Below.refl _ _) _) _);have hz:W1.heap.size=w.heap.size + 2:=by rw [Xg];simp
 have bU:W1.cell? ⟨w.heap.size,3,none⟩=some (.int .i64 slots):=by rw [Xg];simp
 have hx0:W1.cell? ⟨w.heap.size + 1,0,none⟩=some (.int .i64 3):=by rw [Xg];simp
 have hx1:W1.cell? ⟨w.heap.size + 1,1,none⟩=some (.int .i64 d):=by rw [Xg];simp
 have Lo:W1.cell? ⟨w.heap.size + 1,2,none⟩=some (.int .i64 a):=by rw [Xg];simp
 have Ko:W1.cell? ⟨w.heap.size + 1,3,none⟩=some (.int .i64 b):=by rw [Xg];simp
 have Jo:W1.cell? ⟨w.heap.size + 1,4,none⟩=some (.int .i64 c):=by rw [Xg];simp
 have Hv:W1.cell? ⟨w.heap.size + 1,5,none⟩=some (.int .i64 n):=by rw [Xg];simp
 have Gv:W1.cell? ⟨w.heap.size + 1,6,none⟩=some (.string t):=by rw [Xg];simp
 clear Xg;go_enter Try.func118,Try.ntmps118;go_wp2_with (first|(go_at_call 58;(with_reducible refine (jm _ _ _ _).mono ?_);rintro e w1 ⟨rfl,⟨k1,rfl⟩⟩));rw [← HW.out];clear HW
 go_region
 all_goals go_wp2_with (first|(go_at_call 135;(refine (Zk _ slots _ _ ?hc).mono ?_);(case hc=>first|(go_simp;done)|(go_simp;rfl));rintro e w1 ⟨rfl,rfl⟩))
 all_goals go_ret
 all_goals exact ⟨by (try clear KX dW oQ Ns);simp [*],by repeat (first|exact HB.out|(refine Oa ?_ Ns.out)|apply ja|apply ta|apply qa|refine ua ?_ (by first|omega|(simp;done)|(simp;omega)))⟩
theorem pO (A0 A4:Option Addr) (c0 c4 n0 n4:Nat) (p1 p2 slots d a b c n:Int) (t:ByteArray) (w:World) (hn0:n0 ≤ 9223372036854775807) (jD:n4 ≤ 9223372036854775807) :
  Calls Try.prog 118 #[.agg #[.slice A0 n0 c0,.int .i64 p1,.int .i64 p2,.int .i64 slots,.slice A4 n4 c4],.agg #[.int .i64 4,.int .i64 d,.int .i64 a,.int .i64 b,.int .i64 c,.int .i64 n,.string t]] w fun e w'=>e = .returned (.bool (gm slots c && gm slots b && wm n 0 ((n0:Int) - 1) && (gm slots a || a == -1) && (d == 0 && t.toList.isEmpty)))∧Below w.heap.size w w':=by
 obtain ⟨W1,Xg⟩:∃ W1,W1=(w.alloc (.cells #[.slice A0 n0 c0,.int .i64 p1,.int .i64 p2,.int .i64 slots,.slice A4 n4 c4] 30 (0,0))).alloc (.cells #[.int .i64 4,.int .i64 d,.int .i64 a,.int .i64 b,.int .i64 c,.int .i64 n,.string t] 70 (0,0)):=⟨_,rfl⟩;have HW:=ia.mk Xg;have HB:=ia.mk (show Below w.heap.size w W1 from by rw [Xg];exact qa (qa (Below.refl _ _) _) _);have hz:W1.heap.size=w.heap.size + 2:=by rw [Xg];simp
 have bU:W1.cell? ⟨w.heap.size,3,none⟩=some (.int .i64 slots):=by rw [Xg];simp
 have hx0:W1.cell? ⟨w.heap.size + 1,0,none⟩=some (.int .i64 4):=by rw [Xg];simp
 have hx1:W1.cell? ⟨w.heap.size + 1,1,none⟩=some (.int .i64 d):=by rw [Xg];simp
 have Lo:W1.cell? ⟨w.heap.size + 1,2,none⟩=some (.int .i64 a):=by rw [Xg];simp
 have Ko:W1.cell? ⟨w.heap.size + 1,3,none⟩=some (.int .i64 b):=by rw [Xg];simp
 have Jo:W1.cell? ⟨w.heap.size + 1,4,none⟩=some (.int .i64 c):=by rw [Xg];simp
 have Hv:W1.cell? ⟨w.heap.size + 1,5,none⟩=some (.int .i64 n):=by rw [Xg];simp
 have Gv:W1.cell? ⟨w.heap.size + 1,6,none⟩=some (.string t):=by rw [Xg];simp
 clear Xg;go_enter Try.func118,Try.ntmps118;go_wp2_with (first|(go_at_call 58;(with_reducible refine (jm _ _ _ _).mono ?_);rintro e w1 ⟨rfl,⟨k1,rfl⟩⟩));rw [← HW.out];clear HW
 go_region
 all_goals go_wp2_with (first|(go_at_call 135;(refine (Zk _ slots _ _ ?hc).mono ?_);(case hc=>first|(go_simp;done)|(go_simp;rfl));rintro e w1 ⟨rfl,rfl⟩))
 all_goals go_ret
 all_goals exact ⟨by (try clear KX dW oQ Ns);simp [*],by repeat (first|exact HB.out|(refine Oa ?_ Ns.out)|apply ja|apply ta|apply qa|refine ua ?_ (by first|omega|(simp;done)|(simp;omega)))⟩
theorem oO (A0 A4:Option Addr) (c0 c4 n0 n4:Nat) (p1 p2 slots d a b c n:Int) (t:ByteArray) (w:World) (hn0:n0 ≤ 9223372036854775807) (jD:n4 ≤ 9223372036854775807) :
  Calls Try.prog 118 #[.agg #[.slice A0 n0 c0,.int .i64 p1,.int .i64 p2,.int .i64 slots,.slice A4 n4 c4],.agg #[.int .i64 5,.int .i64 d,.int .i64 a,.int .i64 b,.int .i64 c,.int .i64 n,.string t]] w fun e w'=>e = .returned (.bool (gm slots d && (a == 0 && (b == 0 && (c == 0 && (n == 0 && t.toList.isEmpty))))))∧Below w.heap.size w w':=by
 obtain ⟨W1,Xg⟩:∃ W1,W1=(w.alloc (.cells #[.slice A0 n0 c0,.int .i64 p1,.int .i64 p2,.int .i64 slots,.slice A4 n4 c4] 30 (0,0))).alloc (.cells #[.int .i64 5,.int .i64 d,.int .i64 a,.int .i64 b,.int .i64 c,.int .i64 n,.string t] 70 (0,0)):=⟨_,rfl⟩;have HW:=ia.mk Xg;have HB:=ia.mk (show Below w.heap.size w W1 from by rw [Xg];exact qa (qa (Below.refl _ _) _) _);have hz:W1.heap.size=w.heap.size + 2:=by rw [Xg];simp
 have bU:W1.cell? ⟨w.heap.size,3,none⟩=some (.int .i64 slots):=by rw [Xg];simp
 have hx0:W1.cell? ⟨w.heap.size + 1,0,none⟩=some (.int .i64 5):=by rw [Xg];simp
 have hx1:W1.cell? ⟨w.heap.size + 1,1,none⟩=some (.int .i64 d):=by rw [Xg];simp
 have Lo:W1.cell? ⟨w.heap.size + 1,2,none⟩=some (.int .i64 a):=by rw [Xg];simp
 have Ko:W1.cell? ⟨w.heap.size + 1,3,none⟩=some (.int .i64 b):=by rw [Xg];simp
 have Jo:W1.cell? ⟨w.heap.size + 1,4,none⟩=some (.int .i64 c):=by rw [Xg];simp
 have Hv:W1.cell? ⟨w.heap.size + 1,5,none⟩=some (.int .i64 n):=by rw [Xg];simp
 have Gv:W1.cell? ⟨w.heap.size + 1,6,none⟩=some (.string t):=by rw [Xg];simp
 clear Xg;go_enter Try.func118,Try.ntmps118;go_wp2_with (first|(go_at_call 58;(with_reducible refine (jm _ _ _ _).mono ?_);rintro e w1 ⟨rfl,⟨k1,rfl⟩⟩));rw [← HW.out];clear HW
 go_region
 all_goals go_wp2_with (first|(go_at_call 135;(refine (Zk _ slots _ _ ?hc).mono ?_);(case hc=>first|(go_simp;done)|(go_simp;rfl));rintro e w1 ⟨rfl,rfl⟩))
 all_goals go_ret
 all_goals exact ⟨by (try clear KX dW oQ Ns);simp [*],by repeat (first|exact HB.out|(refine Oa ?_ Ns.out)|apply ja|apply ta|apply qa|refine ua ?_ (by first|omega|(simp;done)|(simp;omega)))⟩
theorem nO (A0 A4:Option Addr) (c0 c4 n0 n4:Nat) (p1 p2 slots d a b c n:Int) (t:ByteArray) (w:World) (hn0:n0 ≤ 9223372036854775807) (jD:n4 ≤ 9223372036854775807) :
  Calls Try.prog 118 #[.agg #[.slice A0 n0 c0,.int .i64 p1,.int .i64 p2,.int .i64 slots,.slice A4 n4 c4],.agg #[.int .i64 6,.int .i64 d,.int .i64 a,.int .i64 b,.int .i64 c,.int .i64 n,.string t]] w fun e w'=>e = .returned (.bool (gm slots a && (d == 0 && (b == 0 && (c == 0 && (n == 0 && t.toList.isEmpty))))))∧Below w.heap.size w w':=by
 obtain ⟨W1,Xg⟩:∃ W1,W1=(w.alloc (.cells #[.slice A0 n0 c0,.int .i64 p1,.int .i64 p2,.int .i64 slots,.slice A4 n4 c4] 30 (0,0))).alloc (.cells #[.int .i64 6,.int .i64 d,.int .i64 a,.int .i64 b,.int .i64 c,.int .i64 n,.string t] 70 (0,0)):=⟨_,rfl⟩;have HW:=ia.mk Xg;have HB:=ia.mk (show Below w.heap.size w W1 from by rw [Xg];exact qa (qa (Below.refl _ _) _) _);have hz:W1.heap.size=w.heap.size + 2:=by rw [Xg];simp
 have bU:W1.cell? ⟨w.heap.size,3,none⟩=some (.int .i64 slots):=by rw [Xg];simp
 have hx0:W1.cell? ⟨w.heap.size + 1,0,none⟩=some (.int .i64 6):=by rw [Xg];simp
 have hx1:W1.cell? ⟨w.heap.size + 1,1,none⟩=some (.int .i64 d):=by rw [Xg];simp
 have Lo:W1.cell? ⟨w.heap.size + 1,2,none⟩=some (.int .i64 a):=by rw [Xg];simp
 have Ko:W1.cell? ⟨w.heap.size + 1,3,none⟩=some (.int .i64 b):=by rw [Xg];simp
 have Jo:W1.cell? ⟨w.heap.size + 1,4,none⟩=some (.int .i64 c):=by rw [Xg];simp
 have Hv:W1.cell? ⟨w.heap.size + 1,5,none⟩=some (.int .i64 n):=by rw [Xg];simp
 have Gv:W1.cell? ⟨w.heap.size + 1,6,none⟩=some (.string t):=by rw [Xg];simp
 clear Xg;go_enter Try.func118,Try.ntmps118;go_wp2_with (first|(go_at_call 58;(with_reducible refine (jm _ _ _ _).mono ?_);rintro e w1 ⟨rfl,⟨k1,rfl⟩⟩));rw [← HW.out];clear HW
 go_region
 all_goals go_wp2_with (first|(go_at_call 135;(refine (Zk _ slots _ _ ?hc).mono ?_);(case hc=>first|(go_simp;done)|(go_simp;rfl));rintro e w1 ⟨rfl,rfl⟩))
 all_goals go_ret
 all_goals exact ⟨by (try clear KX dW oQ Ns);simp [*],by repeat (first|exact HB.out|(refine Oa ?_ Ns.out)|apply ja|apply ta|apply qa|refine ua ?_ (by first|omega|(simp;done)|(simp;omega)))⟩
theorem CI (A0 A4:Option Addr) (c0 c4 n0 n4:Nat) (p1 p2 slots d a b c n:Int) (t:ByteArray) (w:World) (hn0:n0 ≤ 9223372036854775807) (jD:n4 ≤ 9223372036854775807) (o:Int) (h0:(o == 0)=false) (h1:(o == 1)=false) (h2:(o == 2)=false) (h3:(o == 3)=false) (h4:(o == 4)=false) (h5:(o == 5)=false) (h6:(o == 6)=false) :
  Calls Try.prog 118 #[.agg #[.slice A0 n0 c0,.int .i64 p1,.int .i64 p2,.int .i64 slots,.slice A4 n4 c4],.agg #[.int .i64 o,.int .i64 d,.int .i64 a,.int .i64 b,.int .i64 c,.int .i64 n,.string t]] w fun e w'=>e = .returned (.bool (false))∧Below w.heap.size w w':=by
 obtain ⟨W1,Xg⟩:∃ W1,W1=(w.alloc (.cells #[.slice A0 n0 c0,.int .i64 p1,.int .i64 p2,.int .i64 slots,.slice A4 n4 c4] 30 (0,0))).alloc (.cells #[.int .i64 o,.int .i64 d,.int .i64 a,.int .i64 b,.int .i64 c,.int .i64 n,.string t] 70 (0,0)):=⟨_,rfl⟩;have HW:=ia.mk Xg;have HB:=ia.mk (show Below w.heap.size w W1 from by rw [Xg];exact qa (qa (Below.refl _ _) _) _);have hz:W1.heap.size=w.heap.size + 2:=by rw [Xg];simp
 have bU:W1.cell? ⟨w.heap.size,3,none⟩=some (.int .i64 slots):=by rw [Xg];simp
 have hx0:W1.cell? ⟨w.heap.size + 1,0,none⟩=some (.int .i64 o):=by rw [Xg];simp
 have hx1:W1.cell? ⟨w.heap.size + 1,1,none⟩=some (.int .i64 d):=by rw [Xg];simp
 have Lo:W1.cell? ⟨w.heap.size + 1,2,none⟩=some (.int .i64 a):=by rw [Xg];simp
 have Ko:W1.cell? ⟨w.heap.size + 1,3,none⟩=some (.int .i64 b):=by rw [Xg];simp
 have Jo:W1.cell? ⟨w.heap.size + 1,4,none⟩=some (.int .i64 c):=by rw [Xg];simp
 have Hv:W1.cell? ⟨w.heap.size + 1,5,none⟩=some (.int .i64 n):=by rw [Xg];simp
 have Gv:W1.cell? ⟨w.heap.size + 1,6,none⟩=some (.string t):=by rw [Xg];simp
 clear Xg;go_enter Try.func118,Try.ntmps118;go_wp2_with (first|(go_at_call 58;(with_reducible refine (jm _ _ _ _).mono ?_);rintro e w1 ⟨rfl,⟨k1,rfl⟩⟩));rw [← HW.out];clear HW
 go_region
 all_goals go_wp2_with (first|(go_at_call 135;(refine (Zk _ slots _ _ ?hc).mono ?_);(case hc=>first|(go_simp;done)|(go_simp;rfl));rintro e w1 ⟨rfl,rfl⟩))
 all_goals go_ret
 all_goals exact ⟨by (try clear KX dW oQ Ns);simp [*],by repeat (first|exact HB.out|(refine Oa ?_ Ns.out)|apply ja|apply ta|apply qa|refine ua ?_ (by first|omega|(simp;done)|(simp;omega)))⟩
def Km (n0:Nat) (slots:Int) (o d a b c n:Int) (t:ByteArray):Bool :=
 if o=0 then gm slots d && (a == 0 && (b == 0 && (c == 0 && t.toList.isEmpty)))
 else if o=1 then gm slots d && gm slots a && (b == 0 && (c == 0 && (n == 0 && t.toList.isEmpty)))
 else if o=2 then gm slots d && gm slots a && gm slots b && yw t && (c == 0 && n == 0)
 else if o=3 then gm slots d && gm slots b && wm n 0 ((n0:Int) - 1) && (gm slots a || a == -1) && (c == 0 && t.toList.isEmpty)
 else if o=4 then gm slots c && gm slots b && wm n 0 ((n0:Int) - 1) && (gm slots a || a == -1) && (d == 0 && t.toList.isEmpty)
 else if o=5 then gm slots d && (a == 0 && (b == 0 && (c == 0 && (n == 0 && t.toList.isEmpty))))
 else if o=6 then gm slots a && (d == 0 && (b == 0 && (c == 0 && (n == 0 && t.toList.isEmpty))))
 else false
theorem AG (A0 A4:Option Addr) (c0 c4 n0 n4:Nat) (p1 p2 slots:Int) (w:World) (hn0:n0 ≤ 9223372036854775807) (jD:n4 ≤ 9223372036854775807) (o d a b c n:Int) (t:ByteArray) :
  Calls Try.prog 118 #[.agg #[.slice A0 n0 c0,.int .i64 p1,.int .i64 p2,.int .i64 slots,.slice A4 n4 c4],.agg #[.int .i64 o,.int .i64 d,.int .i64 a,.int .i64 b,.int .i64 c,.int .i64 n,.string t]] w fun e w'=>e = .returned (.bool (Km n0 slots o d a b c n t))∧Below w.heap.size w w':=by
 unfold Km
 by_cases h0:o=0
 ·rw [if_pos h0,h0];exact tO A0 A4 c0 c4 n0 n4 p1 p2 slots d a b c n t w hn0 jD
 rw [if_neg h0]
 by_cases h1:o=1
 ·rw [if_pos h1,h1];exact sO A0 A4 c0 c4 n0 n4 p1 p2 slots d a b c n t w hn0 jD
 rw [if_neg h1]
 by_cases h2:o=2
 ·rw [if_pos h2,h2];exact rO A0 A4 c0 c4 n0 n4 p1 p2 slots d a b c n t w hn0 jD
 rw [if_neg h2]
 by_cases h3:o=3
 ·rw [if_pos h3,h3];exact qO A0 A4 c0 c4 n0 n4 p1 p2 slots d a b c n t w hn0 jD
 rw [if_neg h3]
 by_cases h4:o=4
 ·rw [if_pos h4,h4];exact pO A0 A4 c0 c4 n0 n4 p1 p2 slots d a b c n t w hn0 jD
 rw [if_neg h4]
 by_cases h5:o=5
 ·rw [if_pos h5,h5];exact oO A0 A4 c0 c4 n0 n4 p1 p2 slots d a b c n t w hn0 jD
 rw [if_neg h5]
 by_cases h6:o=6
 ·rw [if_pos h6,h6];exact nO A0 A4 c0 c4 n0 n4 p1 p2 slots d a b c n t w hn0 jD
 rw [if_neg h6];exact CI A0 A4 c0 c4 n0 n4 p1 p2 slots d a b c n t w hn0 jD o (beq_eq_false_iff_ne.mpr h0) (beq_eq_false_iff_ne.mpr h1) (beq_eq_false_iff_ne.mpr h2) (beq_eq_false_iff_ne.mpr h3) (beq_eq_false_iff_ne.mpr h4) (beq_eq_false_iff_ne.mpr h5) (beq_eq_false_iff_ne.mpr h6)
def El (n0:Nat) (slots:Int) (x:Nd):Bool:=Km n0 slots x.f0 x.f1 x.f2 x.f3 x.f4 x.f5 x.f6
def Zl (n0:Nat) (slots:Int) (n4:Nat) (code:List Nd) (j a tg els:Int):Bool :=
 !(code.any fun x=>!El n0 slots x) && decide (0 ≤ slots) &&
  (if j=0 then wm tg 0 ((n4:Int) - 1) && a == 0 && els == 0
   else if j=1 then wm tg 0 ((n4:Int) - 1) && wm els 0 ((n4:Int) - 1) && gm slots a
   else if j=2 then gm slots a && tg == 0 && els == 0
   else false)
theorem uO (B:Nat) (A0 A4:Option Addr) (c0 c4 n0 n4:Nat) (p1 p2 slots:Int) (hn0:n0 ≤ 9223372036854775807) (jD:n4 ≤ 9223372036854775807) (W:World) (x:Nd)
  (hb0:W.cell? ⟨B,0,none⟩=some (.slice A0 n0 c0)) (Hy:W.cell? ⟨B,1,none⟩=some (.int .i64 p1)) (jk:W.cell? ⟨B,2,none⟩=some (.int .i64 p2)) (gR:W.cell? ⟨B,3,none⟩=some (.int .i64 slots)) (CO:W.cell? ⟨B,4,none⟩=some (.slice A4 n4 c4)) (hB:B < W.heap.size) :
  Calls Try.prog 117 #[.agg #[.int .i64 x.f0,.int .i64 x.f1,.int .i64 x.f2,.int .i64 x.f3,.int .i64 x.f4,.int .i64 x.f5,.string x.f6],.pointer (some ⟨B,0,none⟩)] W
   fun e w'=>e = .returned (.bool (!El n0 slots x))∧Below W.heap.size W w':=by
 have hne:B ≠ W.heap.size:=by omega
 unfold El;have HC:=ia.mk (fun W'=>AG A0 A4 c0 c4 n0 n4 p1 p2 slots W' hn0 jD x.f0 x.f1 x.f2 x.f3 x.f4 x.f5 x.f6);generalize Km n0 slots x.f0 x.f1 x.f2 x.f3 x.f4 x.f5 x.f6=b at HC ⊢;go_enter Try.func117,Try.ntmps117;go_wp2_with (go_at_call 118;(with_reducible refine (HC.out _).mono ?_);rintro e w1 ⟨rfl,hb⟩;have HD:=ia.mk (Oa (qa (Below.refl _ _) _) hb);clear hb);go_ret;exact ⟨rfl,HD.out⟩
theorem BG (A0 A4 A5:Option Addr) (c0 c4 c5 n0 n4:Nat) (p1 p2 slots:Int) (l5:List Nd) (j a tg els:Int) (w:World) (hn0:n0 ≤ 9223372036854775807) (jD:n4 ≤ 9223372036854775807) (M8:Kd.C uh w A5 l5.length l5) (hc5:l5.length ≤ c5) :
  Calls Try.prog 90 #[.agg #[.slice A0 n0 c0,.int .i64 p1,.int .i64 p2,.int .i64 slots,.slice A4 n4 c4],.agg #[.slice A5 l5.length c5,.int .i64 j,.int .i64 a,.int .i64 tg,.int .i64 els]] w fun e w'=>e = .returned (.bool (Zl n0 slots n4 l5 j a tg els))∧Below w.heap.size w w':=by
 have eg:=enters_of Try.func117 (by kernel_rfl) rfl;have hm5:=M8.2.1;obtain ⟨W1,Xg⟩:∃ W1,W1=(w.alloc (.cells #[.slice A0 n0 c0,.int .i64 p1,.int .i64 p2,.int .i64 slots,.slice A4 n4 c4] 30 (0,0))).alloc (.cells #[.slice A5 l5.length c5,.int .i64 j,.int .i64 a,.int .i64 tg,.int .i64 els] 68 (0,0)):=⟨_,rfl⟩;have HW:=ia.mk Xg;have hB1:Below w.heap.size w W1:=by rw [Xg];exact qa (qa (Below.refl _ _) _) _
 have hz:W1.heap.size=w.heap.size + 2:=by rw [Xg];simp
 have JQ:W1.cell? ⟨w.heap.size,0,none⟩=some (.slice A0 n0 c0):=by rw [Xg];simp
 have bI:W1.cell? ⟨w.heap.size,1,none⟩=some (.int .i64 p1):=by rw [Xg];simp
 have nP:W1.cell? ⟨w.heap.size,2,none⟩=some (.int .i64 p2):=by rw [Xg];simp
 have MI:W1.cell? ⟨w.heap.size,3,none⟩=some (.int .i64 slots):=by rw [Xg];simp
 have LI:W1.cell? ⟨w.heap.size,4,none⟩=some (.slice A4 n4 c4):=by rw [Xg];simp
 have hx0:W1.cell? ⟨w.heap.size + 1,0,none⟩=some (.slice A5 l5.length c5):=by rw [Xg];simp
 have hx1:W1.cell? ⟨w.heap.size + 1,1,none⟩=some (.int .i64 j):=by rw [Xg];simp
 have Lo:W1.cell? ⟨w.heap.size + 1,2,none⟩=some (.int .i64 a):=by rw [Xg];simp
 have Ko:W1.cell? ⟨w.heap.size + 1,3,none⟩=some (.int .i64 tg):=by rw [Xg];simp
 have Jo:W1.cell? ⟨w.heap.size + 1,4,none⟩=some (.int .i64 els):=by rw [Xg];simp
 have GI:=Kd.ec M8 hB1;clear Xg M8
 have HF:=ia.mk (Vv 117 #[.pointer (some ⟨w.heap.size,0,none⟩)] (fun x=>!El n0 slots x) eg A5 c5 l5 W1 GI hc5
  (fun W2 x hb'=>uO w.heap.size A0 A4 c0 c4 n0 n4 p1 p2 slots hn0 jD W2 x ((hb'.cell (p:=⟨w.heap.size,0,none⟩) (by simp;omega)).trans JQ) ((hb'.cell (p:=⟨w.heap.size,1,none⟩) (by simp;omega)).trans bI) ((hb'.cell (p:=⟨w.heap.size,2,none⟩) (by simp;omega)).trans nP) ((hb'.cell (p:=⟨w.heap.size,3,none⟩) (by simp;omega)).trans MI) ((hb'.cell (p:=⟨w.heap.size,4,none⟩) (by simp;omega)).trans LI) (Nat.lt_of_lt_of_le (by omega) hb'.size)))
 have HB:=ia.mk hB1;clear GI hB1 eg;unfold Zl;cases hq:l5.any (fun x=>!El n0 slots x) with
 | true =>
  rw [hq] at HF;go_enter Try.func90,Try.ntmps90
  go_upto_region 1 with (fail)
  rw [← HW.out];clear HW;go_wp2_with (first|(go_at_call 116;(with_reducible refine HF.out.mono ?_);rintro e w2 ⟨rfl,jk⟩;have Ns:=ia.mk jk;clear jk))
  all_goals
   go_ret;exact ⟨by simp,Oa HB.out Ns.out⟩
 | false =>
  rw [hq] at HF;cases ha0:decide (0 ≤ a)
  all_goals
   go_enter Try.func90,Try.ntmps90
   go_upto_region 1 with (fail)
   rw [← HW.out];clear HW
   go_upto_region 3 with (first|(go_at_call 116;(with_reducible refine HF.out.mono ?_);rintro e w2 ⟨rfl,jk⟩;replace MI:=(jk.cell (World.block_lt_of_cell? W1 _ MI)).trans MI;replace LI:=(jk.cell (World.block_lt_of_cell? W1 _ LI)).trans LI;replace hx1:=(jk.cell (World.block_lt_of_cell? W1 _ hx1)).trans hx1;replace Lo:=(jk.cell (World.block_lt_of_cell? W1 _ Lo)).trans Lo;replace Ko:=(jk.cell (World.block_lt_of_cell? W1 _ Ko)).trans Ko;replace Jo:=(jk.cell (World.block_lt_of_cell? W1 _ Jo)).trans Jo;have Ns:=ia.mk (Oa HB.out jk);clear jk HB JQ bI nP hx0))
   go_quiet ((go_at_call 58;exact Calls.quiet_of ((jm _ _ _ _).mono fun _ _ ⟨he,hm⟩=>⟨he,hm.out⟩)))
   go_wp2
   all_goals go_ret
   all_goals exact ⟨by first|(simp [gm, *];done)|(simp [gm, *];intros;omega)|(clear HF MI LI hx1 Lo Ko Jo;simp_all [gm];done)|(clear HF MI LI hx1 Lo Ko Jo;simp_all [gm];omega),by repeat (first|exact Ns.out|apply ja)⟩
def Gj.f (Ta:List Int) (Ra:Int) (Qa:Int) (Pa:Int) (La:List (Vf)) (Ed:List (Nd)) (jc:Int) (Yb:Int) (Zb:Int) (Pc:Int):Option Bool:=some (Zl Ta.length Pa La.length Ed jc Yb Zb Pc)
theorem Gj.calls (Jb:Option Addr) (Ib:Nat) (Ta:List Int) (Ra:Int) (Qa:Int) (Pa:Int) (nc:Option Addr) (dc:Nat) (La:List (Vf)) (xg:Option Addr) (ig:Nat) (Ed:List (Nd)) (jc:Int) (Yb:Int) (Zb:Int) (Pc:Int) (r:Bool) (w:World) (pg:Kd.C (Kd.int .i64) w Jb Ta.length Ta) (kg:Ta.length ≤ Ib) (wh:Kd.C dm w nc La.length La) (qh:La.length ≤ dc) (Iv:Kd.C uh w xg Ed.length Ed) (Lv:Ed.length ≤ ig) (h:Gj.f Ta Ra Qa Pa La Ed jc Yb Zb Pc=some r) :
  Calls Try.prog 90 #[.agg #[.slice Jb Ta.length Ib,.int .i64 Ra,.int .i64 Qa,.int .i64 Pa,.slice nc La.length dc],.agg #[.slice xg Ed.length ig,.int .i64 jc,.int .i64 Yb,.int .i64 Zb,.int .i64 Pc]] w fun e w'=>e = .returned (.bool r)∧Below w.heap.size w w':=by
 injection h with h
 subst h;exact BG Jb nc xg Ib dc ig Ta.length La.length Ra Qa Pa Ed jc Yb Zb Pc w pg.2.1 wh.2.1 Iv Lv
mutual
def Jc.j0:Nat→Bool→List Int→Int→Int→Int→List (Vf)→Option (Bool)
 | 0,_,_,_,_,_,_=>none
 | k + 1,x29,kf,yf,ef,bf,Ud=>if x29=true then (some false) else (Jc.l0 k 0 Ud (Ud.length:Int) 0 kf yf ef bf Ud)
def Jc.l0:Nat→Int→List (Vf)→Int→Int→List Int→Int→Int→Int→List (Vf)→Option (Bool)
 | 0,_,_,_,_,_,_,_,_,_=>none
 | k + 1,x3,qY,x32,XT,kf,yf,ef,bf,Ud=>if XT < x32 then (if 0 ≤ XT then (if XT < (qY.length:Int) then ((Gj.f kf yf ef bf Ud ((Ia qY XT).f0) ((Ia qY XT).f1) ((Ia qY XT).f2) ((Ia qY XT).f3) ((Ia qY XT).f4)).bind fun t107=>(if t107=true then (Jc.l0 k (wrap64 (x3 + (((Ia qY XT).f0).length:Int))) qY x32 (wrap64 (XT + 1)) kf yf ef bf Ud) else (some false))) else (none)) else (none)) else (some (decide (x3 ≤ 1000)))
end
def Jc.f (k:Nat) (Ta:List Int) (Ra:Int) (Qa:Int) (Pa:Int) (La:List (Vf)):Option (Bool):=(Bh.f Ta Ra Qa ([]:List (Ez))).bind fun t102=>(if t102=true then ((ni.f Pa Qa 1000).bind fun t103=>(if t103=true then ((ni.f (La.length:Int) 1 300).bind fun t104=>(Jc.j0 k (!t104) Ta Ra Qa Pa La)) else (Jc.j0 k true Ta Ra Qa Pa La))) else (Jc.j0 k true Ta Ra Qa Pa La))
theorem Jc.calls (k:Nat) (Jb:Option Addr) (Ib:Nat) (Ta:List Int) (Ra:Int) (Qa:Int) (Pa:Int) (nc:Option Addr) (dc:Nat) (La:List (Vf)) (r:Bool) (w:World) (pg:Kd.C (Kd.int .i64) w Jb Ta.length Ta) (kg:Ta.length ≤ Ib) (wh:Kd.C dm w nc La.length La) (qh:La.length ≤ dc) (h:Jc.f k Ta Ra Qa Pa La=some r) :
  Calls Try.prog 57 #[.agg #[.slice Jb Ta.length Ib,.int .i64 Ra,.int .i64 Qa,.int .i64 Pa,.slice nc La.length dc]] w fun e w'=>e = .returned (.bool r)∧Below w.heap.size w w':=by
 have UD:=Try.underlying30;have Ear:=Try.underlying124;have RG:=Try.underlying68;have qg:=ia.mk pg;have Jg:=ia.mk kg;clear pg kg;have Qh:=ia.mk wh;have Bj:=ia.mk qh;clear wh qh;have HB:=ia.mk (Below.refl w.heap.size w);have H:((Bh.f Ta Ra Qa ([]:List (Ez))).bind fun t102=>(if t102=true then ((ni.f Pa Qa 1000).bind fun t103=>(if t103=true then ((ni.f (La.length:Int) 1 300).bind fun t104=>(Jc.j0 k (!t104) Ta Ra Qa Pa La)) else (Jc.j0 k true Ta Ra Qa Pa La))) else (Jc.j0 k true Ta Ra Qa Pa La)))=some r:=h;clear h;have N7:=ia.mk H;clear H;go_enter Try.func57,Try.ntmps57
 go_upto_region 1 with (first|((with_reducible refine Tb (N:=1) rfl ?_);(try (refine Zj (by rfl) ?_;dsimp only));refine Sb ?hg (N:=1) ?hd (cs:=#[.slice Jb Ta.length Ib,.int .i64 Ra,.int .i64 Qa,.int .i64 Pa,.slice nc La.length dc]) (t:=30) ?hr ?_;(case hd=>rfl);(case hg=>rfl);(case hr=>first|(go_simp;done)|(go_simp;rfl));intro Fa hg w3 ic hb;have Ub:=ia.mk (Oa (by repeat (first|(with_reducible first|exact HB.out|apply qa|apply ja|apply ta)|exact HB.out)) hb);have fc:=ia.mk (ic);have Fc:=ia.mk ((by rw [hg];exact (Ma (by repeat (first|(with_reducible first|exact HB.out|apply qa|apply ja|apply ta)|exact HB.out))):w.heap.size ≤ Fa));have Xc:=ia.mk ((by rw [hg];exact (Ma (by repeat (first|(with_reducible first|exact HB.out|apply qa|apply ja|apply ta)|exact HB.out))):w.heap.size ≤ Fa));clear HB;have HB:=Ub;have ya:=fc;have Kg:=Fc;have Wa:=Xc;clear Ub fc Fc Xc hb ic hg))
 (try simp only [Act.put,List.setIfInBounds_toArray,List.set_cons_zero,List.set_cons_succ])
 go_cut [29] (fun v29 wc=>∃ (kq:Nat) (iK:Bool),v29 = .bool iK∧ia (Jc.j0 kq iK Ta Ra Qa Pa La=some r)∧ia (kq ≤ k)∧ia (wc.heap[Fa]? = some (.cells #[(.slice Jb Ta.length Ib),.int .i64 Ra,.int .i64 Qa,.int .i64 Pa,(.slice nc La.length dc)] 30 (0,0)))∧ia (Below w.heap.size w wc))
 case first =>
  have H:=N7.out;clear N7;replace H:=Option.bind_eq_some_iff.mp H;obtain ⟨t102,A40,H⟩:=H;replace H:(if t102=true then ((ni.f Pa Qa 1000).bind fun t103=>(if t103=true then ((ni.f (La.length:Int) 1 300).bind fun t104=>(Jc.j0 k (!t104) Ta Ra Qa Pa La)) else (Jc.j0 k true Ta Ra Qa Pa La))) else (Jc.j0 k true Ta Ra Qa Pa La))=some r:=H;have A4:=ia.mk A40;clear A40
  by_cases c5:t102=true
  ·subst c5;have H1:((ni.f Pa Qa 1000).bind fun t103=>(if t103=true then ((ni.f (La.length:Int) 1 300).bind fun t104=>(Jc.j0 k (!t104) Ta Ra Qa Pa La)) else (Jc.j0 k true Ta Ra Qa Pa La)))=some r:=by rw [if_pos rfl] at H;exact H
   clear H;have H:=H1;clear H1;replace H:=Option.bind_eq_some_iff.mp H;obtain ⟨t103,W0,H⟩:=H;replace H:(if t103=true then ((ni.f (La.length:Int) 1 300).bind fun t104=>(Jc.j0 k (!t104) Ta Ra Qa Pa La)) else (Jc.j0 k true Ta Ra Qa Pa La))=some r:=H;have A6:=ia.mk W0;clear W0
   by_cases c7:t103=true
   ·subst c7;have H1:((ni.f (La.length:Int) 1 300).bind fun t104=>(Jc.j0 k (!t104) Ta Ra Qa Pa La))=some r:=by rw [if_pos rfl] at H;exact H
    clear H;have H:=H1;clear H1;replace H:=Option.bind_eq_some_iff.mp H;obtain ⟨t104,QT,H⟩:=H;replace H:(Jc.j0 k (!t104) Ta Ra Qa Pa La)=some r:=H;have A8:=ia.mk QT;clear QT;have H':=ia.mk H;clear H;have yz:w3.cell? ⟨Fa,0,none⟩=some (.slice Jb Ta.length Ib):=(ga ya.out 0).trans rfl;have xz:w3.cell? ⟨Fa,1,none⟩=some (.int .i64 Ra):=(ga ya.out 1).trans rfl;have wz:w3.cell? ⟨Fa,2,none⟩=some (.int .i64 Qa):=(ga ya.out 2).trans rfl;have vz:w3.cell? ⟨Fa,3,none⟩=some (.int .i64 Pa):=(ga ya.out 3).trans rfl;have uz:w3.cell? ⟨Fa,4,none⟩=some (.slice nc La.length dc):=(ga ya.out 4).trans rfl;have rz:=aa ya.out 0;have qz:=aa ya.out 1;have pz:=aa ya.out 2;have oz:=aa ya.out 3;have mz:=aa ya.out 4;go_wp2_with (first|((with_reducible refine Gb (f:=89) rfl ?_);refine Bd (some 13) rfl rfl Try.func89 (by kernel_rfl) rfl #[.agg #[.slice Jb Ta.length Ib,.int .i64 Ra,.int .i64 Qa,.slice none 0 0]] rfl (by (try simp only [List.map_toArray,List.map_cons,List.map_nil]);first|done|rfl|(simp only [List.length_drop,List.length_take];rfl)) ?_;(refine (Bh.calls _ _ Ta Ra Qa _ _ ([]:List (Ez)) true _ ?zd ?yd ?Yf ?Xf A4.out).mono ?_);(case zd=>repeat (first|exact (Kd.ec qg.out HB.out)|(with_reducible refine Kd.Sc ?_ _)|(with_reducible refine Kd.Rc ?_ _)|(with_reducible refine Kd.Cd ?_)));(case yd=>exact Jg.out);(case Yf=>exact Kd.JN _ _);(case Xf=>exact Nat.le_refl _);rintro e Lq ⟨rfl,hb⟩;refine ⟨_,rfl,?_⟩;have Ub:=ia.mk (Sa (g:=Fa) (o:=.cells #[.slice Jb Ta.length Ib,.int .i64 Ra,.int .i64 Qa,.int .i64 Pa,.slice nc La.length dc] 30 (0,0)) (by (with_reducible repeat (first|refine Ba ?_ _|refine Ca ?_|refine Aa ?_ _));exact ya.out) hb);have fc:=ia.mk (Oa (by repeat (first|(with_reducible first|exact HB.out|apply qa|apply ja|apply ta|refine ua ?_ Wa.out)|exact HB.out)) hb);clear ya HB;have ya:=Ub;have HB:=fc;clear Ub fc;(try clear hb);(try clear jk);(try clear hk);(try clear hi);have Yu:Lq.cell? ⟨Fa,0,none⟩=some (.slice Jb Ta.length Ib):=(ga ya.out 0).trans rfl;have Xu:Lq.cell? ⟨Fa,1,none⟩=some (.int .i64 Ra):=(ga ya.out 1).trans rfl;have Wu:Lq.cell? ⟨Fa,2,none⟩=some (.int .i64 Qa):=(ga ya.out 2).trans rfl;have Vu:Lq.cell? ⟨Fa,3,none⟩=some (.int .i64 Pa):=(ga ya.out 3).trans rfl;have Uu:Lq.cell? ⟨Fa,4,none⟩=some (.slice nc La.length dc):=(ga ya.out 4).trans rfl;have uu:=aa ya.out 0;have tu:=aa ya.out 1;have su:=aa ya.out 2;have ru:=aa ya.out 3;have qu:=aa ya.out 4)|(go_at_call 58;(with_reducible refine (ni.calls Pa Qa 1000 true _ A6.out).mono ?_);rintro e w' ⟨rfl,⟨nd,rfl⟩⟩)|(go_at_call 58;(with_reducible refine (ni.calls (La.length:Int) 1 300 t104 _ A8.out).mono ?_);rintro e w' ⟨rfl,⟨nd,rfl⟩⟩))
    go_meet
    case rel=>exact ⟨_,(!t104),(by first|rfl|(simp;done)|(simp [*];done)),H',⟨by first|omega|exact Nat.le_refl _⟩,⟨by (with_reducible repeat (first|refine Ba ?_ _|refine Ca ?_|refine Aa ?_ _));exact ya.out⟩,⟨by repeat (first|(with_reducible first|exact HB.out|apply qa|apply ja|apply ta|refine ua ?_ Wa.out)|exact HB.out)⟩⟩
   ·replace c7:=Bool.eq_false_iff.mpr c7;subst c7;have H1:(Jc.j0 k true Ta Ra Qa Pa La)=some r:=by rw [if_neg (show ¬ (false=true) by decide)] at H;exact H
    clear H;have H:=H1;clear H1;have H':=ia.mk H;clear H;have Vr:w3.cell? ⟨Fa,0,none⟩=some (.slice Jb Ta.length Ib):=(ga ya.out 0).trans rfl;have Ur:w3.cell? ⟨Fa,1,none⟩=some (.int .i64 Ra):=(ga ya.out 1).trans rfl;have Tr:w3.cell? ⟨Fa,2,none⟩=some (.int .i64 Qa):=(ga ya.out 2).trans rfl;have Sr:w3.cell? ⟨Fa,3,none⟩=some (.int .i64 Pa):=(ga ya.out 3).trans rfl;have Qr:w3.cell? ⟨Fa,4,none⟩=some (.slice nc La.length dc):=(ga ya.out 4).trans rfl;have ur:=aa ya.out 0;have tr:=aa ya.out 1;have sr:=aa ya.out 2;have nr:=aa ya.out 3;have kr:=aa ya.out 4;go_wp2_with (first|((with_reducible refine Gb (f:=89) rfl ?_);refine Bd (some 13) rfl rfl Try.func89 (by kernel_rfl) rfl #[.agg #[.slice Jb Ta.length Ib,.int .i64 Ra,.int .i64 Qa,.slice none 0 0]] rfl (by (try simp only [List.map_toArray,List.map_cons,List.map_nil]);first|done|rfl|(simp only [List.length_drop,List.length_take];rfl)) ?_;(refine (Bh.calls _ _ Ta Ra Qa _ _ ([]:List (Ez)) true _ ?zd ?yd ?Yf ?Xf A4.out).mono ?_);(case zd=>repeat (first|exact (Kd.ec qg.out HB.out)|(with_reducible refine Kd.Sc ?_ _)|(with_reducible refine Kd.Rc ?_ _)|(with_reducible refine Kd.Cd ?_)));(case yd=>exact Jg.out);(case Yf=>exact Kd.JN _ _);(case Xf=>exact Nat.le_refl _);rintro e jG ⟨rfl,hb⟩;refine ⟨_,rfl,?_⟩;have Ub:=ia.mk (Sa (g:=Fa) (o:=.cells #[.slice Jb Ta.length Ib,.int .i64 Ra,.int .i64 Qa,.int .i64 Pa,.slice nc La.length dc] 30 (0,0)) (by (with_reducible repeat (first|refine Ba ?_ _|refine Ca ?_|refine Aa ?_ _));exact ya.out) hb);have fc:=ia.mk (Oa (by repeat (first|(with_reducible first|exact HB.out|apply qa|apply ja|apply ta|refine ua ?_ Wa.out)|exact HB.out)) hb);clear ya HB;have ya:=Ub;have HB:=fc;clear Ub fc;(try clear hb);(try clear jk);(try clear hk);(try clear hi);have Pr:jG.cell? ⟨Fa,0,none⟩=some (.slice Jb Ta.length Ib):=(ga ya.out 0).trans rfl;have Nr:jG.cell? ⟨Fa,1,none⟩=some (.int .i64 Ra):=(ga ya.out 1).trans rfl;have Mr:jG.cell? ⟨Fa,2,none⟩=some (.int .i64 Qa):=(ga ya.out 2).trans rfl;have Lr:jG.cell? ⟨Fa,3,none⟩=some (.int .i64 Pa):=(ga ya.out 3).trans rfl;have Kr:jG.cell? ⟨Fa,4,none⟩=some (.slice nc La.length dc):=(ga ya.out 4).trans rfl;have jr:=aa ya.out 0;have ir:=aa ya.out 1;have gr:=aa ya.out 2;have er:=aa ya.out 3;have dr:=aa ya.out 4)|(go_at_call 58;(with_reducible refine (ni.calls Pa Qa 1000 false _ A6.out).mono ?_);rintro e w' ⟨rfl,⟨nd,rfl⟩⟩))
    go_meet
    case rel=>exact ⟨_,(true),(by first|rfl|(simp;done)|(simp [*];done)),H',⟨by first|omega|exact Nat.le_refl _⟩,⟨by (with_reducible repeat (first|refine Ba ?_ _|refine Ca ?_|refine Aa ?_ _));exact ya.out⟩,⟨by repeat (first|(with_reducible first|exact HB.out|apply qa|apply ja|apply ta|refine ua ?_ Wa.out)|exact HB.out)⟩⟩
  ·replace c5:=Bool.eq_false_iff.mpr c5;subst c5;have H1:(Jc.j0 k true Ta Ra Qa Pa La)=some r:=by rw [if_neg (show ¬ (false=true) by decide)] at H;exact H
   clear H;have H:=H1;clear H1;have H':=ia.mk H;clear H;have jF:w3.cell? ⟨Fa,0,none⟩=some (.slice Jb Ta.length Ib):=(ga ya.out 0).trans rfl;have iF:w3.cell? ⟨Fa,1,none⟩=some (.int .i64 Ra):=(ga ya.out 1).trans rfl;have gF:w3.cell? ⟨Fa,2,none⟩=some (.int .i64 Qa):=(ga ya.out 2).trans rfl;have fF:w3.cell? ⟨Fa,3,none⟩=some (.int .i64 Pa):=(ga ya.out 3).trans rfl;have eF:w3.cell? ⟨Fa,4,none⟩=some (.slice nc La.length dc):=(ga ya.out 4).trans rfl;have wE:=aa ya.out 0;have vE:=aa ya.out 1;have uE:=aa ya.out 2;have sE:=aa ya.out 3;have rE:=aa ya.out 4;go_wp2_with (first|((with_reducible refine Gb (f:=89) rfl ?_);refine Bd (some 13) rfl rfl Try.func89 (by kernel_rfl) rfl #[.agg #[.slice Jb Ta.length Ib,.int .i64 Ra,.int .i64 Qa,.slice none 0 0]] rfl (by (try simp only [List.map_toArray,List.map_cons,List.map_nil]);first|done|rfl|(simp only [List.length_drop,List.length_take];rfl)) ?_;(refine (Bh.calls _ _ Ta Ra Qa _ _ ([]:List (Ez)) false _ ?zd ?yd ?Yf ?Xf A4.out).mono ?_);(case zd=>repeat (first|exact (Kd.ec qg.out HB.out)|(with_reducible refine Kd.Sc ?_ _)|(with_reducible refine Kd.Rc ?_ _)|(with_reducible refine Kd.Cd ?_)));(case yd=>exact Jg.out);(case Yf=>exact Kd.JN _ _);(case Xf=>exact Nat.le_refl _);rintro e NC ⟨rfl,hb⟩;refine ⟨_,rfl,?_⟩;have Ub:=ia.mk (Sa (g:=Fa) (o:=.cells #[.slice Jb Ta.length Ib,.int .i64 Ra,.int .i64 Qa,.int .i64 Pa,.slice nc La.length dc] 30 (0,0)) (by (with_reducible repeat (first|refine Ba ?_ _|refine Ca ?_|refine Aa ?_ _));exact ya.out) hb);have fc:=ia.mk (Oa (by repeat (first|(with_reducible first|exact HB.out|apply qa|apply ja|apply ta|refine ua ?_ Wa.out)|exact HB.out)) hb);clear ya HB;have ya:=Ub;have HB:=fc;clear Ub fc;(try clear hb);(try clear jk);(try clear hk);(try clear hi)))
   go_meet
   case rel=>exact ⟨_,(true),(by first|rfl|(simp;done)|(simp [*];done)),H',⟨by first|omega|exact Nat.le_refl _⟩,⟨by (with_reducible repeat (first|refine Ba ?_ _|refine Ca ?_|refine Aa ?_ _));exact ya.out⟩,⟨by repeat (first|(with_reducible first|exact HB.out|apply qa|apply ja|apply ta|refine ua ?_ Wa.out)|exact HB.out)⟩⟩
 case rest =>
  clear N7
  try clear p2
  try clear c5
  try clear c7
  try clear c8
  try clear Yu
  try clear Xu
  try clear Wu
  try clear Vu
  try clear Uu
  try clear Vr
  try clear Ur
  try clear Tr
  try clear Sr
  try clear Qr
  try clear Pr
  try clear Nr
  try clear Mr
  try clear Lr
  try clear Kr
  try clear jF
  try clear iF
  try clear gF
  try clear fF
  try clear eF
  try clear yz
  try clear xz
  try clear wz
  try clear vz
  try clear uz
  try clear uu
  try clear tu
  try clear su
  try clear ru
  try clear qu
  try clear ur
  try clear tr
  try clear sr
  try clear nr
  try clear kr
  try clear jr
  try clear ir
  try clear gr
  try clear er
  try clear dr
  try clear wE
  try clear vE
  try clear uE
  try clear sE
  try clear rE
  try clear rz
  try clear qz
  try clear pz
  try clear oz
  try clear mz
  obtain ⟨kq,iK,rfl,HA,HJ1,ya,HB⟩:=hcut;cases kq with
  | zero=>exact absurd HA.out (by simp [Jc.j0])
  | succ kj1 =>
   have H:=HA.out;clear HA;simp only [Jc.j0] at H
   by_cases sF:iK=true
   ·subst sF;have H1:(some false)=some r:=by rw [if_pos rfl] at H;exact H
    clear H;have H:=H1;clear H1;obtain rfl:=Option.some.inj H;go_wp2;go_ret;exact ⟨by first|rfl|(simp [Ka,Ja] <;> rfl)|(simp [*,Ka,Ja] <;> rfl),by repeat (first|(with_reducible first|exact HB.out|apply qa|apply ja|apply ta|refine ua ?_ Wa.out)|exact HB.out)⟩
   ·replace sF:=Bool.eq_false_iff.mpr sF;subst sF;have H1:(Jc.l0 kj1 0 La (La.length:Int) 0 Ta Ra Qa Pa La)=some r:=by rw [if_neg (show ¬ (false=true) by decide)] at H;exact H
    clear H;have H:=H1;clear H1;have H':=ia.mk H;clear H;have Tu:wc.cell? ⟨Fa,0,none⟩=some (.slice Jb Ta.length Ib):=(ga ya.out 0).trans rfl;have Su:wc.cell? ⟨Fa,1,none⟩=some (.int .i64 Ra):=(ga ya.out 1).trans rfl;have Ru:wc.cell? ⟨Fa,2,none⟩=some (.int .i64 Qa):=(ga ya.out 2).trans rfl;have Qu:wc.cell? ⟨Fa,3,none⟩=some (.int .i64 Pa):=(ga ya.out 3).trans rfl;have Pu:wc.cell? ⟨Fa,4,none⟩=some (.slice nc La.length dc):=(ga ya.out 4).trans rfl;have ou:=aa ya.out 0;have nu:=aa ya.out 1;have lu:=aa ya.out 2;have ku:=aa ya.out 3;have ju:=aa ya.out 4;go_wp2
    go_loopg [3,33] kj1 (fun kq v3 v33 w'=>∃ (MN:Int) (Te:Int),v3 = .int .i64 MN∧v33 = .int .i64 Te∧ia (Jc.l0 kq MN La (La.length:Int) Te Ta Ra Qa Pa La=some r)∧ia (kq ≤ kj1)∧ia (w'.heap[Fa]? = some (.cells #[(.slice Jb Ta.length Ib),.int .i64 Ra,.int .i64 Qa,.int .i64 Pa,(.slice nc La.length dc)] 30 (0,0)))∧ia (Below w.heap.size w w'))
    case atStart=>exact ⟨(0),(0),(by first|rfl|(simp;done)|(simp [*];done)),(by first|rfl|(simp;done)|(simp [*];done)),H',⟨Nat.le_refl _⟩,⟨by (with_reducible repeat (first|refine Ba ?_ _|refine Ca ?_|refine Aa ?_ _));exact ya.out⟩,⟨by repeat (first|(with_reducible first|exact HB.out|apply qa|apply ja|apply ta|refine ua ?_ Wa.out)|exact HB.out)⟩⟩
    case round =>
     clear H'
     try clear c1
     try clear p2
     try clear c5
     try clear c7
     try clear c8
     try clear sF
     try clear Yu
     try clear Xu
     try clear Wu
     try clear Vu
     try clear Uu
     try clear Vr
     try clear Ur
     try clear Tr
     try clear Sr
     try clear Qr
     try clear Pr
     try clear Nr
     try clear Mr
     try clear Lr
     try clear Kr
     try clear jF
     try clear iF
     try clear gF
     try clear fF
     try clear eF
     try clear Tu
     try clear Su
     try clear Ru
     try clear Qu
     try clear Pu
     try clear yz
     try clear xz
     try clear wz
     try clear vz
     try clear uz
     try clear uu
     try clear tu
     try clear su
     try clear ru
     try clear qu
     try clear ur
     try clear tr
     try clear sr
     try clear nr
     try clear kr
     try clear jr
     try clear ir
     try clear gr
     try clear er
     try clear dr
     try clear wE
     try clear vE
     try clear uE
     try clear sE
     try clear rE
     try clear ou
     try clear nu
     try clear lu
     try clear ku
     try clear ju
     try clear rz
     try clear qz
     try clear pz
     try clear oz
     try clear mz
     try clear p2
     (try clear HA);(try clear R6);(try clear ya);(try clear HB);obtain ⟨MN,Te,rfl,rfl,HA,R6,ya,HB⟩:=hrel;cases gk with
     | zero=>exact absurd HA.out (by simp [Jc.l0])
     | succ k2 =>
      have H:=HA.out;clear HA;simp only [Jc.l0] at H
      by_cases wv:Te < (La.length:Int)
      ·rw [if_pos wv] at H;have yH:decide (Te < (La.length:Int))=true:=decide_eq_true wv;clear wv
       by_cases WC:0 ≤ Te
       ·rw [if_pos WC] at H;have Uac:decide (0 ≤ Te)=true:=decide_eq_true WC;clear WC
        by_cases yt:Te < (La.length:Int)
        ·rw [if_pos yt] at H;have Fs:decide (Te < (La.length:Int))=true:=decide_eq_true yt;clear yt;replace H:=Option.bind_eq_some_iff.mp H;obtain ⟨t107,Nae,H⟩:=H;replace H:(if t107=true then (Jc.l0 k2 (wrap64 (MN + (((Ia La Te).f0).length:Int))) La (La.length:Int) (wrap64 (Te + 1)) Ta Ra Qa Pa La) else (some false))=some r:=H;have A22:=ia.mk Nae;clear Nae
         by_cases dI:t107=true
         ·subst dI;have H1:(Jc.l0 k2 (wrap64 (MN + (((Ia La Te).f0).length:Int))) La (La.length:Int) (wrap64 (Te + 1)) Ta Ra Qa Pa La)=some r:=by rw [if_pos rfl] at H;exact H
          clear H;have H:=H1;clear H1;have H':=ia.mk H;clear H;have Uk:0 ≤ (Te:Int):=of_decide_eq_true (by first|(with_reducible assumption)|assumption);have Tk:Te < (La.length:Int):=of_decide_eq_true (by first|(with_reducible assumption)|assumption);obtain ⟨wj,Ll,Il,vt,zg,Wg,Vg,Ug,Tg,Fk,Jk⟩:=Mg Qh.out Te Uk Tk;cases vt;replace zg:=Da HB.out zg;replace Wg:=Da HB.out Wg;replace Vg:=Da HB.out Vg;replace Ug:=Da HB.out Ug;replace Tg:=Da HB.out Tg;have nv:=ia.mk Jk;have ov:=ia.mk Fk;clear Jk Fk;replace Uk:=eq_true Uk;replace Tk:=eq_true Tk;go_wp2_with (first|((with_reducible refine Tb (N:=5) rfl ?_);(try (refine Zj (by rfl) ?_;dsimp only));refine Sb ?hg (N:=5) ?hd (cs:=#[.slice none 0 0,.int .i64 0,.int .i64 0,.int .i64 0,.int .i64 0]) (t:=68) ?hr ?_;(case hd=>rfl);(case hg=>rfl);(case hr=>first|(go_simp;done)|(go_simp;rfl));intro Ml hg kK ic hb;have Ub:=ia.mk (Sa (g:=Fa) (o:=.cells #[.slice Jb Ta.length Ib,.int .i64 Ra,.int .i64 Qa,.int .i64 Pa,.slice (some wj) La.length dc] 30 (0,0)) (by (with_reducible repeat (first|refine Ba ?_ _|refine Ca ?_|refine Aa ?_ _));exact ya.out) hb);have fc:=ia.mk (Oa (by repeat (first|(with_reducible first|exact HB.out|apply qa|apply ja|apply ta|refine ua ?_ Wa.out)|exact HB.out)) hb);have Fc:=ia.mk (ic);have Xc:=ia.mk ((by rw [hg];exact (Ma (by repeat (first|(with_reducible first|exact HB.out|apply qa|apply ja|apply ta|refine ua ?_ Wa.out)|exact HB.out))):w.heap.size ≤ Ml));have Fe:=ia.mk ((by rw [hg];exact (Ma (by repeat (first|(with_reducible first|exact HB.out|apply qa|apply ja|apply ta|refine ua ?_ Wa.out)|exact HB.out))):w.heap.size ≤ Ml));have Ve:=ia.mk ((by rw [hg];exact Nat.ne_of_lt (Mc (g:=Fa) (o:=.cells #[.slice Jb Ta.length Ib,.int .i64 Ra,.int .i64 Qa,.int .i64 Pa,.slice (some wj) La.length dc] 30 (0,0)) (by (with_reducible repeat (first|refine Ba ?_ _|refine Ca ?_|refine Aa ?_ _));exact ya.out)):Fa ≠ Ml));have Gg:=ia.mk ((by rw [hg];exact Nat.ne_of_gt (Mc (g:=Fa) (o:=.cells #[.slice Jb Ta.length Ib,.int .i64 Ra,.int .i64 Qa,.int .i64 Pa,.slice (some wj) La.length dc] 30 (0,0)) (by (with_reducible repeat (first|refine Ba ?_ _|refine Ca ?_|refine Aa ?_ _));exact ya.out)):Ml ≠ Fa));clear ya HB;have ya:=Ub;have HB:=fc;have yj:=Fc;have Bae:=Xc;have Ft:=Fe;have Fi:=Ve;have Hz:=Gg;clear Ub fc Fc Xc Fe Ve Gg hb ic hg;have IQ:=Hz.out;have FQ:=Fi.out;have oy:kK.cell? ⟨Ml,0,none⟩=some (.slice none 0 0):=(ga yj.out 0).trans rfl;have ny:kK.cell? ⟨Ml,1,none⟩=some (.int .i64 0):=(ga yj.out 1).trans rfl;have jy:kK.cell? ⟨Ml,2,none⟩=some (.int .i64 0):=(ga yj.out 2).trans rfl;have iy:kK.cell? ⟨Ml,3,none⟩=some (.int .i64 0):=(ga yj.out 3).trans rfl;have gy:kK.cell? ⟨Ml,4,none⟩=some (.int .i64 0):=(ga yj.out 4).trans rfl;have Mx:=aa yj.out 0;have Lx:=aa yj.out 1;have Kx:=aa yj.out 2;have Jx:=aa yj.out 3;have Ix:=aa yj.out 4;have Eu:kK.cell? ⟨Fa,0,none⟩=some (.slice Jb Ta.length Ib):=(ga ya.out 0).trans rfl;have Du:kK.cell? ⟨Fa,1,none⟩=some (.int .i64 Ra):=(ga ya.out 1).trans rfl;have Cu:kK.cell? ⟨Fa,2,none⟩=some (.int .i64 Qa):=(ga ya.out 2).trans rfl;have Bu:kK.cell? ⟨Fa,3,none⟩=some (.int .i64 Pa):=(ga ya.out 3).trans rfl;have Au:kK.cell? ⟨Fa,4,none⟩=some (.slice (some wj) La.length dc):=(ga ya.out 4).trans rfl;have Wt:=aa ya.out 0;have Vt:=aa ya.out 1;have Ut:=aa ya.out 2;have Tt:=aa ya.out 3;have St:=aa ya.out 4)|((with_reducible refine Gb (f:=90) rfl ?_);refine Bd (some 44) rfl rfl Try.func90 (by kernel_rfl) rfl #[.agg #[.slice Jb Ta.length Ib,.int .i64 Ra,.int .i64 Qa,.int .i64 Pa,.slice (some wj) La.length dc],.agg #[.slice Ll ((Ia La Te).f0).length Il,.int .i64 ((Ia La Te).f1),.int .i64 ((Ia La Te).f2),.int .i64 ((Ia La Te).f3),.int .i64 ((Ia La Te).f4)]] rfl (by (try simp only [List.map_toArray,List.map_cons,List.map_nil]);first|done|rfl|(simp only [List.length_drop,List.length_take];rfl)) ?_;(with_reducible refine (Gj.calls _ _ Ta Ra Qa Pa _ _ La _ _ ((Ia La Te).f0) ((Ia La Te).f1) ((Ia La Te).f2) ((Ia La Te).f3) ((Ia La Te).f4) true _ ?zd ?yd ?Yf ?Xf ?tB ?sB A22.out).mono ?_);(case zd=>exact Kd.ec qg.out (by repeat (first|(with_reducible first|exact HB.out|apply qa|apply ja|apply ta|refine ua ?_ Wa.out|refine ua ?_ Ft.out)|exact HB.out)));(case yd=>exact Jg.out);(case Yf=>exact Kd.ec Qh.out (by repeat (first|(with_reducible first|exact HB.out|apply qa|apply ja|apply ta|refine ua ?_ Wa.out|refine ua ?_ Ft.out)|exact HB.out)));(case Xf=>exact Bj.out);(case tB=>exact Kd.ec nv.out (by repeat (first|(with_reducible first|exact HB.out|apply qa|apply ja|apply ta|refine ua ?_ Wa.out|refine ua ?_ Ft.out)|exact HB.out)));(case sB=>exact ov.out);rintro e Zy ⟨rfl,hb⟩;refine ⟨_,rfl,?_⟩;have Ub:=ia.mk (Sa (g:=Fa) (o:=.cells #[.slice Jb Ta.length Ib,.int .i64 Ra,.int .i64 Qa,.int .i64 Pa,.slice (some wj) La.length dc] 30 (0,0)) (by (with_reducible repeat (first|refine Ba ?_ _|refine Ca ?_|refine Aa ?_ _));refine Pb ?_ Fi.out _;(with_reducible repeat (first|refine Ba ?_ _|refine Ca ?_|refine Aa ?_ _));refine Pb ?_ Fi.out _;(with_reducible repeat (first|refine Ba ?_ _|refine Ca ?_|refine Aa ?_ _));refine Pb ?_ Fi.out _;(with_reducible repeat (first|refine Ba ?_ _|refine Ca ?_|refine Aa ?_ _));refine Pb ?_ Fi.out _;(with_reducible repeat (first|refine Ba ?_ _|refine Ca ?_|refine Aa ?_ _));refine Pb ?_ Fi.out _;(with_reducible repeat (first|refine Ba ?_ _|refine Ca ?_|refine Aa ?_ _));exact ya.out) hb);have fc:=ia.mk (Sa (g:=Ml) (o:=.cells #[.slice Ll ((Ia La Te).f0).length Il,.int .i64 ((Ia La Te).f1),.int .i64 ((Ia La Te).f2),.int .i64 ((Ia La Te).f3),.int .i64 ((Ia La Te).f4)] 68 (0,0)) (by (with_reducible repeat (first|refine Ba ?_ _|refine Ca ?_|refine Aa ?_ _));refine Rb (cs:=#[.slice Ll ((Ia La Te).f0).length Il,.int .i64 ((Ia La Te).f1),.int .i64 ((Ia La Te).f2),.int .i64 ((Ia La Te).f3),.int .i64 0]) ?_ 4 _ rfl;(with_reducible repeat (first|refine Ba ?_ _|refine Ca ?_|refine Aa ?_ _));refine Rb (cs:=#[.slice Ll ((Ia La Te).f0).length Il,.int .i64 ((Ia La Te).f1),.int .i64 ((Ia La Te).f2),.int .i64 0,.int .i64 0]) ?_ 3 _ rfl;(with_reducible repeat (first|refine Ba ?_ _|refine Ca ?_|refine Aa ?_ _));refine Rb (cs:=#[.slice Ll ((Ia La Te).f0).length Il,.int .i64 ((Ia La Te).f1),.int .i64 0,.int .i64 0,.int .i64 0]) ?_ 2 _ rfl;(with_reducible repeat (first|refine Ba ?_ _|refine Ca ?_|refine Aa ?_ _));refine Rb (cs:=#[.slice Ll ((Ia La Te).f0).length Il,.int .i64 0,.int .i64 0,.int .i64 0,.int .i64 0]) ?_ 1 _ rfl;(with_reducible repeat (first|refine Ba ?_ _|refine Ca ?_|refine Aa ?_ _));refine Rb (cs:=#[.slice none 0 0,.int .i64 0,.int .i64 0,.int .i64 0,.int .i64 0]) ?_ 0 _ rfl;(with_reducible repeat (first|refine Ba ?_ _|refine Ca ?_|refine Aa ?_ _));exact yj.out) hb);have Fc:=ia.mk (Oa (by repeat (first|(with_reducible first|exact HB.out|apply qa|apply ja|apply ta|refine ua ?_ Wa.out|refine ua ?_ Ft.out)|exact HB.out)) hb);clear ya yj HB;have ya:=Ub;have yj:=fc;have HB:=Fc;clear Ub fc Fc;(try clear hb);(try clear jk);(try clear hk);(try clear hi)))
          go_roundg k2
          case measure=>have:=HJ1.out;have:=R6.out;omega
          case rel=>exact ⟨(wrap64 (MN + (((Ia La Te).f0).length:Int))),(wrap64 (Te + 1)),(by first|rfl|(simp;done)|(simp [*];done)),(by first|rfl|(simp;done)|(simp [*];done)),H',⟨by have:=HJ1.out;have:=R6.out;omega⟩,⟨by (with_reducible repeat (first|refine Ba ?_ _|refine Ca ?_|refine Aa ?_ _));exact ya.out⟩,⟨by repeat (first|(with_reducible first|exact HB.out|apply qa|apply ja|apply ta|refine ua ?_ Wa.out|refine ua ?_ Ft.out)|exact HB.out)⟩⟩
         ·replace dI:=Bool.eq_false_iff.mpr dI;subst dI;have H1:(some false)=some r:=by rw [if_neg (show ¬ (false=true) by decide)] at H;exact H
          clear H;have H:=H1;clear H1;obtain rfl:=Option.some.inj H;have Uk:0 ≤ (Te:Int):=of_decide_eq_true (by first|(with_reducible assumption)|assumption);have Tk:Te < (La.length:Int):=of_decide_eq_true (by first|(with_reducible assumption)|assumption);obtain ⟨wj,Ll,Il,vt,zg,Wg,Vg,Ug,Tg,Fk,Jk⟩:=Mg Qh.out Te Uk Tk;cases vt;replace zg:=Da HB.out zg;replace Wg:=Da HB.out Wg;replace Vg:=Da HB.out Vg;replace Ug:=Da HB.out Ug;replace Tg:=Da HB.out Tg;have nv:=ia.mk Jk;have ov:=ia.mk Fk;clear Jk Fk;replace Uk:=eq_true Uk;replace Tk:=eq_true Tk;go_wp2_with (first|((with_reducible refine Tb (N:=5) rfl ?_);(try (refine Zj (by rfl) ?_;dsimp only));refine Sb ?hg (N:=5) ?hd (cs:=#[.slice none 0 0,.int .i64 0,.int .i64 0,.int .i64 0,.int .i64 0]) (t:=68) ?hr ?_;(case hd=>rfl);(case hg=>rfl);(case hr=>first|(go_simp;done)|(go_simp;rfl));intro Ml hg ZT ic hb;have Ub:=ia.mk (Sa (g:=Fa) (o:=.cells #[.slice Jb Ta.length Ib,.int .i64 Ra,.int .i64 Qa,.int .i64 Pa,.slice (some wj) La.length dc] 30 (0,0)) (by (with_reducible repeat (first|refine Ba ?_ _|refine Ca ?_|refine Aa ?_ _));exact ya.out) hb);have fc:=ia.mk (Oa (by repeat (first|(with_reducible first|exact HB.out|apply qa|apply ja|apply ta|refine ua ?_ Wa.out)|exact HB.out)) hb);have Fc:=ia.mk (ic);have Xc:=ia.mk ((by rw [hg];exact (Ma (by repeat (first|(with_reducible first|exact HB.out|apply qa|apply ja|apply ta|refine ua ?_ Wa.out)|exact HB.out))):w.heap.size ≤ Ml));have Fe:=ia.mk ((by rw [hg];exact (Ma (by repeat (first|(with_reducible first|exact HB.out|apply qa|apply ja|apply ta|refine ua ?_ Wa.out)|exact HB.out))):w.heap.size ≤ Ml));have Ve:=ia.mk ((by rw [hg];exact Nat.ne_of_lt (Mc (g:=Fa) (o:=.cells #[.slice Jb Ta.length Ib,.int .i64 Ra,.int .i64 Qa,.int .i64 Pa,.slice (some wj) La.length dc] 30 (0,0)) (by (with_reducible repeat (first|refine Ba ?_ _|refine Ca ?_|refine Aa ?_ _));exact ya.out)):Fa ≠ Ml));have Gg:=ia.mk ((by rw [hg];exact Nat.ne_of_gt (Mc (g:=Fa) (o:=.cells #[.slice Jb Ta.length Ib,.int .i64 Ra,.int .i64 Qa,.int .i64 Pa,.slice (some wj) La.length dc] 30 (0,0)) (by (with_reducible repeat (first|refine Ba ?_ _|refine Ca ?_|refine Aa ?_ _));exact ya.out)):Ml ≠ Fa));clear ya HB;have ya:=Ub;have HB:=fc;have yj:=Fc;have Bae:=Xc;have Ft:=Fe;have Fi:=Ve;have Hz:=Gg;clear Ub fc Fc Xc Fe Ve Gg hb ic hg;have C9:=Hz.out;have b9:=Fi.out;have XE:ZT.cell? ⟨Ml,0,none⟩=some (.slice none 0 0):=(ga yj.out 0).trans rfl;have WE:ZT.cell? ⟨Ml,1,none⟩=some (.int .i64 0):=(ga yj.out 1).trans rfl;have VE:ZT.cell? ⟨Ml,2,none⟩=some (.int .i64 0):=(ga yj.out 2).trans rfl;have UE:ZT.cell? ⟨Ml,3,none⟩=some (.int .i64 0):=(ga yj.out 3).trans rfl;have SE:ZT.cell? ⟨Ml,4,none⟩=some (.int .i64 0):=(ga yj.out 4).trans rfl;have lE:=aa yj.out 0;have kE:=aa yj.out 1;have jE:=aa yj.out 2;have iE:=aa yj.out 3;have gE:=aa yj.out 4;have cB:ZT.cell? ⟨Fa,0,none⟩=some (.slice Jb Ta.length Ib):=(ga ya.out 0).trans rfl;have bB:ZT.cell? ⟨Fa,1,none⟩=some (.int .i64 Ra):=(ga ya.out 1).trans rfl;have ZA:ZT.cell? ⟨Fa,2,none⟩=some (.int .i64 Qa):=(ga ya.out 2).trans rfl;have YA:ZT.cell? ⟨Fa,3,none⟩=some (.int .i64 Pa):=(ga ya.out 3).trans rfl;have XA:ZT.cell? ⟨Fa,4,none⟩=some (.slice (some wj) La.length dc):=(ga ya.out 4).trans rfl;have MA:=aa ya.out 0;have LA:=aa ya.out 1;have KA:=aa ya.out 2;have JA:=aa ya.out 3;have IA:=aa ya.out 4)|((with_reducible refine Gb (f:=90) rfl ?_);refine Bd (some 44) rfl rfl Try.func90 (by kernel_rfl) rfl #[.agg #[.slice Jb Ta.length Ib,.int .i64 Ra,.int .i64 Qa,.int .i64 Pa,.slice (some wj) La.length dc],.agg #[.slice Ll ((Ia La Te).f0).length Il,.int .i64 ((Ia La Te).f1),.int .i64 ((Ia La Te).f2),.int .i64 ((Ia La Te).f3),.int .i64 ((Ia La Te).f4)]] rfl (by (try simp only [List.map_toArray,List.map_cons,List.map_nil]);first|done|rfl|(simp only [List.length_drop,List.length_take];rfl)) ?_;(with_reducible refine (Gj.calls _ _ Ta Ra Qa Pa _ _ La _ _ ((Ia La Te).f0) ((Ia La Te).f1) ((Ia La Te).f2) ((Ia La Te).f3) ((Ia La Te).f4) false _ ?zd ?yd ?Yf ?Xf ?tB ?sB A22.out).mono ?_);(case zd=>exact Kd.ec qg.out (by repeat (first|(with_reducible first|exact HB.out|apply qa|apply ja|apply ta|refine ua ?_ Wa.out|refine ua ?_ Ft.out)|exact HB.out)));(case yd=>exact Jg.out);(case Yf=>exact Kd.ec Qh.out (by repeat (first|(with_reducible first|exact HB.out|apply qa|apply ja|apply ta|refine ua ?_ Wa.out|refine ua ?_ Ft.out)|exact HB.out)));(case Xf=>exact Bj.out);(case tB=>exact Kd.ec nv.out (by repeat (first|(with_reducible first|exact HB.out|apply qa|apply ja|apply ta|refine ua ?_ Wa.out|refine ua ?_ Ft.out)|exact HB.out)));(case sB=>exact ov.out);rintro e VF ⟨rfl,hb⟩;refine ⟨_,rfl,?_⟩;have Ub:=ia.mk (Sa (g:=Fa) (o:=.cells #[.slice Jb Ta.length Ib,.int .i64 Ra,.int .i64 Qa,.int .i64 Pa,.slice (some wj) La.length dc] 30 (0,0)) (by (with_reducible repeat (first|refine Ba ?_ _|refine Ca ?_|refine Aa ?_ _));refine Pb ?_ Fi.out _;(with_reducible repeat (first|refine Ba ?_ _|refine Ca ?_|refine Aa ?_ _));refine Pb ?_ Fi.out _;(with_reducible repeat (first|refine Ba ?_ _|refine Ca ?_|refine Aa ?_ _));refine Pb ?_ Fi.out _;(with_reducible repeat (first|refine Ba ?_ _|refine Ca ?_|refine Aa ?_ _));refine Pb ?_ Fi.out _;(with_reducible repeat (first|refine Ba ?_ _|refine Ca ?_|refine Aa ?_ _));refine Pb ?_ Fi.out _;(with_reducible repeat (first|refine Ba ?_ _|refine Ca ?_|refine Aa ?_ _));exact ya.out) hb);have fc:=ia.mk (Sa (g:=Ml) (o:=.cells #[.slice Ll ((Ia La Te).f0).length Il,.int .i64 ((Ia La Te).f1),.int .i64 ((Ia La Te).f2),.int .i64 ((Ia La Te).f3),.int .i64 ((Ia La Te).f4)] 68 (0,0)) (by (with_reducible repeat (first|refine Ba ?_ _|refine Ca ?_|refine Aa ?_ _));refine Rb (cs:=#[.slice Ll ((Ia La Te).f0).length Il,.int .i64 ((Ia La Te).f1),.int .i64 ((Ia La Te).f2),.int .i64 ((Ia La Te).f3),.int .i64 0]) ?_ 4 _ rfl;(with_reducible repeat (first|refine Ba ?_ _|refine Ca ?_|refine Aa ?_ _));refine Rb (cs:=#[.slice Ll ((Ia La Te).f0).length Il,.int .i64 ((Ia La Te).f1),.int .i64 ((Ia La Te).f2),.int .i64 0,.int .i64 0]) ?_ 3 _ rfl;(with_reducible repeat (first|refine Ba ?_ _|refine Ca ?_|refine Aa ?_ _));refine Rb (cs:=#[.slice Ll ((Ia La Te).f0).length Il,.int .i64 ((Ia La Te).f1),.int .i64 0,.int .i64 0,.int .i64 0]) ?_ 2 _ rfl;(with_reducible repeat (first|refine Ba ?_ _|refine Ca ?_|refine Aa ?_ _));refine Rb (cs:=#[.slice Ll ((Ia La Te).f0).length Il,.int .i64 0,.int .i64 0,.int .i64 0,.int .i64 0]) ?_ 1 _ rfl;(with_reducible repeat (first|refine Ba ?_ _|refine Ca ?_|refine Aa ?_ _));refine Rb (cs:=#[.slice none 0 0,.int .i64 0,.int .i64 0,.int .i64 0,.int .i64 0]) ?_ 0 _ rfl;(with_reducible repeat (first|refine Ba ?_ _|refine Ca ?_|refine Aa ?_ _));exact yj.out) hb);have Fc:=ia.mk (Oa (by repeat (first|(with_reducible first|exact HB.out|apply qa|apply ja|apply ta|refine ua ?_ Wa.out|refine ua ?_ Ft.out)|exact HB.out)) hb);clear ya yj HB;have ya:=Ub;have yj:=fc;have HB:=Fc;clear Ub fc Fc;(try clear hb);(try clear jk);(try clear hk);(try clear hi)));go_ret;exact ⟨by first|rfl|(simp [Ka,Ja] <;> rfl)|(simp [*,Ka,Ja] <;> rfl),by repeat (first|(with_reducible first|exact HB.out|apply qa|apply ja|apply ta|refine ua ?_ Wa.out|refine ua ?_ Ft.out)|exact HB.out)⟩
        ·rw [if_neg yt] at H;exact absurd H (by simp)
       ·rw [if_neg WC] at H;exact absurd H (by simp)
      ·rw [if_neg wv] at H;have yH:decide (Te < (La.length:Int))=false:=decide_eq_false wv;clear wv;obtain rfl:=Option.some.inj H;go_wp2;go_ret;exact ⟨by first|rfl|(simp [Ka,Ja] <;> rfl)|(simp [*,Ka,Ja] <;> rfl),by repeat (first|(with_reducible first|exact HB.out|apply qa|apply ja|apply ta|refine ua ?_ Wa.out)|exact HB.out)⟩
def Qq.f (Ie:Int) (Ra:Int) (Qa:Int) (Pa:Int) (ud:Int) (Kf:Int) (uf:ByteArray):Option (Int):=if Ie=4 then (some (-1)) else (if Ie=6 then (some (-1)) else (some Ra))
theorem Qq.calls (Ie:Int) (Ra:Int) (Qa:Int) (Pa:Int) (ud:Int) (Kf:Int) (uf:ByteArray) (r:Int) (w:World) (h:Qq.f Ie Ra Qa Pa ud Kf uf=some r) :
  Calls Try.prog 91 #[.agg #[.int .i64 Ie,.int .i64 Ra,.int .i64 Qa,.int .i64 Pa,.int .i64 ud,.int .i64 Kf,.string uf]] w fun e w'=>e = .returned (.int .i64 r)∧Below w.heap.size w w':=by
 have TD:=Try.underlying70;have HB:=ia.mk (Below.refl w.heap.size w);have H:(if Ie=4 then (some (-1)) else (if Ie=6 then (some (-1)) else (some Ra)))=some r:=h;clear h
 by_cases c2:Ie=4
 ·rw [if_pos c2] at H;have bA:(Ie == 4)=true:=beq_iff_eq.mpr c2;have rF:(Ie != 4)=false:=bne_eq_false_iff_eq.mpr c2;clear c2;obtain rfl:=Option.some.inj H;go_enter Try.func91,Try.ntmps91;go_wp2_with (first|((with_reducible refine Tb (N:=1) rfl ?_);refine Sb ?hg (N:=1) ?hd (cs:=#[.int .i64 Ie,.int .i64 Ra,.int .i64 Qa,.int .i64 Pa,.int .i64 ud,.int .i64 Kf,.string uf]) (t:=70) ?hr ?_;(case hd=>rfl);(case hg=>rfl);(case hr=>first|(go_simp;done)|(go_simp;rfl));intro Fa hg w3 ic hb;have Ub:=ia.mk (Oa (by repeat (first|(with_reducible first|exact HB.out|apply qa|apply ja|apply ta)|exact HB.out)) hb);have fc:=ia.mk (ic);have Fc:=ia.mk ((by rw [hg];exact (Ma (by repeat (first|(with_reducible first|exact HB.out|apply qa|apply ja|apply ta)|exact HB.out))):w.heap.size ≤ Fa));have Xc:=ia.mk ((by rw [hg];exact (Ma (by repeat (first|(with_reducible first|exact HB.out|apply qa|apply ja|apply ta)|exact HB.out))):w.heap.size ≤ Fa));clear HB;have HB:=Ub;have ya:=fc;have Kg:=Fc;have Wa:=Xc;clear Ub fc Fc Xc hb ic hg;have K4:w3.cell? ⟨Fa,0,none⟩=some (.int .i64 Ie):=(ga ya.out 0).trans rfl;have I4:w3.cell? ⟨Fa,1,none⟩=some (.int .i64 Ra):=(ga ya.out 1).trans rfl;have G4:w3.cell? ⟨Fa,2,none⟩=some (.int .i64 Qa):=(ga ya.out 2).trans rfl;have C4:w3.cell? ⟨Fa,3,none⟩=some (.int .i64 Pa):=(ga ya.out 3).trans rfl;have p4:w3.cell? ⟨Fa,4,none⟩=some (.int .i64 ud):=(ga ya.out 4).trans rfl;have o4:w3.cell? ⟨Fa,5,none⟩=some (.int .i64 Kf):=(ga ya.out 5).trans rfl;have m4:w3.cell? ⟨Fa,6,none⟩=some (.string uf):=(ga ya.out 6).trans rfl;have O3:=aa ya.out 0;have N3:=aa ya.out 1;have L3:=aa ya.out 2;have K3:=aa ya.out 3;have J3:=aa ya.out 4;have I3:=aa ya.out 5;have G3:=aa ya.out 6));go_ret;exact ⟨by first|rfl|(simp [Ka,Ja] <;> rfl)|(simp [*,Ka,Ja] <;> rfl),by repeat (first|(with_reducible first|exact HB.out|apply qa|apply ja|apply ta|refine ua ?_ Wa.out)|exact HB.out)⟩
 ·rw [if_neg c2] at H;have bA:(Ie == 4)=false:=beq_eq_false_iff_ne.mpr c2;have rF:(Ie != 4)=true:=bne_iff_ne.mpr c2
  by_cases c5:Ie=6
  ·rw [if_pos c5] at H;have Yo:(Ie == 6)=true:=beq_iff_eq.mpr c5;have Cz:(Ie != 6)=false:=bne_eq_false_iff_eq.mpr c5;clear c5;obtain rfl:=Option.some.inj H;go_enter Try.func91,Try.ntmps91;go_wp2_with (first|((with_reducible refine Tb (N:=1) rfl ?_);refine Sb ?hg (N:=1) ?hd (cs:=#[.int .i64 Ie,.int .i64 Ra,.int .i64 Qa,.int .i64 Pa,.int .i64 ud,.int .i64 Kf,.string uf]) (t:=70) ?hr ?_;(case hd=>rfl);(case hg=>rfl);(case hr=>first|(go_simp;done)|(go_simp;rfl));intro Fa hg w6 ic hb;have Ub:=ia.mk (Oa (by repeat (first|(with_reducible first|exact HB.out|apply qa|apply ja|apply ta)|exact HB.out)) hb);have fc:=ia.mk (ic);have Fc:=ia.mk ((by rw [hg];exact (Ma (by repeat (first|(with_reducible first|exact HB.out|apply qa|apply ja|apply ta)|exact HB.out))):w.heap.size ≤ Fa));have Xc:=ia.mk ((by rw [hg];exact (Ma (by repeat (first|(with_reducible first|exact HB.out|apply qa|apply ja|apply ta)|exact HB.out))):w.heap.size ≤ Fa));clear HB;have HB:=Ub;have ya:=fc;have Kg:=Fc;have Wa:=Xc;clear Ub fc Fc Xc hb ic hg;have XB:w6.cell? ⟨Fa,0,none⟩=some (.int .i64 Ie):=(ga ya.out 0).trans rfl;have WB:w6.cell? ⟨Fa,1,none⟩=some (.int .i64 Ra):=(ga ya.out 1).trans rfl;have VB:w6.cell? ⟨Fa,2,none⟩=some (.int .i64 Qa):=(ga ya.out 2).trans rfl;have UB:w6.cell? ⟨Fa,3,none⟩=some (.int .i64 Pa):=(ga ya.out 3).trans rfl;have TB:w6.cell? ⟨Fa,4,none⟩=some (.int .i64 ud):=(ga ya.out 4).trans rfl;have XQ:w6.cell? ⟨Fa,5,none⟩=some (.int .i64 Kf):=(ga ya.out 5).trans rfl;have WQ:w6.cell? ⟨Fa,6,none⟩=some (.string uf):=(ga ya.out 6).trans rfl;have SB:=aa ya.out 0;have RB:=aa ya.out 1;have QB:=aa ya.out 2;have PB:=aa ya.out 3;have OB:=aa ya.out 4;have LQ:=aa ya.out 5;have KQ:=aa ya.out 6));go_ret;exact ⟨by first|rfl|(simp [Ka,Ja] <;> rfl)|(simp [*,Ka,Ja] <;> rfl),by repeat (first|(with_reducible first|exact HB.out|apply qa|apply ja|apply ta|refine ua ?_ Wa.out)|exact HB.out)⟩
  ·rw [if_neg c5] at H;have Yo:(Ie == 6)=false:=beq_eq_false_iff_ne.mpr c5;have Cz:(Ie != 6)=true:=bne_iff_ne.mpr c5;obtain rfl:=Option.some.inj H;go_enter Try.func91,Try.ntmps91;go_wp2_with (first|((with_reducible refine Tb (N:=1) rfl ?_);refine Sb ?hg (N:=1) ?hd (cs:=#[.int .i64 Ie,.int .i64 Ra,.int .i64 Qa,.int .i64 Pa,.int .i64 ud,.int .i64 Kf,.string uf]) (t:=70) ?hr ?_;(case hd=>rfl);(case hg=>rfl);(case hr=>first|(go_simp;done)|(go_simp;rfl));intro Fa hg w8 ic hb;have Ub:=ia.mk (Oa (by repeat (first|(with_reducible first|exact HB.out|apply qa|apply ja|apply ta)|exact HB.out)) hb);have fc:=ia.mk (ic);have Fc:=ia.mk ((by rw [hg];exact (Ma (by repeat (first|(with_reducible first|exact HB.out|apply qa|apply ja|apply ta)|exact HB.out))):w.heap.size ≤ Fa));have Xc:=ia.mk ((by rw [hg];exact (Ma (by repeat (first|(with_reducible first|exact HB.out|apply qa|apply ja|apply ta)|exact HB.out))):w.heap.size ≤ Fa));clear HB;have HB:=Ub;have ya:=fc;have Kg:=Fc;have Wa:=Xc;clear Ub fc Fc Xc hb ic hg;have yz:w8.cell? ⟨Fa,0,none⟩=some (.int .i64 Ie):=(ga ya.out 0).trans rfl;have xz:w8.cell? ⟨Fa,1,none⟩=some (.int .i64 Ra):=(ga ya.out 1).trans rfl;have wz:w8.cell? ⟨Fa,2,none⟩=some (.int .i64 Qa):=(ga ya.out 2).trans rfl;have vz:w8.cell? ⟨Fa,3,none⟩=some (.int .i64 Pa):=(ga ya.out 3).trans rfl;have uz:w8.cell? ⟨Fa,4,none⟩=some (.int .i64 ud):=(ga ya.out 4).trans rfl;have Z3:w8.cell? ⟨Fa,5,none⟩=some (.int .i64 Kf):=(ga ya.out 5).trans rfl;have Y3:w8.cell? ⟨Fa,6,none⟩=some (.string uf):=(ga ya.out 6).trans rfl;have rz:=aa ya.out 0;have qz:=aa ya.out 1;have pz:=aa ya.out 2;have oz:=aa ya.out 3;have mz:=aa ya.out 4;have F3:=aa ya.out 5;have E3:=aa ya.out 6));go_ret;exact ⟨by first|rfl|(simp [Ka,Ja] <;> rfl)|(simp [*,Ka,Ja] <;> rfl),by repeat (first|(with_reducible first|exact HB.out|apply qa|apply ja|apply ta|refine ua ?_ Wa.out)|exact HB.out)⟩
def KV (W:World) (B kb:Nat) (v:Value) (xs:List zZ) (nx:Int):Prop:=B ≤ kb∧W.heap[kb]? = some (.cells #[v,.int .i64 nx] 74 (0,0))∧Kd.R k79 79 W B (fun _=>True) v xs
def KS (W:World) (B kb:Nat) (xs:List zZ) (nx:Int):Prop:=∃ v,KV W B kb v xs nx
theorem KV.below {W W':World} {B kb:Nat} {v:Value} {xs:List zZ} {nx:Int} (h:KV W B kb v xs nx) (hb:Below W.heap.size W W'):KV W' B kb v xs nx:=⟨h.1,Sa h.2.1 hb,Kd.Ic h.2.2 hb⟩
section
variable {W W':World} {B kb:Nat} {xs:List zZ} {nx:Int}
theorem KS.below (h:KS W B kb xs nx) (hb:Below W.heap.size W W'):KS W' B kb xs nx:=by
 obtain ⟨v,h⟩:=h;exact ⟨v,h.below hb⟩
theorem KS.alloc (h:KS W B kb xs nx) (o:Obj):KS (W.alloc o) B kb xs nx:=h.below (qa (Below.refl _ _) o)
theorem KS.drew (h:KS W B kb xs nx):KS W.drew B kb xs nx:=h.below (Po (Below.refl _ _))
theorem KS.drewN (h:KS W B kb xs nx) (n:Nat):KS (W.drewN n) B kb xs nx:=h.below (ja (Below.refl _ _) n)
theorem KS.kept {S:Nat→Prop} (h:KS W B kb xs nx) (hk:Kept W W' S) (hS:∀ k,S k→∃ cells t,W.heap[k]? = some (.cells cells t (0,0))∧t ≠ 74∧t ≠ 79):KS W' B kb xs nx:=by
 obtain ⟨v,h0,h1,h2⟩:=h;refine ⟨v,h0,Ii h1 hk ?_,Kd.Gc (Kd.Zr (Kd.Yh h2) hk ?_) (fun _ _=>trivial)⟩
 ·intro hs;obtain ⟨cells,t,hc,ht,_⟩:=hS kb hs;rw [h1] at hc;injection hc with hc
  injection hc with _ hc
  exact ht hc.symm
 ·rintro k ⟨_,_,_,q,hq,cells',YI⟩ hs;obtain ⟨cells,t,hc,_,ht⟩:=hS k hs;rw [YI] at hc;injection hc with hc
  injection hc with _ hc
  have:q=79:=by simpa [k79,Kd.mQ,Kd.pair,Kd.int,Kd.scalar] using hq
  exact ht (hc.symm.trans this)
end
end Go.Proofs.Ytmifdccaajngcaa.P
end
section
namespace Go.Proofs.Ytmifdccaajngcaa.P
open Go.RowKit Go.Proofs.Na.Ec Go.Proofs.Na.gf Go.Proofs.Na.Eg
set_option linter.unusedVariables false
set_option linter.unusedSimpArgs false
section
variable {W:World} {B kb:Nat} {v:Value} {xs:List zZ} {nx:Int}
end
end Go.Proofs.Ytmifdccaajngcaa.P
end
section
namespace Go.Proofs.Ytmifdccaajngcaa.P
open Go.RowKit Go.Proofs.Na.Ec Go.Proofs.Na.gf Go.Proofs.Na.Eg
set_option linter.unusedVariables false
set_option linter.unusedSimpArgs false
def Zd (x:Nd):Int:=if x.f0=4 then -1 else if x.f0=6 then -1 else x.f1
theorem eD (x:Nd) (w:World):Calls Try.prog 91 #[.agg #[.int .i64 x.f0,.int .i64 x.f1,.int .i64 x.f2,.int .i64 x.f3,.int .i64 x.f4,.int .i64 x.f5,.string x.f6]] w fun e w'=>e = .returned (.int .i64 (Zd x))∧Below w.heap.size w w' :=
 Qq.calls _ _ _ _ _ _ _ _ w (by
  unfold Qq.f Zd
  split
  ·rfl
  ·split <;> rfl)
section
variable {W:World} {B kb:Nat} {xs:List zZ} {nx:Int}
end
end Go.Proofs.Ytmifdccaajngcaa.P
end
section
namespace Go.Proofs.Ytmifdccaajngcaa.P
open Go.RowKit Go.Proofs.Na.Ec Go.Proofs.Na.gf Go.Proofs.Na.Eg
set_option linter.unusedVariables false
set_option linter.unusedSimpArgs false
theorem Ev.pos {α:Type} {c:Prop} [Decidable c] {f g:Nat→Option α} {r:α} (h:c) (k:Ev f r):Ev (fun n=>if c then f n else g n) r:=Ev.congr (fun n=>if_pos h) k
theorem Ev.neg {α:Type} {c:Prop} [Decidable c] {f g:Nat→Option α} {r:α} (h:¬ c) (k:Ev g r):Ev (fun n=>if c then f n else g n) r:=Ev.congr (fun n=>if_neg h) k
theorem Ev.val {α β:Type} {a:α} {f:Nat→α→Option β} {r:β} (k:Ev (fun n=>f n a) r):Ev (fun n=>(some a).bind (f n)) r:=Ev.congr (fun n=>rfl) k
theorem Ev.here {α:Type} {o:Option α} {r:α} (h:o=some r):Ev (fun _=>o) r:=Ev.congr (fun n=>h) (Ev.now r)
theorem Rh {x:Int} (h:-9223372036854775808 ≤ x) (h':x ≤ 9223372036854775807):wrap64 x=x:=by
 unfold wrap64;omega
theorem ug {i n:Nat} (h:i < n) (hn:n ≤ 9223372036854775807):wrap64 ((i:Int) + 1)=((i + 1:Nat):Int):=by
 rw [Rh (by omega) (by omega)];omega
theorem Wi {ρ:Type} {n:Nat} {r:ρ} (P:Nat→Prop) (hend:P n) (hstep:∀ i,i < n→P (i + 1)→P i):∀ i,i ≤ n→P i:=by
 have key:∀ d i,i + d=n→P i:=by
  intro d
  induction d with
  | zero =>
   intro i hi;have:i=n:=by omega
   exact this ▸ hend
  | succ d ih =>
   intro i hi;exact hstep i (by omega) (ih (i + 1) (by omega))
 intro i hi;exact key (n - i) i (by omega)
theorem ZB {α:Type} {m:List α} {z:α} {i:Nat} (h:i < m.length):(m.take i ++ List.replicate (m.length - i) z).set i (m.getD i z)=m.take (i + 1) ++ List.replicate (m.length - (i + 1)) z:=by
 rw [List.set_append_right _ _ (by rw [List.length_take];omega),List.length_take,Nat.min_eq_left (by omega),Nat.sub_self];rw [show m.length - i=(m.length - (i + 1)) + 1 from by omega,List.replicate_succ,List.set_cons_zero,List.take_succ_eq_append_getElem h,List.append_assoc];simp [List.getD_eq_getElem?_getD,List.getElem?_eq_getElem h]
theorem oD {α:Type} {m:List α} {z:α}:m.take 0 ++ List.replicate (m.length - 0) z=List.replicate m.length z:=by simp
theorem aC {α:Type} {m:List α} {z:α}:m.take m.length ++ List.replicate (m.length - m.length) z=m:=by simp
theorem JP (l:List Int) (i:Nat):rd l (i:Int)=l.getD i 0:=rfl
def iota (m:Int) (n:Nat):List Int:=(List.range n).map fun (j:Nat)=>m + (j:Int)
theorem bl (m:Int) (n:Nat):(iota m n).length=n:=by simp [iota]
theorem iD {m:Int} {n i:Nat} (h:i < n):(iota m n).getD i 0=m + i:=by simp [iota,List.getD_eq_getElem?_getD,h]
theorem rG {α:Type} {m l:List α} {z:α} {i:Nat} (hl:l.length=m.length) (h:i < m.length):(m.take i ++ l.drop i).set i (m.getD i z)=m.take (i + 1) ++ l.drop (i + 1):=by
 rw [List.set_append_right _ _ (by rw [List.length_take];omega),List.length_take,Nat.min_eq_left (by omega),Nat.sub_self];rw [List.drop_eq_getElem_cons (by omega),List.set_cons_zero,List.take_succ_eq_append_getElem h,List.append_assoc];simp [List.getD_eq_getElem?_getD,List.getElem?_eq_getElem h]
theorem CG (a b c:Int):ni.f a b c=some (wm a b c):=by
 unfold ni.f wm
 by_cases h:a ≥ b
 ·rw [if_pos h];have h':b ≤ a:=h;simp [h']
 ·rw [if_neg h];have h':¬ b ≤ a:=h;simp [h']
theorem JO (l:List Int) (hl:l.length ≤ 35184372088832):Ev (fun k=>Hf.f k l) l:=by
 refine Ev.congr (f:=fun k=>Hf.l0 k l (List.replicate l.length 0) 0) (fun k=>?_) ?_
 ·unfold Hf.f;rw [if_pos (by omega),if_pos (by omega)]
  rfl
 ·have key:=Wi (r:=l) (n:=l.length) (fun i=>Ev (fun k=>Hf.l0 k l (l.take i ++ List.replicate (l.length - i) 0) (i:Int)) l) ?_ ?_ 0 (by omega)
  ·simpa using key
  ·refine Ev.step (fun k=>by rw [Hf.l0]) ?_;refine Ev.neg (by omega) ?_;rw [aC];exact Ev.now l
  ·intro i hi h;refine Ev.step (fun k=>by rw [Hf.l0]) ?_;refine Ev.pos (by omega) (Ev.pos (by omega) (Ev.pos (by simp;omega) ?_));rw [ug hi (by omega),JP,Int.toNat_natCast,ZB hi];exact h
theorem KO (l:List Int) (hl:l.length ≤ 9223372036854775807):Ev (fun k=>We.f k l l) true:=by
 refine Ev.congr (f:=fun k=>We.l0 k l l 0) (fun k=>?_) ?_
 ·unfold We.f;rw [if_pos rfl]
 ·refine Wi (r:=true) (n:=l.length) (fun i=>Ev (fun k=>We.l0 k l l (i:Int)) true) ?_ ?_ 0 (by omega)
  ·refine Ev.step (fun k=>by rw [We.l0]) ?_;exact Ev.neg (by omega) (Ev.now _)
  ·intro i hi h;refine Ev.step (fun k=>by rw [We.l0]) ?_;refine Ev.pos (by omega) (Ev.pos (by omega) (Ev.pos (by omega) (Ev.pos rfl ?_)));rw [ug hi hl];exact h
theorem lU (l:List Int) (a:Int) (ha:0 ≤ a) (ha':a ≤ 1048576) (hl:l.length ≤ 9223372036854775807):∃ t,ij.f l a=some t∧t ≤ a∧(0 ≤ t→t + l.length=a):=by
 unfold ij.f;rw [Rh (by omega) (by omega)]
 split
 ·exact ⟨-1,rfl,by omega,by omega⟩
 ·exact ⟨_,rfl,by omega,by omega⟩
def Nn (x:Yn):Nd:=⟨x.f0,x.f1,x.f2,x.f3,x.f4,x.f5,x.f6⟩
theorem kH (l:List Yn) (hl:l.length ≤ 4398046511104):Ev (fun k=>Ge.f k l) (l.map Nn):=by
 refine Ev.congr (f:=fun k=>Ge.l0 k l (List.replicate l.length vm) 0) (fun k=>?_) ?_
 ·unfold Ge.f;rw [if_pos (by omega),if_pos (by omega)]
  rfl
 ·have key:=Wi (r:=l.map Nn) (n:=l.length) (fun i=>Ev (fun k=>Ge.l0 k l ((l.map Nn).take i ++ List.replicate ((l.map Nn).length - i) vm) (i:Int)) (l.map Nn)) ?_ ?_ 0 (by omega)
  ·rw [oD,List.length_map] at key;exact key
  ·refine Ev.step (fun k=>by rw [Ge.l0]) ?_;refine Ev.neg (by omega) ?_;have e:=aC (m:=l.map Nn) (z:=vm);rw [List.length_map] at e;rw [List.length_map,e];exact Ev.now _
  ·intro i hi h;refine Ev.step (fun k=>by rw [Ge.l0]) ?_;refine Ev.pos (by omega) (Ev.pos (by omega) ?_);unfold Im.f;refine Ev.val (Ev.pos (by simp;omega) ?_)
   have hc:Nn (Ad l (i:Int))=(l.map Nn).getD i vm:=by
    simp [Ad,List.getD_eq_getElem?_getD,hi]
   have hf:=ZB (m:=l.map Nn) (z:=vm) (i:=i) (by rw [List.length_map];exact hi);rw [← hc] at hf;rw [ug hi (by omega),Int.toNat_natCast];have e:=hf ▸ h;exact e
theorem sH (l:List Nd) (hl:l.length ≤ 9223372036854775807):Ev (fun k=>Uc.f k l l) true:=by
 refine Ev.congr (f:=fun k=>Uc.l0 k l l 0) (fun k=>?_) ?_
 ·unfold Uc.f;rw [if_pos rfl]
 ·refine Wi (r:=true) (n:=l.length) (fun i=>Ev (fun k=>Uc.l0 k l l (i:Int)) true) ?_ ?_ 0 (by omega)
  ·refine Ev.step (fun k=>by rw [Uc.l0]) ?_;exact Ev.neg (by omega) (Ev.now _)
  ·intro i hi h;refine Ev.step (fun k=>by rw [Uc.l0]) ?_;refine Ev.pos (by omega) (Ev.pos (by omega) (Ev.pos (by omega) ?_));unfold Cl.f;simp only [if_true];refine Ev.val (Ev.pos rfl ?_);rw [ug hi hl];exact h
def bz (l:List Yn):Nat:=(l.map fun x=>x.f6.size).sum
def SN (l:List Yn):Nat:=l.length + bz l
def K1 (l:List qm):Nat:=l.length + (l.map fun x=>SN x.f0).sum
theorem Dv {l:List Yn} {i:Nat} (h:i < l.length):Ad l (i:Int)=l[i]:=by simp [Ad,List.getD_eq_getElem?_getD,h]
theorem oq {l:List qm} {i:Nat} (h:i < l.length):Ce l (i:Int)=l[i]:=by simp [Ce,List.getD_eq_getElem?_getD,h]
theorem mH (l:List Yn) (a:Int) (ha:0 ≤ a) (ha':a ≤ 1048576) (hl:l.length ≤ 9223372036854775807) (ht:∀ x ∈ l,x.f6.size ≤ 9223372036854775807) :
  ∃ t,Ev (fun k=>Oe.f k l a) t∧t ≤ a∧(0 ≤ t→t + SN l=a):=by
 have key:=Wi (ρ:=Unit) (r:=()) (n:=l.length) (fun i=>∀ a:Int,0 ≤ a→a ≤ 1048576→∃ t,Ev (fun k=>Oe.l0 k l a (i:Int)) t∧t ≤ a∧(0 ≤ t→t + bz (l.drop i)=a)) ?_ ?_ 0 (by omega)
 ·unfold Oe.f;rw [Rh (by omega) (by omega)]
  by_cases h:a - (l.length:Int) < 0
  ·exact ⟨-1,Ev.pos h (Ev.now _),by omega,by omega⟩
  ·obtain ⟨t,e1,e2,e3⟩:=key (a - l.length) (by omega) (by omega);refine ⟨t,Ev.neg h e1,by omega,fun h0=>?_⟩;have:=e3 h0;rw [List.drop_zero] at this;unfold SN;omega
 ·intro a h0 h1;refine ⟨a,?_,by omega,?_⟩
  ·refine Ev.step (fun k=>by rw [Oe.l0]) ?_;exact Ev.neg (by omega) (Ev.now _)
  ·intro _;rw [List.drop_length];simp [bz]
 ·intro i hi ih a h0 h1;have hx:=ht l[i] (List.getElem_mem hi)
  have hd:bz (l.drop i)=l[i].f6.size + bz (l.drop (i + 1)):=by
   rw [List.drop_eq_getElem_cons hi];simp only [bz,List.map_cons,List.sum_cons]
  by_cases h:a - (l[i].f6.size:Int) < 0
  ·refine ⟨-1,?_,by omega,by omega⟩;refine Ev.step (fun k=>by rw [Oe.l0]) ?_;refine Ev.pos (by omega) (Ev.pos (by omega) ?_);rw [Dv hi];unfold Ej.f;rw [Rh (by omega) (by omega),if_pos h];exact Ev.val (Ev.pos (by decide) (Ev.now _))
  ·obtain ⟨t,e1,e2,e3⟩:=ih (a - l[i].f6.size) (by omega) (by omega);refine ⟨t,?_,by omega,fun hh=>by have:=e3 hh;omega⟩;refine Ev.step (fun k=>by rw [Oe.l0]) ?_;refine Ev.pos (by omega) (Ev.pos (by omega) ?_);rw [Dv hi];unfold Ej.f;rw [Rh (by omega) (by omega),if_neg h];refine Ev.val (Ev.neg (by omega) ?_);rw [ug hi hl];exact e1
theorem nH (l:List qm) (a:Int) (ha:0 ≤ a) (ha':a ≤ 1048576) (hl:l.length ≤ 9223372036854775807) (ht:∀ x ∈ l,x.f0.length ≤ 9223372036854775807∧∀ y ∈ x.f0,y.f6.size ≤ 9223372036854775807) :
  ∃ t,Ev (fun k=>He.f k l a) t∧t ≤ a∧(0 ≤ t→t + K1 l=a):=by
 have key:=Wi (ρ:=Unit) (r:=()) (n:=l.length) (fun i=>∀ a:Int,0 ≤ a→a ≤ 1048576→∃ t,Ev (fun k=>He.l0 k l a (i:Int)) t∧t ≤ a∧(0 ≤ t→t + ((l.drop i).map fun x=>SN x.f0).sum=a)) ?_ ?_ 0 (by omega)
 ·unfold He.f;rw [Rh (by omega) (by omega)]
  by_cases h:a - (l.length:Int) < 0
  ·exact ⟨-1,Ev.pos h (Ev.now _),by omega,by omega⟩
  ·obtain ⟨t,e1,e2,e3⟩:=key (a - l.length) (by omega) (by omega);refine ⟨t,Ev.neg h e1,by omega,fun h0=>?_⟩;have:=e3 h0;rw [List.drop_zero] at this;unfold K1;omega
 ·intro a h0 h1;refine ⟨a,?_,by omega,?_⟩
  ·refine Ev.step (fun k=>by rw [He.l0]) ?_;exact Ev.neg (by omega) (Ev.now _)
  ·intro _;rw [List.drop_length];simp
 ·intro i hi ih a h0 h1;have hx:=ht l[i] (List.getElem_mem hi)
  have hd:((l.drop i).map fun x=>SN x.f0).sum=SN l[i].f0 + ((l.drop (i + 1)).map fun x=>SN x.f0).sum:=by
   rw [List.drop_eq_getElem_cons hi];simp only [List.map_cons,List.sum_cons]
  obtain ⟨u,f1,f2,f3⟩:=mH l[i].f0 a h0 h1 hx.1 hx.2
  by_cases h:u < 0
  ·refine ⟨-1,?_,by omega,by omega⟩;refine Ev.step (fun k=>by rw [He.l0]) ?_;refine Ev.pos (by omega) (Ev.pos (by omega) ?_);rw [oq hi];unfold Fj.f;refine Ev.bind (Ev.bind f1 (Ev.pos h (Ev.now _))) ?_;exact Ev.pos (by decide) (Ev.now _)
  ·obtain ⟨t,e1,e2,e3⟩:=ih u (by omega) (by omega);have:=f3 (by omega);refine ⟨t,?_,by omega,fun hh=>by have:=e3 hh;omega⟩;refine Ev.step (fun k=>by rw [He.l0]) ?_;refine Ev.pos (by omega) (Ev.pos (by omega) ?_);rw [oq hi];unfold Fj.f;refine Ev.bind (Ev.bind f1 (Ev.neg h (Ev.now _))) ?_;refine Ev.neg (by omega) ?_;rw [ug hi hl];exact e1
theorem IB {l:List Nat} {n:Nat} (h:n ∈ l):n ≤ l.sum:=by
 induction l with
 | nil=>cases h
 | cons a l ih =>
  rw [List.sum_cons];cases h with
  | head=>omega
  | tail _ h=>have:=ih h;omega
theorem qG {l:List qm} {n:Nat} (h:K1 l ≤ n):l.length ≤ n∧∀ x ∈ l,x.f0.length ≤ n:=by
 unfold K1 at h;refine ⟨by omega,fun x hx=>?_⟩;have:SN x.f0 ≤ (l.map fun x=>SN x.f0).sum:=IB (List.mem_map.mpr ⟨x,hx,rfl⟩);unfold SN at this h;omega
theorem eJ (x0:List Int) (x1 x2 x3:Int) (x4:List qm) (a:Int) (ha:0 ≤ a) (ha':a ≤ 1048576) (h0:x0.length ≤ 9223372036854775807) (hl:x4.length ≤ 9223372036854775807) (ht:∀ x ∈ x4,x.f0.length ≤ 9223372036854775807∧∀ y ∈ x.f0,y.f6.size ≤ 9223372036854775807) :
  ∃ t,Ev (fun k=>jj.f k x0 x1 x2 x3 x4 a) t∧t ≤ a∧(0 ≤ t→t + x0.length + K1 x4=a):=by
 obtain ⟨t,e1,e2,e3⟩:=lU x0 a ha ha' h0;unfold jj.f;rw [e1];simp only [Option.bind_some]
 by_cases ht':t < 0
 ·exact ⟨-1,Ev.pos ht' (Ev.now _),by omega,by omega⟩
 ·obtain ⟨u,f1,f2,f3⟩:=nH x4 t (by omega) (by omega) hl ht
  by_cases hu:u < 0
  ·exact ⟨-1,Ev.neg ht' (Ev.bind f1 (Ev.pos hu (Ev.now _))),by omega,by omega⟩
  ·exact ⟨u,Ev.neg ht' (Ev.bind f1 (Ev.neg hu (Ev.now _))),by omega,fun _=>by have:=e3 (by omega);have:=f3 (by omega);omega⟩
def gh (x:qm):Vf:=⟨x.f0.map Nn,x.f1,x.f2,x.f3,x.f4⟩
theorem lH (l:List qm) (hl:l.length ≤ 1048576) (hb:∀ x ∈ l,x.f0.length ≤ 1048576):Ev (fun k=>De.f k l) (l.map gh):=by
 refine Ev.congr (f:=fun k=>De.l0 k l (List.replicate l.length IC) 0) (fun k=>?_) ?_
 ·unfold De.f;rw [if_pos (by omega),if_pos (by omega)]
  rfl
 ·have key:=Wi (r:=l.map gh) (n:=l.length) (fun i=>Ev (fun k=>De.l0 k l ((l.map gh).take i ++ List.replicate ((l.map gh).length - i) IC) (i:Int)) (l.map gh)) ?_ ?_ 0 (by omega)
  ·rw [oD,List.length_map] at key;exact key
  ·refine Ev.step (fun k=>by rw [De.l0]) ?_;refine Ev.neg (by omega) ?_;have e:=aC (m:=l.map gh) (z:=IC);rw [List.length_map] at e;rw [List.length_map,e];exact Ev.now _
  ·intro i hi h;refine Ev.step (fun k=>by rw [De.l0]) ?_;refine Ev.pos (by omega) (Ev.pos (by omega) ?_);unfold Jm.f;have hx:=hb l[i] (List.getElem_mem hi);rw [oq hi];refine Ev.bind (Ev.bind (kH l[i].f0 (by omega)) (Ev.now _)) ?_;refine Ev.pos (by simp;omega) ?_
   have hc:gh l[i]=(l.map gh).getD i IC:=by
    simp [List.getD_eq_getElem?_getD,hi]
   have hf:=ZB (m:=l.map gh) (z:=IC) (i:=i) (by rw [List.length_map];exact hi);rw [← hc] at hf;rw [ug hi (by omega),Int.toNat_natCast];have e:=hf ▸ h;exact e
theorem pq {l:List Vf} {i:Nat} (h:i < l.length):Ia l (i:Int)=l[i]:=by simp [Ia,List.getD_eq_getElem?_getD,h]
theorem tH (l:List Vf) (hl:l.length ≤ 9223372036854775807) (hb:∀ x ∈ l,x.f0.length ≤ 9223372036854775807):Ev (fun k=>Zc.f k l l) true:=by
 refine Ev.congr (f:=fun k=>Zc.l0 k l l 0) (fun k=>?_) ?_
 ·unfold Zc.f;rw [if_pos rfl]
 ·refine Wi (r:=true) (n:=l.length) (fun i=>Ev (fun k=>Zc.l0 k l l (i:Int)) true) ?_ ?_ 0 (by omega)
  ·refine Ev.step (fun k=>by rw [Zc.l0]) ?_;exact Ev.neg (by omega) (Ev.now _)
  ·intro i hi h;refine Ev.step (fun k=>by rw [Zc.l0]) ?_;refine Ev.pos (by omega) (Ev.pos (by omega) (Ev.pos (by omega) ?_));unfold Dl.f;rw [pq hi];refine Ev.bind (Ev.bind (sH l[i].f0 (hb _ (List.getElem_mem hi))) (Ev.pos rfl (Ev.pos rfl (Ev.pos rfl (Ev.pos rfl (Ev.pos rfl (Ev.now _))))))) (Ev.pos rfl ?_);rw [ug hi hl];exact h
theorem dJ (x0:List Int) (x1 x2 x3:Int) (x4:List qm) (h0:x0.length ≤ 1048576) (hl:x4.length ≤ 1048576) (hb:∀ x ∈ x4,x.f0.length ≤ 1048576):Ev (fun k=>Th.f k x0 x1 x2 x3 x4) (x0,x1,x2,x3,x4.map gh):=by
 unfold Th.f;exact Ev.bind (JO x0 (by omega)) (Ev.bind (lH x4 hl hb) (Ev.now _))
theorem cC (x0:List Int) (x1 x2 x3:Int) (x4:List Vf) (h0:x0.length ≤ 9223372036854775807) (hl:x4.length ≤ 9223372036854775807) (hb:∀ x ∈ x4,x.f0.length ≤ 9223372036854775807):Ev (fun k=>zh.f k x0 x1 x2 x3 x4 x0 x1 x2 x3 x4) true:=by
 unfold zh.f;refine Ev.bind (KO x0 h0) ?_;refine Ev.pos rfl (Ev.pos rfl (Ev.pos rfl (Ev.pos rfl ?_)));exact Ev.bind (tH x4 hl hb) (Ev.pos rfl (Ev.now _))
attribute [local go_sem] Yk Wk Gm Fm tj sj Xk Vk
def Qf.l0:Nat→List ByteArray→ByteArray→Int→Option (Bool)
 | 0,_,_,_=>none
 | k + 1,x0,x1,x5=>if x5 < (x0.length:Int) then (if 0 ≤ x5 then (if (cm ByteArray.empty x0 x5).toList=x1.toList then (some true) else (Qf.l0 k x0 x1 (wrap64 (x5 + 1)))) else (none)) else (some false)
def Qf.f (k:Nat) (l0:List ByteArray) (a1:ByteArray):Option (Bool):=Qf.l0 k l0 a1 0
theorem Qf.calls (k:Nat) (A0:Option Addr) (c0:Nat) (l0:List ByteArray) (a1:ByteArray) (r:Bool) (w:World) (fk:Kd.C Kd.string w A0 l0.length l0) (hc0:l0.length ≤ c0) (h:Qf.f k l0 a1=some r) :
  Calls Try.prog 128 #[.slice A0 l0.length c0,.string a1] w fun e w'=>e = .returned (.bool r)∧Wd w w':=by
 have Jh:=ia.mk fk;have uD:=ia.mk hc0;clear fk hc0;have H:(Qf.l0 k l0 a1 0)=some r:=h;clear h;have H':=ia.mk H;clear H;go_enter Try.func128,Try.ntmps128;go_wp2
 go_loopg [5] k (fun kq v5 w'=>∃ (za:Int),v5 = .int .i64 za∧ia (Qf.l0 kq l0 a1 za=some r)∧ia (kq ≤ k)∧Wd w w')
 case atStart=>exact ⟨(0),(by first|rfl|(simp;done)|(simp [*];done)),H',⟨Nat.le_refl _⟩,by repeat (first|exact Wd.refl _|apply Wd.step)⟩
 case round =>
  clear H'
  try clear c1
  try clear p2
  (try clear HA);(try clear jh);obtain ⟨za,rfl,HA,jh,⟨m1,rfl⟩⟩:=hrel;cases gk with
  | zero=>exact absurd HA.out (by simp [Qf.l0])
  | succ k1 =>
   have H:=HA.out;clear HA;simp only [Qf.l0] at H
   by_cases c3:za < (l0.length:Int)
   ·rw [if_pos c3] at H;have aj:decide (za < (l0.length:Int))=true:=decide_eq_true c3;clear c3
    by_cases c4:0 ≤ za
    ·rw [if_pos c4] at H;have Fl:decide (0 ≤ za)=true:=decide_eq_true c4;clear c4
     by_cases c5:(cm ByteArray.empty l0 za).toList=a1.toList
     ·rw [if_pos c5] at H;have Yo:((cm ByteArray.empty l0 za).toList == a1.toList)=true:=beq_iff_eq.mpr c5;have Cz:((cm ByteArray.empty l0 za).toList != a1.toList)=false:=bne_eq_false_iff_eq.mpr c5;clear c5;obtain rfl:=Option.some.inj H;have Le:0 ≤ (za:Int):=of_decide_eq_true (by first|(with_reducible assumption)|assumption);have Ke:za < (l0.length:Int):=of_decide_eq_true (by first|(with_reducible assumption)|assumption);obtain ⟨Oc,Eh,Tc⟩:=Kd.av Jh.out za Le Ke;cases Eh;replace Le:=eq_true Le;replace Ke:=eq_true Ke;go_wp2;go_ret;exact ⟨by first|rfl|(simp;done)|(simp [*];done),by repeat (first|exact Wd.refl _|apply Wd.step)⟩
     ·rw [if_neg c5] at H;have Yo:((cm ByteArray.empty l0 za).toList == a1.toList)=false:=beq_eq_false_iff_ne.mpr c5;have Cz:((cm ByteArray.empty l0 za).toList != a1.toList)=true:=bne_iff_ne.mpr c5;have H':=ia.mk H;clear H;have Le:0 ≤ (za:Int):=of_decide_eq_true (by first|(with_reducible assumption)|assumption);have Ke:za < (l0.length:Int):=of_decide_eq_true (by first|(with_reducible assumption)|assumption);obtain ⟨Oc,Eh,Tc⟩:=Kd.av Jh.out za Le Ke;cases Eh;replace Le:=eq_true Le;replace Ke:=eq_true Ke;go_wp2
      go_roundg k1
      case measure=>have:=jh.out;omega
      case rel=>exact ⟨(wrap64 (za + 1)),(by first|rfl|(simp;done)|(simp [*];done)),H',⟨by have:=jh.out;omega⟩,by repeat (first|exact Wd.refl _|apply Wd.step)⟩
    ·rw [if_neg c4] at H;exact absurd H (by simp)
   ·rw [if_neg c3] at H;have aj:decide (za < (l0.length:Int))=false:=decide_eq_false c3;clear c3;obtain rfl:=Option.some.inj H;go_wp2;go_ret;exact ⟨by first|rfl|(simp;done)|(simp [*];done),by repeat (first|exact Wd.refl _|apply Wd.step)⟩
def xb.f (a0:Int) (a1:Int) (a2:Int):Option (Bool):=if a0 ≥ a1 then (some (decide (a0 ≤ a2))) else (some false)
theorem xb.calls (a0:Int) (a1:Int) (a2:Int) (r:Bool) (w:World) (h:xb.f a0 a1 a2=some r) :
  Calls Try.prog 54 #[.int .i64 a0,.int .i64 a1,.int .i64 a2] w fun e w'=>e = .returned (.bool r)∧Wd w w':=by
 have H:(if a0 ≥ a1 then (some (decide (a0 ≤ a2))) else (some false))=some r:=h;clear h
 by_cases c4:a0 ≥ a1
 ·rw [if_pos c4] at H;have Fl:decide (a1 ≤ a0)=true:=decide_eq_true c4;clear c4;obtain rfl:=Option.some.inj H;go_enter Try.func54,Try.ntmps54;go_wp2;go_ret;exact ⟨by first|rfl|(simp;done)|(simp [*];done),by repeat (first|exact Wd.refl _|apply Wd.step)⟩
 ·rw [if_neg c4] at H;have Fl:decide (a1 ≤ a0)=false:=decide_eq_false c4;clear c4;obtain rfl:=Option.some.inj H;go_enter Try.func54,Try.ntmps54;go_wp2;go_ret;exact ⟨by first|rfl|(simp;done)|(simp [*];done),by repeat (first|exact Wd.refl _|apply Wd.step)⟩
end Go.Proofs.Ytmifdccaajngcaa.P
end
