import Derived.Test.YtoomcmaifgkkfaaProg
import Derived.Below
import Derived.Deep.Draws
import Derived.Deep.AppendLies
import Derived.Maps.AppendAt
import Derived.OwnWalk
import Derived.Laws.BytesArg
import Derived.Laws.MakeOwn
import Derived.Laws.OwnMore
import Derived.Deep.OwnRows
import Derived.Tactics
import Derived.Lib.ConvBytes
import Derived.Laws.Slices
import Derived.WalkKit
import Derived.KernelRfl
import Derived.RowKit3
import Derived.Deep.LoopGhost
import Derived.Deep.QuietTactic
import Derived.BigQuiet
import Derived.WideLaws
import Derived.Deep.DeepCutAuto
import Derived.Deep.CutBlock
import Derived.Deep.RegionHeld3
import Derived.Laws.Rows
import Derived.Lib.AppendStr
import Derived.ArgAppend
import Derived.Laws.IdiomCopy
import Derived.OrdersHeld
import Derived.Laws.BitsLemmas
import Derived.RowKit
import Derived.Test.YtoomcmaifgkkfaaQAimsW1
import Derived.Deep.Slices
import Derived.ChangeArms
import Derived.OpenShut
import Derived.WideShapes
set_option maxHeartbeats 8000000
set_option maxRecDepth 100000
section
namespace Go.Proofs.Ytoomcmaifgkkfaa.P
open Go.RowKit Go.Proofs.Da.qb Go.Proofs.Da.Jd Go.Proofs.Da.Gf
set_option linter.unusedVariables false
set_option linter.unusedSimpArgs false
attribute [local go_sem] Aj yj Nk Mk si qi zj xj
def RF:Option Int→Value
 | none=>.nilIface
 | some c=>.iface 0 (.int .i64 c)
theorem Ia:RF none = .nilIface:=rfl
theorem Ga (c:Int):RF (some c) = .iface 0 (.int .i64 c):=rfl
theorem info3:(Try.prog.info? 3).map (fun i=>(i.zero,i.size,i.bytes))=some (some (.int .i64 0),1,8):=by kernel_rfl
theorem TC:(Try.prog.info? 67).map (fun i=>(i.zero,i.size,i.bytes))=some (some (.agg #[(.int .i64 0),(.int .i64 0),(.int .i64 0),(.int .i64 0),(.int .i64 0)]),5,40):=by kernel_rfl
structure Cn where
 f0:Int
 f1:Int
 f2:Int
 f3:Int
 f4:Int
def jN:Cn:=⟨(0:Int),(0:Int),(0:Int),(0:Int),(0:Int)⟩
def Rw:Kd Cn:=Kd.rH (Kd.pair (Kd.int .i64) (Kd.pair (Kd.int .i64) (Kd.pair (Kd.int .i64) (Kd.pair (Kd.int .i64) (Kd.int .i64))))) (fun x:Cn=>(x.f0,x.f1,x.f2,x.f3,x.f4))
theorem Qw {w:World} {x:Cn} {cs:List Value} (h:Rw.K w x cs):cs=[.int .i64 x.f0,.int .i64 x.f1,.int .i64 x.f2,.int .i64 x.f3,.int .i64 x.f4]:=by
 obtain ⟨_,_,rfl,rfl,⟨_,_,rfl,rfl,⟨_,_,rfl,rfl,⟨_,_,rfl,rfl,rfl⟩⟩⟩⟩:=h;exact rfl
def He (xs:List Cn) (i:Int):Cn:=xs.getD i.toNat jN
theorem QD {w:World} {A:Option Addr} {n:Nat} {xs:List Cn} (h:Kd.C Rw w A n xs) (i:Int) (h0:0 ≤ i) (h1:i < n):∃ ad , A=some ad∧w.cell? (ad.add (i.toNat * 5))=some (.int .i64 (He xs i).f0)∧w.cell? ⟨(ad.add (i.toNat * 5)).block,(ad.add (i.toNat * 5)).off + 1,none⟩=some (.int .i64 (He xs i).f1)∧w.cell? ⟨(ad.add (i.toNat * 5)).block,(ad.add (i.toNat * 5)).off + 2,none⟩=some (.int .i64 (He xs i).f2)∧w.cell? ⟨(ad.add (i.toNat * 5)).block,(ad.add (i.toNat * 5)).off + 3,none⟩=some (.int .i64 (He xs i).f3)∧w.cell? ⟨(ad.add (i.toNat * 5)).block,(ad.add (i.toNat * 5)).off + 4,none⟩=some (.int .i64 (He xs i).f4):=by
 obtain ⟨ad,c,e,_,hK,hc0⟩:=Kd.CC h jN i h0 h1;have hc:∀ j u,c[j]? = some u→w.cell? (ad.add (i.toNat * 5 + j))=some u:=hc0;obtain rfl:=Qw hK;exact ⟨ad,e,hc 0 _ rfl,by rw [← wg _ _ 1 (by omega)];exact hc 1 _ rfl,by rw [← wg _ _ 2 (by omega)];exact hc 2 _ rfl,by rw [← wg _ _ 3 (by omega)];exact hc 3 _ rfl,by rw [← wg _ _ 4 (by omega)];exact hc 4 _ rfl⟩
structure rG where
 f0:(List Int)
 f1:Int
 f2:Int
 f3:(List Cn)
def oN:Kd rG:=Kd.rH (Kd.pair (Kd.slice 3 (Kd.int .i64)) (Kd.pair (Kd.int .i64) (Kd.pair (Kd.int .i64) (Kd.slice 96 Rw)))) (fun x:rG=>(x.f0,x.f1,x.f2,x.f3))
theorem Tw {w:World} {x:rG} {cs:List Value} (h:oN.K w x cs):∃ A0 c0 A3 c3,cs=[.slice A0 x.f0.length c0,.int .i64 x.f1,.int .i64 x.f2,.slice A3 x.f3.length c3]∧x.f0.length ≤ c0∧(Kd.int .i64).C w A0 x.f0.length x.f0∧x.f3.length ≤ c3∧Rw.C w A3 x.f3.length x.f3:=by
 obtain ⟨_,_,rfl,⟨A0,c0,rfl,l0,g0⟩,⟨_,_,rfl,rfl,⟨_,_,rfl,rfl,⟨A3,c3,rfl,l3,g3⟩⟩⟩⟩:=h;exact ⟨A0,c0,A3,c3,rfl,l0,g0,l3,g3⟩
structure ld where
 f0:Int
 f1:Int
 f2:Int
 f3:Int
 f4:Int
def wk:ld:=⟨(0:Int),(0:Int),(0:Int),(0:Int),(0:Int)⟩
def ug:Kd ld:=Kd.rH (Kd.pair (Kd.int .i64) (Kd.pair (Kd.int .i64) (Kd.pair (Kd.int .i64) (Kd.pair (Kd.int .i64) (Kd.int .i64))))) (fun x:ld=>(x.f0,x.f1,x.f2,x.f3,x.f4))
theorem Sw {w:World} {x:ld} {cs:List Value} (h:ug.K w x cs):cs=[.int .i64 x.f0,.int .i64 x.f1,.int .i64 x.f2,.int .i64 x.f3,.int .i64 x.f4]:=by
 obtain ⟨_,_,rfl,rfl,⟨_,_,rfl,rfl,⟨_,_,rfl,rfl,⟨_,_,rfl,rfl,rfl⟩⟩⟩⟩:=h;exact rfl
theorem Ke {w:World} {base:Nat} {ok:Nat→Prop} {x:ld} {cs:List Value} (h:ug.M w base ok x cs):cs=[.int .i64 x.f0,.int .i64 x.f1,.int .i64 x.f2,.int .i64 x.f3,.int .i64 x.f4]:=by
 obtain ⟨_,_,rfl,rfl,⟨_,_,rfl,rfl,⟨_,_,rfl,rfl,⟨_,_,rfl,rfl,rfl⟩⟩⟩⟩:=h;exact rfl
theorem Hi (w:World) (base:Nat) (ok:Nat→Prop) (x:ld)  : ug.M w base ok x [.int .i64 x.f0,.int .i64 x.f1,.int .i64 x.f2,.int .i64 x.f3,.int .i64 x.f4]:=⟨[.int .i64 x.f0],[.int .i64 x.f1,.int .i64 x.f2,.int .i64 x.f3,.int .i64 x.f4],rfl,rfl,⟨[.int .i64 x.f1],[.int .i64 x.f2,.int .i64 x.f3,.int .i64 x.f4],rfl,rfl,⟨[.int .i64 x.f2],[.int .i64 x.f3,.int .i64 x.f4],rfl,rfl,⟨[.int .i64 x.f3],[.int .i64 x.f4],rfl,rfl,rfl⟩⟩⟩⟩
def ya (xs:List ld) (i:Int):ld:=xs.getD i.toNat wk
theorem Uf {w:World} {A:Option Addr} {n:Nat} {xs:List ld} (h:Kd.C ug w A n xs) (i:Int) (h0:0 ≤ i) (h1:i < n):∃ ad , A=some ad∧w.cell? (ad.add (i.toNat * 5))=some (.int .i64 (ya xs i).f0)∧w.cell? ⟨(ad.add (i.toNat * 5)).block,(ad.add (i.toNat * 5)).off + 1,none⟩=some (.int .i64 (ya xs i).f1)∧w.cell? ⟨(ad.add (i.toNat * 5)).block,(ad.add (i.toNat * 5)).off + 2,none⟩=some (.int .i64 (ya xs i).f2)∧w.cell? ⟨(ad.add (i.toNat * 5)).block,(ad.add (i.toNat * 5)).off + 3,none⟩=some (.int .i64 (ya xs i).f3)∧w.cell? ⟨(ad.add (i.toNat * 5)).block,(ad.add (i.toNat * 5)).off + 4,none⟩=some (.int .i64 (ya xs i).f4):=by
 obtain ⟨ad,c,e,_,hK,hc0⟩:=Kd.CC h wk i h0 h1;have hc:∀ j u,c[j]? = some u→w.cell? (ad.add (i.toNat * 5 + j))=some u:=hc0;obtain rfl:=Sw hK;exact ⟨ad,e,hc 0 _ rfl,by rw [← wg _ _ 1 (by omega)];exact hc 1 _ rfl,by rw [← wg _ _ 2 (by omega)];exact hc 2 _ rfl,by rw [← wg _ _ 3 (by omega)];exact hc 3 _ rfl,by rw [← wg _ _ 4 (by omega)];exact hc 4 _ rfl⟩
def Yh (P:Program) (t:TypeId) {α:Type} (d:Kd α) (fit:α→Prop):Prop :=
 ∀ {H:Type} {enc:TypeId × Value→H} {w:World} {base:Nat} {spare:Nat→Bool} {held:Bool} {fuel:Nat} {cs:List Value} {x:DataW H × List MemPlace},
  DataW.trod enc P w base spare held fuel t cs=some x→∃ a:α,d.K w a cs∧fit a
theorem Uv {P:Program} {t:TypeId} {k:IntKind} (ht:P.underlying t=some (.int k)):Yh P t (Kd.int k) (fun n=>(Lit.int k n).wf=true):=by
 intro H enc w base spare held fuel cs x h;obtain ⟨n,rfl,_,hw⟩:=DataW.trod_int ht h;exact ⟨n,rfl,hw⟩
def vn (n:Int):Prop:=-9223372036854775808 ≤ n∧n ≤ 9223372036854775807
theorem wf_i64 {n:Int} (h:(Lit.int .i64 n).wf=true):vn n:=by
 simp [Lit.wf,IntKind.min,IntKind.max,IntKind.signed,IntKind.bits] at h;unfold vn;omega
theorem sg {P:Program} {t:TypeId} (ht:P.underlying t=some (.int .i64)):Yh P t (Kd.int .i64) vn:=by
 intro H enc w base spare held fuel cs x h;obtain ⟨n,h1,h2⟩:=Uv ht h;exact ⟨n,h1,wf_i64 h2⟩
theorem bn {α:Type} {p:Nat→α→Prop}:∀ n,(∀ i,i < n→∃ a,p i a)→∃ xs:List α,xs.length=n∧∀ (i:Nat) (a:α),xs[i]? = some a→p i a
 | 0,_=>⟨[],rfl,fun i a h=>by simp at h⟩
 | n + 1,h=>by
  obtain ⟨xs,hl,hx⟩:=bn n (fun i hi=>h i (by omega));obtain ⟨a,ha⟩:=h n (by omega);refine ⟨xs ++ [a],by simp [hl],fun i b hb=>?_⟩
  rcases Nat.lt_or_ge i xs.length with hi|hi
  ·rw [List.getElem?_append_left hi] at hb;exact hx i b hb
  ·have:i=n:=by
    have:=(List.getElem?_eq_some_iff.1 hb).1;simp [hl] at this;omega
   subst this;rw [List.getElem?_append_right hi,hl] at hb;simp at hb;exact hb ▸ ha
theorem Ym {P:Program} {t e e':TypeId} {α:Type} {d:Kd α} {fit:α→Prop} (ht:P.underlying t=some (.slice e)) (hs:P.cellsOf e=d.sz) (h:Yh P e d fit):Yh P t (Kd.slice e' d) (fun l=>l.length ≤ 9223372036854775807∧∀ a ∈ l,fit a):=by
 intro H enc w base spare held fuel cs x hx
 rcases Go.Deep.open_slice ht hx with ⟨rfl,_⟩|⟨a,len,cap,m,n,D,Pl,rfl,hb,hl,hm,hmm,_,hel⟩
 ·exact ⟨[],⟨none,0,rfl,Nat.le_refl _,rfl,by simp,fun hp=>absurd hp (by simp)⟩,by simp,by simp⟩
 ·have hle:len ≤ m:=by rw [hmm];split <;> omega
  have ML:len ≤ 9223372036854775807:=by simp only [maxLen] at hm;omega
  obtain ⟨xs,hxl,hxs⟩:=bn (α:=α) (p:=fun i y=>∃ c,c.length=d.sz∧d.K w y c∧(∀ j u,c[j]? = some u→w.cell? (a.add (i * d.sz + j))=some u)∧fit y) len (fun i hi=>by
   obtain ⟨cs',h1,h2⟩:=hel i (by omega);obtain ⟨y,hy,hf⟩:=h h2;obtain ⟨_,xF,yF⟩:=World.cells?_some h1;refine ⟨y,cs',by rw [xF,hs],hy,fun j u hu=>?_,hf⟩;have hj:j < P.cellsOf e:=by rw [← xF];exact (List.getElem?_eq_some_iff.1 hu).1
   rw [← hs,← Go.Deep.add_add,yF j hj]
   exact hu)
  refine ⟨xs,⟨some a,cap,by rw [hxl],by omega,rfl,by omega,fun _=>⟨a,rfl,fun j p hj=>?_⟩⟩,by omega,fun y hy=>?_⟩
  ·obtain ⟨c,h1,h2,h3,_⟩:=hxs j p hj;exact ⟨c,h1,h2,h3⟩
  ·obtain ⟨i,hi,rfl⟩:=List.getElem_of_mem hy;obtain ⟨c,_,_,_,h4⟩:=hxs i _ (List.getElem?_eq_getElem hi);exact h4
def Ar (P:Program) (fs:List Field) (off:Nat) {α:Type} (d:Kd α) (fit:α→Prop):Prop :=
 ∀ {H:Type} {enc:TypeId × Value→H} {w:World} {base:Nat} {spare:Nat→Bool} {held:Bool} {n:Nat} {cs:List Value},
  (∀ f ∈ fs,∃ y,DataW.trod enc P w base spare held n f.type ((cs.drop f.offset).take (P.cellsOf f.type))=some y)→cs.length=off + d.sz→∃ a:α,d.K w a (cs.drop off)∧fit a
theorem zo {P:Program} {f:Field} {off:Nat} {α:Type} {d:Kd α} {fit:α→Prop} (ho:f.offset=off) (hs:P.cellsOf f.type=d.sz) (h:Yh P f.type d fit):Ar P [f] off d fit:=by
 intro H enc w base spare held n cs hf hl;obtain ⟨y,hy⟩:=hf f (by simp);rw [ho,hs,List.take_of_length_le (by rw [List.length_drop];omega)] at hy;exact h hy
theorem Nf {P:Program} {f:Field} {fs:List Field} {off off2:Nat} {α β:Type} {d:Kd α} {d2:Kd β} {fit:α→Prop} {MF:β→Prop} (ho:f.offset=off) (hs:P.cellsOf f.type=d.sz) (LL:off2=off + d.sz) (h:Yh P f.type d fit) (h2:Ar P fs off2 d2 MF):Ar P (f :: fs) off (Kd.pair d d2) (fun p=>fit p.1∧MF p.2):=by
 intro H enc w base spare held n cs hf hl;have hl':cs.length=off + (d.sz + d2.sz):=hl;obtain ⟨y,hy⟩:=hf f (by simp);rw [ho,hs] at hy;obtain ⟨a,ha,fa⟩:=h hy;obtain ⟨b,hb,fb⟩:=h2 (fun g hg=>hf g (List.mem_cons_of_mem _ hg)) (by omega);refine ⟨(a,b),⟨(cs.drop off).take d.sz,cs.drop off2,?_,ha,hb⟩,fa,fb⟩;rw [LL,← List.drop_drop,List.take_append_drop]
theorem Lk {P:Program} {t:TypeId} {fs:Array Field} {α:Type} {d:Kd α} {fit:α→Prop} (ht:P.underlying t=some (.struct fs)) (hs:P.cellsOf t=d.sz) (h:Ar P fs.toList 0 d fit):Yh P t d fit:=by
 intro H enc w base spare held fuel cs x hx;obtain ⟨xs,n,_,_,hl,hxl,hf⟩:=DataW.trod_struct ht hx
 have:=h (w:=w) (enc:=enc) (base:=base) (spare:=spare) (held:=held) (n:=n) (cs:=cs) (fun f oR=>by
  obtain ⟨i,hi,rfl⟩:=List.getElem_of_mem oR;have hi':i < fs.size:=by simpa using hi
  have h1:=hf i (fs.toList[i]) (by simp [hi']);rw [List.getElem?_eq_getElem (by omega)] at h1
  exact ⟨_,h1⟩) (by omega)
 simpa using this
theorem Ep {P:Program} {t:TypeId} {α β:Type} {d:Kd α} {fit:α→Prop} {g:β→α} (gi:α→β) (hg:∀ a,g (gi a)=a) (h:Yh P t d fit):Yh P t (Kd.rH d g) (fun b=>fit (g b)):=by
 intro H enc w base spare held fuel cs x hx;obtain ⟨a,ha,hf⟩:=h hx;refine ⟨gi a,?_,?_⟩
 ·show d.K w (g (gi a)) cs
  rw [hg];exact ha
 ·show fit (g (gi a))
  rw [hg];exact hf
theorem Mw {P:Program} {t:TypeId} {fs:Array Field} {α:Type} {d:Kd α} {fit:α→Prop} {r:Reach} {b0:Nat} {H:Type} {enc:TypeId × Value→H} {w:World} {base:Nat} {spare:Nat→Bool} {held:Bool} {v:Value} {dt:DataW H} {p:List MemPlace}
  (ht:P.underlying t=some (.struct fs)) (h:Yh P t d fit) (hv:Value.okWide P w r b0 t v) (hd:DataW.Trod enc P w base spare held t v dt p) :
  ∃ (a:α) (cs:Array Value),v = .agg cs∧d.K w a cs.toList∧fit a:=by
 obtain ⟨cs,rfl,hsz⟩:=Go.WideShapes.okWide_struct ht hv;obtain ⟨fuel,hf⟩:=hd;obtain ⟨a,ha,pR⟩:=h hf;exact ⟨a,cs,rfl,by simpa [Value.cells] using ha,pR⟩
theorem Xy:Yh Try.prog 22 (Kd.slice 3 (Kd.int .i64)) (fun l=>l.length ≤ 9223372036854775807∧∀ a ∈ l,vn a):=Ym Try.underlying22 (by kernel_rfl) (sg Try.underlying3)
def Dx (x:Cn):Prop:=vn x.f0∧vn x.f1∧vn x.f2∧vn x.f3∧vn x.f4
theorem Uy:Yh Try.prog 96 Rw Dx:=Ep (fun p=>⟨p.1,p.2.1,p.2.2.1,p.2.2.2.1,p.2.2.2.2⟩) (fun _=>rfl) (Lk Try.underlying96 (by kernel_rfl) (Nf rfl (by kernel_rfl) (by kernel_rfl) (sg Try.underlying3) (Nf rfl (by kernel_rfl) (by kernel_rfl) (sg Try.underlying3) (Nf rfl (by kernel_rfl) (by kernel_rfl) (sg Try.underlying3) (Nf rfl (by kernel_rfl) (by kernel_rfl) (sg Try.underlying3) (zo rfl (by kernel_rfl) (sg Try.underlying3)))))))
theorem Wy:Yh Try.prog 23 (Kd.slice 96 Rw) (fun l=>l.length ≤ 9223372036854775807∧∀ a ∈ l,Dx a):=Ym Try.underlying23 (by kernel_rfl) Uy
def VB (x:rG):Prop:=(fun l=>l.length ≤ 9223372036854775807∧∀ a ∈ l,vn a) x.f0∧vn x.f1∧vn x.f2∧(fun l=>l.length ≤ 9223372036854775807∧∀ a ∈ l,Dx a) x.f3
theorem Vy:Yh Try.prog 25 oN VB:=Ep (fun p=>⟨p.1,p.2.1,p.2.2.1,p.2.2.2⟩) (fun _=>rfl) (Lk Try.underlying25 (by kernel_rfl) (Nf rfl (by kernel_rfl) (by kernel_rfl) Xy (Nf rfl (by kernel_rfl) (by kernel_rfl) (sg Try.underlying3) (Nf rfl (by kernel_rfl) (by kernel_rfl) (sg Try.underlying3) (zo rfl (by kernel_rfl) Wy)))))
def Ya.f (a0:Int) (a1:Int) (a2:Int):Option (Bool):=if a0 ≥ a1 then (some (decide (a0 ≤ a2))) else (some false)
theorem Ya.calls (a0:Int) (a1:Int) (a2:Int) (r:Bool) (w:World) (h:Ya.f a0 a1 a2=some r) :
  Calls Try.prog 81 #[.int .i64 a0,.int .i64 a1,.int .i64 a2] w fun e w'=>e = .returned (.bool r)∧tc w w':=by
 have H:(if a0 ≥ a1 then (some (decide (a0 ≤ a2))) else (some false))=some r:=h;clear h
 by_cases c4:a0 ≥ a1
 ·rw [if_pos c4] at H;have Fj:decide (a1 ≤ a0)=true:=decide_eq_true c4;clear c4;obtain rfl:=Option.some.inj H;go_enter Try.func81,Try.ntmps81;go_wp2;go_ret;exact ⟨by first|rfl|(simp;done)|(simp [*];done),by repeat (first|exact tc.refl _|apply tc.step)⟩
 ·rw [if_neg c4] at H;have Fj:decide (a1 ≤ a0)=false:=decide_eq_false c4;clear c4;obtain rfl:=Option.some.inj H;go_enter Try.func81,Try.ntmps81;go_wp2;go_ret;exact ⟨by first|rfl|(simp;done)|(simp [*];done),by repeat (first|exact tc.refl _|apply tc.step)⟩
mutual
def Va.j0:Nat→Bool→Bool→Bool→List Int→Int→Int→List (ld)→Int→Int→Int→Int→Int→Option (Bool)
 | 0,_,_,_,_,_,_,_,_,_,_,_,_=>none
 | k + 1,x5,x6,x7,Tc,Zc,Yc,Ub,af,Ag,Kg,Zf,Me=>if af=0 then (if x5=true then (some x7) else (some false)) else (if af=1 then (Va.j1 k x5 x6 x7 af (af == 1) Tc Zc Yc Ub af Ag Kg Zf Me) else (Va.j1 k x5 x6 x7 af (af == 2) Tc Zc Yc Ub af Ag Kg Zf Me))
def Va.j1:Nat→Bool→Bool→Bool→Int→Bool→List Int→Int→Int→List (ld)→Int→Int→Int→Int→Int→Option (Bool)
 | 0,_,_,_,_,_,_,_,_,_,_,_,_,_,_=>none
 | k + 1,x5,x6,x7,bq,GC,Tc,Zc,Yc,Ub,af,Ag,Kg,Zf,Me=>if GC=true then (if x5=true then (if x7=true then ((Ya.f Me 0 (wrap64 (Yc - 1))).bind fun t105=>(some t105)) else (some false)) else (some false)) else (if bq=3 then (if x5=true then (if x6=true then ((Ya.f Zf 0 15).bind fun t106=>(if t106=true then ((Ya.f Me 0 5).bind fun t107=>(some t107)) else (some false))) else (some false)) else (some false)) else (if bq=4 then (Va.j2 k x5 x6 x7 bq (bq == 4) Tc Zc Yc Ub af Ag Kg Zf Me) else (Va.j2 k x5 x6 x7 bq (bq == 5) Tc Zc Yc Ub af Ag Kg Zf Me)))
def Va.j2:Nat→Bool→Bool→Bool→Int→Bool→List Int→Int→Int→List (ld)→Int→Int→Int→Int→Int→Option (Bool)
 | 0,_,_,_,_,_,_,_,_,_,_,_,_,_,_=>none
 | k + 1,x5,x6,x7,bq,FC,Tc,Zc,Yc,Ub,af,Ag,Kg,Zf,Me=>if FC=true then (if x5=true then (if x6=true then (if Zf=0 then ((Ya.f Me 0 (wrap64 ((Tc.length:Int) - 1))).bind fun t108=>(some t108)) else (some false)) else (some false)) else (some false)) else (if bq=11 then (if x5=true then (if x6=true then (if Zf=0 then (some (Me == 0)) else (some false)) else (some false)) else (some false)) else (if bq=6 then (Va.j3 k x5 x7 bq (bq == 6) Tc Zc Yc Ub af Ag Kg Zf Me) else (if bq=7 then (Va.j3 k x5 x7 bq (bq == 7) Tc Zc Yc Ub af Ag Kg Zf Me) else (Va.j3 k x5 x7 bq (bq == 10) Tc Zc Yc Ub af Ag Kg Zf Me))))
def Va.j3:Nat→Bool→Bool→Int→Bool→List Int→Int→Int→List (ld)→Int→Int→Int→Int→Int→Option (Bool)
 | 0,_,_,_,_,_,_,_,_,_,_,_,_,_=>none
 | k + 1,x5,x7,bq,EC,Tc,Zc,Yc,Ub,af,Ag,Kg,Zf,Me=>if EC=true then (if x5=true then (if x7=true then (some (Me == 0)) else (some false)) else (some false)) else (if bq=8 then (if Ag=0 then (if x7=true then ((Ya.f Me 0 (wrap64 ((Ub.length:Int) - 1))).bind fun t109=>(some t109)) else (some false)) else (some false)) else (if bq=9 then (if x5=true then (if x7=true then ((Ya.f Me 0 (wrap64 ((Ub.length:Int) - 1))).bind fun t110=>(some t110)) else (some false)) else (some false)) else (some false)))
end
def Va.f (k:Nat) (Na:List Int) (La:Int) (Ma:Int) (Ea:List (ld)) (Sb:Int) (Cc:Int) (uc:Int) (Nc:Int) (Mc:Int):Option (Bool):=(Ya.f Cc 0 15).bind fun t103=>((Ya.f uc 0 15).bind fun t104=>(if uc=0 then (Va.j0 k t103 t104 (Nc == 0) Na La Ma Ea Sb Cc uc Nc Mc) else (Va.j0 k t103 t104 false Na La Ma Ea Sb Cc uc Nc Mc)))
theorem Va.calls (k:Nat) (zb:Option Addr) (yb:Nat) (Na:List Int) (La:Int) (Ma:Int) (Eb:Option Addr) (Ab:Nat) (Ea:List (ld)) (Sb:Int) (Cc:Int) (uc:Int) (Nc:Int) (Mc:Int) (r:Bool) (w:World) (Ze:Kd.C (Kd.int .i64) w zb Na.length Na) (Fe:Na.length ≤ yb) (Ye:Kd.C ug w Eb Ea.length Ea) (Ee:Ea.length ≤ Ab) (h:Va.f k Na La Ma Ea Sb Cc uc Nc Mc=some r) :
  Calls Try.prog 91 #[.agg #[.slice zb Na.length yb,.int .i64 La,.int .i64 Ma,.slice Eb Ea.length Ab],.agg #[.int .i64 Sb,.int .i64 Cc,.int .i64 uc,.int .i64 Nc,.int .i64 Mc]] w fun e w'=>e = .returned (.bool r)∧Below w.heap.size w w':=by
 have js:=Try.underlying30;have Zr:=Try.underlying67;have Be:=ga.mk Ze;have Te:=ga.mk Fe;clear Ze Fe;have Yd:=ga.mk Ye;have Ff:=ga.mk Ee;clear Ye Ee;have HB:=ga.mk (Below.refl w.heap.size w);have H:((Ya.f Cc 0 15).bind fun t103=>((Ya.f uc 0 15).bind fun t104=>(if uc=0 then (Va.j0 k t103 t104 (Nc == 0) Na La Ma Ea Sb Cc uc Nc Mc) else (Va.j0 k t103 t104 false Na La Ma Ea Sb Cc uc Nc Mc))))=some r:=h;clear h;replace H:=Option.bind_eq_some_iff.mp H;obtain ⟨t103,Mv,H⟩:=H;replace H:((Ya.f uc 0 15).bind fun t104=>(if uc=0 then (Va.j0 k t103 t104 (Nc == 0) Na La Ma Ea Sb Cc uc Nc Mc) else (Va.j0 k t103 t104 false Na La Ma Ea Sb Cc uc Nc Mc)))=some r:=H;have A3:=ga.mk Mv;clear Mv;replace H:=Option.bind_eq_some_iff.mp H;obtain ⟨t104,DC,H⟩:=H;replace H:(if uc=0 then (Va.j0 k t103 t104 (Nc == 0) Na La Ma Ea Sb Cc uc Nc Mc) else (Va.j0 k t103 t104 false Na La Ma Ea Sb Cc uc Nc Mc))=some r:=H;have A4:=ga.mk DC;clear DC;have jE:=ga.mk H;clear H;go_enter Try.func91,Try.ntmps91
 go_upto_region 3 with (first|((with_reducible refine Jb (N:=2) rfl ?_);(try (refine Ko (by rfl) ?_;dsimp only));refine Db ?hg (N:=2) ?hd (cs:=#[.slice zb Na.length yb,.int .i64 La,.int .i64 Ma,.slice Eb Ea.length Ab]) (t:=30) ?hr ?_;(case hd=>rfl);(case hg=>rfl);(case hr=>first|(go_simp;done)|(go_simp;rfl));intro Ba hg w6 Rb hb;have Nb:=ga.mk (Ra (by repeat (first|(with_reducible first|exact HB.out|apply ia|apply aa|apply oa)|exact HB.out)) hb);have Qb:=ga.mk (Rb);have fc:=ga.mk ((by rw [hg];exact (Ja (by repeat (first|(with_reducible first|exact HB.out|apply ia|apply aa|apply oa)|exact HB.out))):w.heap.size ≤ Ba));have Ec:=ga.mk ((by rw [hg];exact (Ja (by repeat (first|(with_reducible first|exact HB.out|apply ia|apply aa|apply oa)|exact HB.out))):w.heap.size ≤ Ba));clear HB;have HB:=Nb;have ua:=Qb;have Ue:=fc;have Sa:=Ec;clear Nb Qb fc Ec hb Rb hg)|((with_reducible refine Jb (N:=3) rfl ?_);(try (refine Ko (by rfl) ?_;dsimp only));refine Db ?hg (N:=3) ?hd (cs:=#[.int .i64 Sb,.int .i64 Cc,.int .i64 uc,.int .i64 Nc,.int .i64 Mc]) (t:=67) ?hr ?_;(case hd=>rfl);(case hg=>rfl);(case hr=>first|(go_simp;done)|(go_simp;rfl));intro Oa hg w7 Rb hb;have Nb:=ga.mk (mb (g:=Ba) (o:=.cells #[.slice zb Na.length yb,.int .i64 La,.int .i64 Ma,.slice Eb Ea.length Ab] 30 (0,0)) (by (with_reducible repeat (first|refine za ?_ _|refine Ca ?_|refine Aa ?_ _));exact ua.out) hb);have Qb:=ga.mk (Ra (by repeat (first|(with_reducible first|exact HB.out|apply ia|apply aa|apply oa|refine ta ?_ Sa.out)|exact HB.out)) hb);have fc:=ga.mk (Rb);have Ec:=ga.mk ((by rw [hg];exact (Ja (by repeat (first|(with_reducible first|exact HB.out|apply ia|apply aa|apply oa|refine ta ?_ Sa.out)|exact HB.out))):w.heap.size ≤ Oa));have fe:=ga.mk ((by rw [hg];exact (Ja (by repeat (first|(with_reducible first|exact HB.out|apply ia|apply aa|apply oa|refine ta ?_ Sa.out)|exact HB.out))):w.heap.size ≤ Oa));have ze:=ga.mk ((by rw [hg];exact Nat.ne_of_lt (Dc (g:=Ba) (o:=.cells #[.slice zb Na.length yb,.int .i64 La,.int .i64 Ma,.slice Eb Ea.length Ab] 30 (0,0)) (by (with_reducible repeat (first|refine za ?_ _|refine Ca ?_|refine Aa ?_ _));exact ua.out)):Ba ≠ Oa));have De:=ga.mk ((by rw [hg];exact Nat.ne_of_gt (Dc (g:=Ba) (o:=.cells #[.slice zb Na.length yb,.int .i64 La,.int .i64 Ma,.slice Eb Ea.length Ab] 30 (0,0)) (by (with_reducible repeat (first|refine za ?_ _|refine Ca ?_|refine Aa ?_ _));exact ua.out)):Oa ≠ Ba));clear ua HB;have ua:=Nb;have HB:=Qb;have Fa:=fc;have Fi:=Ec;have ic:=fe;have Ib:=ze;have Gb:=De;clear Nb Qb fc Ec fe ze De hb Rb hg;have jF:=Gb.out;have dF:=Ib.out;have Jm:w7.cell? ⟨Oa,0,none⟩=some (.int .i64 Sb):=(qa Fa.out 0).trans rfl;have Im:w7.cell? ⟨Oa,1,none⟩=some (.int .i64 Cc):=(qa Fa.out 1).trans rfl;have Gm:w7.cell? ⟨Oa,2,none⟩=some (.int .i64 uc):=(qa Fa.out 2).trans rfl;have Fm:w7.cell? ⟨Oa,3,none⟩=some (.int .i64 Nc):=(qa Fa.out 3).trans rfl;have Eo:w7.cell? ⟨Oa,4,none⟩=some (.int .i64 Mc):=(qa Fa.out 4).trans rfl;have Am:=ja Fa.out 0;have zm:=ja Fa.out 1;have ym:=ja Fa.out 2;have xm:=ja Fa.out 3;have Co:=ja Fa.out 4)|((with_reducible refine jb (f:=81) rfl ?_);refine Lc (some 10) rfl rfl Try.func81 (by kernel_rfl) rfl #[.int .i64 Cc,.int .i64 0,.int .i64 15] rfl (by (try simp only [List.map_toArray,List.map_cons,List.map_nil]);first|done|rfl|(simp only [List.length_drop,List.length_take];rfl)) ?_;(with_reducible refine (Ya.calls Cc 0 15 t103 _ A3.out).mono ?_);rintro e w' ⟨rfl,⟨nd,rfl⟩⟩;refine ⟨_,rfl,?_⟩)|((with_reducible refine jb (f:=81) rfl ?_);refine Lc (some 13) rfl rfl Try.func81 (by kernel_rfl) rfl #[.int .i64 uc,.int .i64 0,.int .i64 15] rfl (by (try simp only [List.map_toArray,List.map_cons,List.map_nil]);first|done|rfl|(simp only [List.length_drop,List.length_take];rfl)) ?_;(with_reducible refine (Ya.calls uc 0 15 t104 _ A4.out).mono ?_);rintro e w' ⟨rfl,⟨nd,rfl⟩⟩;refine ⟨_,rfl,?_⟩))
 (try simp only [Act.put,List.setIfInBounds_toArray,List.set_cons_zero,List.set_cons_succ])
 go_cut [7] (fun v7 wc=>∃ (kq:Nat) (th:Bool),v7 = .bool th∧ga (Va.j0 kq t103 t104 th Na La Ma Ea Sb Cc uc Nc Mc=some r)∧ga (kq ≤ k)∧ga (wc.heap[Ba]? = some (.cells #[(.slice zb Na.length yb),.int .i64 La,.int .i64 Ma,(.slice Eb Ea.length Ab)] 30 (0,0)))∧ga (wc.heap[Oa]? = some (.cells #[.int .i64 Sb,.int .i64 Cc,.int .i64 uc,.int .i64 Nc,.int .i64 Mc] 67 (0,0)))∧ga (Below w.heap.size w wc))
 case first =>
  have H:=jE.out;clear jE
  by_cases Hs:uc=0
  ·rw [if_pos Hs] at H;have gm:(uc == 0)=true:=beq_iff_eq.mpr Hs;have Gs:(uc != 0)=false:=bne_eq_false_iff_eq.mpr Hs;clear Hs;(first|rw [gm]|(simp only [Tb,Vb];rw [gm])|skip);have H':=ga.mk H;clear H;have nF:=Gb.out;have iF:=Ib.out;have Xi:w7.cell? ⟨Oa,0,none⟩=some (.int .i64 Sb):=(qa Fa.out 0).trans rfl;have Wi:w7.cell? ⟨Oa,1,none⟩=some (.int .i64 Cc):=(qa Fa.out 1).trans rfl;have Vi:w7.cell? ⟨Oa,2,none⟩=some (.int .i64 uc):=(qa Fa.out 2).trans rfl;have Ui:w7.cell? ⟨Oa,3,none⟩=some (.int .i64 Nc):=(qa Fa.out 3).trans rfl;have Xl:w7.cell? ⟨Oa,4,none⟩=some (.int .i64 Mc):=(qa Fa.out 4).trans rfl;have Mi:=ja Fa.out 0;have Li:=ja Fa.out 1;have Ki:=ja Fa.out 2;have Ji:=ja Fa.out 3;have Nl:=ja Fa.out 4;go_wp2
   go_meet
   case rel=>exact ⟨_,((Nc == 0)),(by first|rfl|(simp;done)|(simp [*];done)),H',⟨by first|omega|exact Nat.le_refl _⟩,⟨by (with_reducible repeat (first|refine za ?_ _|refine Ca ?_|refine Aa ?_ _));exact ua.out⟩,⟨by (with_reducible repeat (first|refine za ?_ _|refine Ca ?_|refine Aa ?_ _));exact Fa.out⟩,⟨by repeat (first|(with_reducible first|exact HB.out|apply ia|apply aa|apply oa|refine ta ?_ Sa.out|refine ta ?_ ic.out)|exact HB.out)⟩⟩
  ·rw [if_neg Hs] at H;have gm:(uc == 0)=false:=beq_eq_false_iff_ne.mpr Hs;have Gs:(uc != 0)=true:=bne_iff_ne.mpr Hs;(first|rw [gm]|(simp only [Tb,Vb];rw [gm])|skip);have H':=ga.mk H;clear H;have ZO:=Gb.out;have tO:=Ib.out;have Wl:w7.cell? ⟨Oa,0,none⟩=some (.int .i64 Sb):=(qa Fa.out 0).trans rfl;have Vl:w7.cell? ⟨Oa,1,none⟩=some (.int .i64 Cc):=(qa Fa.out 1).trans rfl;have Ul:w7.cell? ⟨Oa,2,none⟩=some (.int .i64 uc):=(qa Fa.out 2).trans rfl;have Tl:w7.cell? ⟨Oa,3,none⟩=some (.int .i64 Nc):=(qa Fa.out 3).trans rfl;have Vn:w7.cell? ⟨Oa,4,none⟩=some (.int .i64 Mc):=(qa Fa.out 4).trans rfl;have Ml:=ja Fa.out 0;have Ll:=ja Fa.out 1;have Kl:=ja Fa.out 2;have Jl:=ja Fa.out 3;have Pn:=ja Fa.out 4;go_wp2
   go_meet
   case rel=>exact ⟨_,(false),(by first|rfl|(simp;done)|(simp [*];done)),H',⟨by first|omega|exact Nat.le_refl _⟩,⟨by (with_reducible repeat (first|refine za ?_ _|refine Ca ?_|refine Aa ?_ _));exact ua.out⟩,⟨by (with_reducible repeat (first|refine za ?_ _|refine Ca ?_|refine Aa ?_ _));exact Fa.out⟩,⟨by repeat (first|(with_reducible first|exact HB.out|apply ia|apply aa|apply oa|refine ta ?_ Sa.out|refine ta ?_ ic.out)|exact HB.out)⟩⟩
 case rest =>
  clear jE
  try clear c1
  try clear p2
  try clear c8
  try clear c9
  try clear Hs
  try clear gm
  try clear Gs
  try clear uC
  try clear tC
  try clear Xi
  try clear Wi
  try clear Vi
  try clear Ui
  try clear Xl
  try clear Wl
  try clear Vl
  try clear Ul
  try clear Tl
  try clear Vn
  try clear Jm
  try clear Im
  try clear Gm
  try clear Fm
  try clear Eo
  try clear Mi
  try clear Li
  try clear Ki
  try clear Ji
  try clear Nl
  try clear Ml
  try clear Ll
  try clear Kl
  try clear Jl
  try clear Pn
  try clear Am
  try clear zm
  try clear ym
  try clear xm
  try clear Co
  obtain ⟨kq,th,rfl,HA,Bw,ua,Fa,HB⟩:=hcut;cases kq with
  | zero=>exact absurd HA.out (by simp [Va.j0])
  | succ Pw =>
   have H:=HA.out;clear HA;simp only [Va.j0] at H
   by_cases um:Sb=0
   ·rw [if_pos um] at H;have Sp:(Sb == 0)=true:=beq_iff_eq.mpr um;have Rp:(Sb != 0)=false:=bne_eq_false_iff_eq.mpr um;clear um
    by_cases kr:t103=true
    ·subst kr;have H1:(some th)=some r:=by rw [if_pos rfl] at H;exact H
     clear H;have H:=H1;clear H1;obtain rfl:=Option.some.inj H;have lF:=Gb.out;have fF:=Ib.out;have Vh:wc.cell? ⟨Oa,0,none⟩=some (.int .i64 Sb):=(qa Fa.out 0).trans rfl;have Uh:wc.cell? ⟨Oa,1,none⟩=some (.int .i64 Cc):=(qa Fa.out 1).trans rfl;have Th:wc.cell? ⟨Oa,2,none⟩=some (.int .i64 uc):=(qa Fa.out 2).trans rfl;have Sh:wc.cell? ⟨Oa,3,none⟩=some (.int .i64 Nc):=(qa Fa.out 3).trans rfl;have Zq:wc.cell? ⟨Oa,4,none⟩=some (.int .i64 Mc):=(qa Fa.out 4).trans rfl;have Rh:=ja Fa.out 0;have Qh:=ja Fa.out 1;have Ph:=ja Fa.out 2;have Oh:=ja Fa.out 3;have Hq:=ja Fa.out 4;go_wp2;go_ret;exact ⟨by first|rfl|(simp [Ia,Ga] <;> rfl)|(simp [*,Ia,Ga] <;> rfl),by repeat (first|(with_reducible first|exact HB.out|apply ia|apply aa|apply oa|refine ta ?_ Sa.out|refine ta ?_ ic.out)|exact HB.out)⟩
    ·replace kr:=Bool.eq_false_iff.mpr kr;subst kr;have H1:(some false)=some r:=by rw [if_neg (show ¬ (false=true) by decide)] at H;exact H
     clear H;have H:=H1;clear H1;obtain rfl:=Option.some.inj H;have WO:=Gb.out;have qO:=Ib.out;have Wj:wc.cell? ⟨Oa,0,none⟩=some (.int .i64 Sb):=(qa Fa.out 0).trans rfl;have Vj:wc.cell? ⟨Oa,1,none⟩=some (.int .i64 Cc):=(qa Fa.out 1).trans rfl;have Uj:wc.cell? ⟨Oa,2,none⟩=some (.int .i64 uc):=(qa Fa.out 2).trans rfl;have Tj:wc.cell? ⟨Oa,3,none⟩=some (.int .i64 Nc):=(qa Fa.out 3).trans rfl;have Yq:wc.cell? ⟨Oa,4,none⟩=some (.int .i64 Mc):=(qa Fa.out 4).trans rfl;have Sj:=ja Fa.out 0;have Rj:=ja Fa.out 1;have Qj:=ja Fa.out 2;have Pj:=ja Fa.out 3;have Gq:=ja Fa.out 4;go_wp2;go_ret;exact ⟨by first|rfl|(simp [Ia,Ga] <;> rfl)|(simp [*,Ia,Ga] <;> rfl),by repeat (first|(with_reducible first|exact HB.out|apply ia|apply aa|apply oa|refine ta ?_ Sa.out|refine ta ?_ ic.out)|exact HB.out)⟩
   ·rw [if_neg um] at H;have Sp:(Sb == 0)=false:=beq_eq_false_iff_ne.mpr um;have Rp:(Sb != 0)=true:=bne_iff_ne.mpr um;have lE:=ga.mk H;clear H;have kF:=Gb.out;have eF:=Ib.out;have Un:wc.cell? ⟨Oa,0,none⟩=some (.int .i64 Sb):=(qa Fa.out 0).trans rfl;have Tn:wc.cell? ⟨Oa,1,none⟩=some (.int .i64 Cc):=(qa Fa.out 1).trans rfl;have Sn:wc.cell? ⟨Oa,2,none⟩=some (.int .i64 uc):=(qa Fa.out 2).trans rfl;have Rn:wc.cell? ⟨Oa,3,none⟩=some (.int .i64 Nc):=(qa Fa.out 3).trans rfl;have Qn:wc.cell? ⟨Oa,4,none⟩=some (.int .i64 Mc):=(qa Fa.out 4).trans rfl;have Nn:=ja Fa.out 0;have Mn:=ja Fa.out 1;have Ln:=ja Fa.out 2;have Kn:=ja Fa.out 3;have Jn:=ja Fa.out 4
    go_upto_if 30 with (fail)
    go_cut [30] (fun v30 wc=>∃ (kq:Nat) (aq:Bool),v30 = .bool aq∧ga (Va.j1 kq t103 t104 th Sb aq Na La Ma Ea Sb Cc uc Nc Mc=some r)∧ga (kq ≤ Pw)∧ga (wc.heap[Ba]? = some (.cells #[(.slice zb Na.length yb),.int .i64 La,.int .i64 Ma,(.slice Eb Ea.length Ab)] 30 (0,0)))∧ga (wc.heap[Oa]? = some (.cells #[.int .i64 Sb,.int .i64 Cc,.int .i64 uc,.int .i64 Nc,.int .i64 Mc] 67 (0,0)))∧ga (Below w.heap.size w wc))
    case first =>
     have H:=lE.out;clear lE
     by_cases lu:Sb=1
     ·rw [if_pos lu] at H;have dm:(Sb == 1)=true:=beq_iff_eq.mpr lu;have Fv:(Sb != 1)=false:=bne_eq_false_iff_eq.mpr lu;clear lu;(first|rw [dm]|(simp only [Tb,Vb];rw [dm])|skip);have H':=ga.mk H;clear H;go_wp2
      go_meet
      case rel=>exact ⟨_,((Sb == 1)),(by first|rfl|(simp;done)|(simp [*];done)),H',⟨by have:=Bw.out;first|omega|exact Nat.le_refl _⟩,⟨by (with_reducible repeat (first|refine za ?_ _|refine Ca ?_|refine Aa ?_ _));exact ua.out⟩,⟨by (with_reducible repeat (first|refine za ?_ _|refine Ca ?_|refine Aa ?_ _));exact Fa.out⟩,⟨by repeat (first|(with_reducible first|exact HB.out|apply ia|apply aa|apply oa|refine ta ?_ Sa.out|refine ta ?_ ic.out)|exact HB.out)⟩⟩
     ·rw [if_neg lu] at H;have dm:(Sb == 1)=false:=beq_eq_false_iff_ne.mpr lu;have Fv:(Sb != 1)=true:=bne_iff_ne.mpr lu;(first|rw [dm]|(simp only [Tb,Vb];rw [dm])|skip);have H':=ga.mk H;clear H;go_wp2
      go_meet
      case rel=>exact ⟨_,((Sb == 2)),(by first|rfl|(simp;done)|(simp [*];done)),H',⟨by have:=Bw.out;first|omega|exact Nat.le_refl _⟩,⟨by (with_reducible repeat (first|refine za ?_ _|refine Ca ?_|refine Aa ?_ _));exact ua.out⟩,⟨by (with_reducible repeat (first|refine za ?_ _|refine Ca ?_|refine Aa ?_ _));exact Fa.out⟩,⟨by repeat (first|(with_reducible first|exact HB.out|apply ia|apply aa|apply oa|refine ta ?_ Sa.out|refine ta ?_ ic.out)|exact HB.out)⟩⟩
    case rest =>
     clear lE
     try clear c1
     try clear c2
     try clear p2
     try clear c8
     try clear c9
     try clear Hs
     try clear gm
     try clear Gs
     try clear uC
     try clear tC
     try clear um
     try clear Sp
     try clear Rp
     try clear kr
     try clear PD
     try clear OD
     try clear vw
     try clear lu
     try clear dm
     try clear Fv
     try clear Xi
     try clear Wi
     try clear Vi
     try clear Ui
     try clear Xl
     try clear Wl
     try clear Vl
     try clear Ul
     try clear Tl
     try clear Vn
     try clear Vh
     try clear Uh
     try clear Th
     try clear Sh
     try clear Zq
     try clear Wj
     try clear Vj
     try clear Uj
     try clear Tj
     try clear Yq
     try clear Un
     try clear Tn
     try clear Sn
     try clear Rn
     try clear Qn
     try clear Jm
     try clear Im
     try clear Gm
     try clear Fm
     try clear Eo
     try clear Mi
     try clear Li
     try clear Ki
     try clear Ji
     try clear Nl
     try clear Ml
     try clear Ll
     try clear Kl
     try clear Jl
     try clear Pn
     try clear Rh
     try clear Qh
     try clear Ph
     try clear Oh
     try clear Hq
     try clear Sj
     try clear Rj
     try clear Qj
     try clear Pj
     try clear Gq
     try clear Nn
     try clear Mn
     try clear Ln
     try clear Kn
     try clear Jn
     try clear Am
     try clear zm
     try clear ym
     try clear xm
     try clear Co
     try clear p2
     obtain ⟨kq,aq,rfl,HA,qy,ua,Fa,HB⟩:=hcut;cases kq with
     | zero=>exact absurd HA.out (by simp [Va.j1])
     | succ RC =>
      have H:=HA.out;clear HA;simp only [Va.j1] at H
      by_cases Vx:aq=true
      ·subst Vx;have H1:(if t103=true then (if th=true then ((Ya.f Mc 0 (wrap64 (Ma - 1))).bind fun t105=>(some t105)) else (some false)) else (some false))=some r:=by rw [if_pos rfl] at H;exact H
       clear H;have H:=H1;clear H1
       by_cases yE:t103=true
       ·subst yE;have H1:(if th=true then ((Ya.f Mc 0 (wrap64 (Ma - 1))).bind fun t105=>(some t105)) else (some false))=some r:=by rw [if_pos rfl] at H;exact H
        clear H;have H:=H1;clear H1
        by_cases Ys:th=true
        ·subst Ys;have H1:((Ya.f Mc 0 (wrap64 (Ma - 1))).bind fun t105=>(some t105))=some r:=by rw [if_pos rfl] at H;exact H
         clear H;have H:=H1;clear H1;replace H:=Option.bind_eq_some_iff.mp H;obtain ⟨t105,yy,H⟩:=H;replace H:(some t105)=some r:=H;have fN:=ga.mk yy;clear yy;obtain rfl:=Option.some.inj H;have PO:=Gb.out;have kO:=Ib.out;have Tq:wc.cell? ⟨Oa,0,none⟩=some (.int .i64 Sb):=(qa Fa.out 0).trans rfl;have Sq:wc.cell? ⟨Oa,1,none⟩=some (.int .i64 Cc):=(qa Fa.out 1).trans rfl;have Rq:wc.cell? ⟨Oa,2,none⟩=some (.int .i64 uc):=(qa Fa.out 2).trans rfl;have Qq:wc.cell? ⟨Oa,3,none⟩=some (.int .i64 Nc):=(qa Fa.out 3).trans rfl;have nv:wc.cell? ⟨Oa,4,none⟩=some (.int .i64 Mc):=(qa Fa.out 4).trans rfl;have Aq:=ja Fa.out 0;have zq:=ja Fa.out 1;have yq:=ja Fa.out 2;have xq:=ja Fa.out 3;have Pu:=ja Fa.out 4;have Pq:wc.cell? ⟨Ba,0,none⟩=some (.slice zb Na.length yb):=(qa ua.out 0).trans rfl;have Oq:wc.cell? ⟨Ba,1,none⟩=some (.int .i64 La):=(qa ua.out 1).trans rfl;have Nq:wc.cell? ⟨Ba,2,none⟩=some (.int .i64 Ma):=(qa ua.out 2).trans rfl;have Mq:wc.cell? ⟨Ba,3,none⟩=some (.slice Eb Ea.length Ab):=(qa ua.out 3).trans rfl;have wq:=ja ua.out 0;have vq:=ja ua.out 1;have uq:=ja ua.out 2;have tq:=ja ua.out 3;go_wp2_with (first|(go_at_call 81;(with_reducible refine (Ya.calls Mc 0 (wrap64 (Ma - 1)) t105 _ fN.out).mono ?_);rintro e w' ⟨rfl,⟨nd,rfl⟩⟩));go_ret;exact ⟨by first|rfl|(simp [Ia,Ga] <;> rfl)|(simp [*,Ia,Ga] <;> rfl),by repeat (first|(with_reducible first|exact HB.out|apply ia|apply aa|apply oa|refine ta ?_ Sa.out|refine ta ?_ ic.out)|exact HB.out)⟩
        ·replace Ys:=Bool.eq_false_iff.mpr Ys;subst Ys;have H1:(some false)=some r:=by rw [if_neg (show ¬ (false=true) by decide)] at H;exact H
         clear H;have H:=H1;clear H1;obtain rfl:=Option.some.inj H;go_wp2;go_ret;exact ⟨by first|rfl|(simp [Ia,Ga] <;> rfl)|(simp [*,Ia,Ga] <;> rfl),by repeat (first|(with_reducible first|exact HB.out|apply ia|apply aa|apply oa|refine ta ?_ Sa.out|refine ta ?_ ic.out)|exact HB.out)⟩
       ·replace yE:=Bool.eq_false_iff.mpr yE;subst yE;have H1:(some false)=some r:=by rw [if_neg (show ¬ (false=true) by decide)] at H;exact H
        clear H;have H:=H1;clear H1;obtain rfl:=Option.some.inj H;go_wp2;go_ret;exact ⟨by first|rfl|(simp [Ia,Ga] <;> rfl)|(simp [*,Ia,Ga] <;> rfl),by repeat (first|(with_reducible first|exact HB.out|apply ia|apply aa|apply oa|refine ta ?_ Sa.out|refine ta ?_ ic.out)|exact HB.out)⟩
      ·replace Vx:=Bool.eq_false_iff.mpr Vx;subst Vx;have H1:(if Sb=3 then (if t103=true then (if t104=true then ((Ya.f Nc 0 15).bind fun t106=>(if t106=true then ((Ya.f Mc 0 5).bind fun t107=>(some t107)) else (some false))) else (some false)) else (some false)) else (if Sb=4 then (Va.j2 RC t103 t104 th Sb (Sb == 4) Na La Ma Ea Sb Cc uc Nc Mc) else (Va.j2 RC t103 t104 th Sb (Sb == 5) Na La Ma Ea Sb Cc uc Nc Mc)))=some r:=by rw [if_neg (show ¬ (false=true) by decide)] at H;exact H
       clear H;have H:=H1;clear H1
       by_cases lB:Sb=3
       ·rw [if_pos lB] at H;have Rx:(Sb == 3)=true:=beq_iff_eq.mpr lB;have Qx:(Sb != 3)=false:=bne_eq_false_iff_eq.mpr lB;clear lB
        by_cases Px:t103=true
        ·subst Px;have H1:(if t104=true then ((Ya.f Nc 0 15).bind fun t106=>(if t106=true then ((Ya.f Mc 0 5).bind fun t107=>(some t107)) else (some false))) else (some false))=some r:=by rw [if_pos rfl] at H;exact H
         clear H;have H:=H1;clear H1
         by_cases Ox:t104=true
         ·subst Ox;have H1:((Ya.f Nc 0 15).bind fun t106=>(if t106=true then ((Ya.f Mc 0 5).bind fun t107=>(some t107)) else (some false)))=some r:=by rw [if_pos rfl] at H;exact H
          clear H;have H:=H1;clear H1;replace H:=Option.bind_eq_some_iff.mp H;obtain ⟨t106,cH,H⟩:=H;replace H:(if t106=true then ((Ya.f Mc 0 5).bind fun t107=>(some t107)) else (some false))=some r:=H;have yQ:=ga.mk cH;clear cH
          by_cases wE:t106=true
          ·subst wE;have H1:((Ya.f Mc 0 5).bind fun t107=>(some t107))=some r:=by rw [if_pos rfl] at H;exact H
           clear H;have H:=H1;clear H1;replace H:=Option.bind_eq_some_iff.mp H;obtain ⟨t107,bH,H⟩:=H;replace H:(some t107)=some r:=H;have fS:=ga.mk bH;clear bH;obtain rfl:=Option.some.inj H;have KO:=Gb.out;have eO:=Ib.out;have Lq:wc.cell? ⟨Oa,0,none⟩=some (.int .i64 Sb):=(qa Fa.out 0).trans rfl;have Kq:wc.cell? ⟨Oa,1,none⟩=some (.int .i64 Cc):=(qa Fa.out 1).trans rfl;have Jq:wc.cell? ⟨Oa,2,none⟩=some (.int .i64 uc):=(qa Fa.out 2).trans rfl;have Iq:wc.cell? ⟨Oa,3,none⟩=some (.int .i64 Nc):=(qa Fa.out 3).trans rfl;have jv:wc.cell? ⟨Oa,4,none⟩=some (.int .i64 Mc):=(qa Fa.out 4).trans rfl;have sq:=ja Fa.out 0;have rq:=ja Fa.out 1;have qq:=ja Fa.out 2;have pq:=ja Fa.out 3;have Ou:=ja Fa.out 4;go_wp2_with (first|(go_at_call 81;(with_reducible refine (Ya.calls Nc 0 15 true _ yQ.out).mono ?_);rintro e w' ⟨rfl,⟨nd,rfl⟩⟩)|(go_at_call 81;(with_reducible refine (Ya.calls Mc 0 5 t107 _ fS.out).mono ?_);rintro e w' ⟨rfl,⟨nd,rfl⟩⟩));go_ret;exact ⟨by first|rfl|(simp [Ia,Ga] <;> rfl)|(simp [*,Ia,Ga] <;> rfl),by repeat (first|(with_reducible first|exact HB.out|apply ia|apply aa|apply oa|refine ta ?_ Sa.out|refine ta ?_ ic.out)|exact HB.out)⟩
          ·replace wE:=Bool.eq_false_iff.mpr wE;subst wE;have H1:(some false)=some r:=by rw [if_neg (show ¬ (false=true) by decide)] at H;exact H
           clear H;have H:=H1;clear H1;obtain rfl:=Option.some.inj H;have JO:=Gb.out;have dO:=Ib.out;have gv:wc.cell? ⟨Oa,0,none⟩=some (.int .i64 Sb):=(qa Fa.out 0).trans rfl;have cv:wc.cell? ⟨Oa,1,none⟩=some (.int .i64 Cc):=(qa Fa.out 1).trans rfl;have av:wc.cell? ⟨Oa,2,none⟩=some (.int .i64 uc):=(qa Fa.out 2).trans rfl;have Zu:wc.cell? ⟨Oa,3,none⟩=some (.int .i64 Nc):=(qa Fa.out 3).trans rfl;have Yu:wc.cell? ⟨Oa,4,none⟩=some (.int .i64 Mc):=(qa Fa.out 4).trans rfl;have Nu:=ja Fa.out 0;have Mu:=ja Fa.out 1;have Lu:=ja Fa.out 2;have Ku:=ja Fa.out 3;have Ju:=ja Fa.out 4;go_wp2_with (first|(go_at_call 81;(with_reducible refine (Ya.calls Nc 0 15 false _ yQ.out).mono ?_);rintro e w' ⟨rfl,⟨nd,rfl⟩⟩));go_ret;exact ⟨by first|rfl|(simp [Ia,Ga] <;> rfl)|(simp [*,Ia,Ga] <;> rfl),by repeat (first|(with_reducible first|exact HB.out|apply ia|apply aa|apply oa|refine ta ?_ Sa.out|refine ta ?_ ic.out)|exact HB.out)⟩
         ·replace Ox:=Bool.eq_false_iff.mpr Ox;subst Ox;have H1:(some false)=some r:=by rw [if_neg (show ¬ (false=true) by decide)] at H;exact H
          clear H;have H:=H1;clear H1;obtain rfl:=Option.some.inj H;go_wp2;go_ret;exact ⟨by first|rfl|(simp [Ia,Ga] <;> rfl)|(simp [*,Ia,Ga] <;> rfl),by repeat (first|(with_reducible first|exact HB.out|apply ia|apply aa|apply oa|refine ta ?_ Sa.out|refine ta ?_ ic.out)|exact HB.out)⟩
        ·replace Px:=Bool.eq_false_iff.mpr Px;subst Px;have H1:(some false)=some r:=by rw [if_neg (show ¬ (false=true) by decide)] at H;exact H
         clear H;have H:=H1;clear H1;obtain rfl:=Option.some.inj H;go_wp2;go_ret;exact ⟨by first|rfl|(simp [Ia,Ga] <;> rfl)|(simp [*,Ia,Ga] <;> rfl),by repeat (first|(with_reducible first|exact HB.out|apply ia|apply aa|apply oa|refine ta ?_ Sa.out|refine ta ?_ ic.out)|exact HB.out)⟩
       ·rw [if_neg lB] at H;have Rx:(Sb == 3)=false:=beq_eq_false_iff_ne.mpr lB;have Qx:(Sb != 3)=true:=bne_iff_ne.mpr lB;have kE:=ga.mk H;clear H
        go_upto_if 61 with (fail)
        go_cut [61] (fun HQ wc=>∃ (kq:Nat) (Zp:Bool),HQ = .bool Zp∧ga (Va.j2 kq t103 t104 th Sb Zp Na La Ma Ea Sb Cc uc Nc Mc=some r)∧ga (kq ≤ RC)∧ga (wc.heap[Ba]? = some (.cells #[(.slice zb Na.length yb),.int .i64 La,.int .i64 Ma,(.slice Eb Ea.length Ab)] 30 (0,0)))∧ga (wc.heap[Oa]? = some (.cells #[.int .i64 Sb,.int .i64 Cc,.int .i64 uc,.int .i64 Nc,.int .i64 Mc] 67 (0,0)))∧ga (Below w.heap.size w wc))
        case first =>
         have H:=kE.out;clear kE
         by_cases kB:Sb=4
         ·rw [if_pos kB] at H;have Uo:(Sb == 4)=true:=beq_iff_eq.mpr kB;have Mx:(Sb != 4)=false:=bne_eq_false_iff_eq.mpr kB;clear kB;(first|rw [Uo]|(simp only [Tb,Vb];rw [Uo])|skip);have H':=ga.mk H;clear H;go_wp2
          go_meet
          case rel=>exact ⟨_,((Sb == 4)),(by first|rfl|(simp;done)|(simp [*];done)),H',⟨by have:=Bw.out;have:=qy.out;first|omega|exact Nat.le_refl _⟩,⟨by (with_reducible repeat (first|refine za ?_ _|refine Ca ?_|refine Aa ?_ _));exact ua.out⟩,⟨by (with_reducible repeat (first|refine za ?_ _|refine Ca ?_|refine Aa ?_ _));exact Fa.out⟩,⟨by repeat (first|(with_reducible first|exact HB.out|apply ia|apply aa|apply oa|refine ta ?_ Sa.out|refine ta ?_ ic.out)|exact HB.out)⟩⟩
         ·rw [if_neg kB] at H;have Uo:(Sb == 4)=false:=beq_eq_false_iff_ne.mpr kB;have Mx:(Sb != 4)=true:=bne_iff_ne.mpr kB;(first|rw [Uo]|(simp only [Tb,Vb];rw [Uo])|skip);have H':=ga.mk H;clear H;go_wp2
          go_meet
          case rel=>exact ⟨_,((Sb == 5)),(by first|rfl|(simp;done)|(simp [*];done)),H',⟨by have:=Bw.out;have:=qy.out;first|omega|exact Nat.le_refl _⟩,⟨by (with_reducible repeat (first|refine za ?_ _|refine Ca ?_|refine Aa ?_ _));exact ua.out⟩,⟨by (with_reducible repeat (first|refine za ?_ _|refine Ca ?_|refine Aa ?_ _));exact Fa.out⟩,⟨by repeat (first|(with_reducible first|exact HB.out|apply ia|apply aa|apply oa|refine ta ?_ Sa.out|refine ta ?_ ic.out)|exact HB.out)⟩⟩
        case rest =>
         clear kE
         try clear c1
         try clear c2
         try clear p2
         try clear c3
         try clear c4
         try clear p6
         try clear c8
         try clear c9
         try clear Hs
         try clear gm
         try clear Gs
         try clear uC
         try clear tC
         try clear um
         try clear Sp
         try clear Rp
         try clear kr
         try clear PD
         try clear OD
         try clear vw
         try clear lu
         try clear dm
         try clear Fv
         try clear Vx
         try clear yE
         try clear Ys
         try clear xE
         try clear lB
         try clear Rx
         try clear Qx
         try clear Px
         try clear Ox
         try clear wE
         try clear MR
         try clear LR
         try clear kB
         try clear Uo
         try clear Mx
         try clear Xi
         try clear Wi
         try clear Vi
         try clear Ui
         try clear Xl
         try clear Wl
         try clear Vl
         try clear Ul
         try clear Tl
         try clear Vn
         try clear Vh
         try clear Uh
         try clear Th
         try clear Sh
         try clear Zq
         try clear Wj
         try clear Vj
         try clear Uj
         try clear Tj
         try clear Yq
         try clear Un
         try clear Tn
         try clear Sn
         try clear Rn
         try clear Qn
         try clear Tq
         try clear Sq
         try clear Rq
         try clear Qq
         try clear nv
         try clear Pq
         try clear Oq
         try clear Nq
         try clear Mq
         try clear Lq
         try clear Kq
         try clear Jq
         try clear Iq
         try clear jv
         try clear gv
         try clear cv
         try clear av
         try clear Zu
         try clear Yu
         try clear Jm
         try clear Im
         try clear Gm
         try clear Fm
         try clear Eo
         try clear Mi
         try clear Li
         try clear Ki
         try clear Ji
         try clear Nl
         try clear Ml
         try clear Ll
         try clear Kl
         try clear Jl
         try clear Pn
         try clear Rh
         try clear Qh
         try clear Ph
         try clear Oh
         try clear Hq
         try clear Sj
         try clear Rj
         try clear Qj
         try clear Pj
         try clear Gq
         try clear Nn
         try clear Mn
         try clear Ln
         try clear Kn
         try clear Jn
         try clear Aq
         try clear zq
         try clear yq
         try clear xq
         try clear Pu
         try clear wq
         try clear vq
         try clear uq
         try clear tq
         try clear sq
         try clear rq
         try clear qq
         try clear pq
         try clear Ou
         try clear Nu
         try clear Mu
         try clear Lu
         try clear Ku
         try clear Ju
         try clear Am
         try clear zm
         try clear ym
         try clear xm
         try clear Co
         try clear p2
         obtain ⟨kq,Zp,rfl,HA,gE,ua,Fa,HB⟩:=hcut;cases kq with
         | zero=>exact absurd HA.out (by simp [Va.j2])
         | succ az =>
          have H:=HA.out;clear HA;simp only [Va.j2] at H
          by_cases iG:Zp=true
          ·subst iG;have H1:(if t103=true then (if t104=true then (if Nc=0 then ((Ya.f Mc 0 (wrap64 ((Na.length:Int) - 1))).bind fun t108=>(some t108)) else (some false)) else (some false)) else (some false))=some r:=by rw [if_pos rfl] at H;exact H
           clear H;have H:=H1;clear H1
           by_cases gG:t103=true
           ·subst gG;have H1:(if t104=true then (if Nc=0 then ((Ya.f Mc 0 (wrap64 ((Na.length:Int) - 1))).bind fun t108=>(some t108)) else (some false)) else (some false))=some r:=by rw [if_pos rfl] at H;exact H
            clear H;have H:=H1;clear H1
            by_cases fG:t104=true
            ·subst fG;have H1:(if Nc=0 then ((Ya.f Mc 0 (wrap64 ((Na.length:Int) - 1))).bind fun t108=>(some t108)) else (some false))=some r:=by rw [if_pos rfl] at H;exact H
             clear H;have H:=H1;clear H1
             by_cases rC:Nc=0
             ·rw [if_pos rC] at H;have qC:(Nc == 0)=true:=beq_iff_eq.mpr rC;have oC:(Nc != 0)=false:=bne_eq_false_iff_eq.mpr rC;clear rC;replace H:=Option.bind_eq_some_iff.mp H;obtain ⟨t108,aH,H⟩:=H;replace H:(some t108)=some r:=H;have eS:=ga.mk aH;clear aH;obtain rfl:=Option.some.inj H;have EO:=Gb.out;have bO:=Ib.out;have DA:wc.cell? ⟨Oa,0,none⟩=some (.int .i64 Sb):=(qa Fa.out 0).trans rfl;have CA:wc.cell? ⟨Oa,1,none⟩=some (.int .i64 Cc):=(qa Fa.out 1).trans rfl;have BA:wc.cell? ⟨Oa,2,none⟩=some (.int .i64 uc):=(qa Fa.out 2).trans rfl;have AA:wc.cell? ⟨Oa,3,none⟩=some (.int .i64 Nc):=(qa Fa.out 3).trans rfl;have zA:wc.cell? ⟨Oa,4,none⟩=some (.int .i64 Mc):=(qa Fa.out 4).trans rfl;have Dz:=ja Fa.out 0;have Cz:=ja Fa.out 1;have Bz:=ja Fa.out 2;have Az:=ja Fa.out 3;have zz:=ja Fa.out 4;have yA:wc.cell? ⟨Ba,0,none⟩=some (.slice zb Na.length yb):=(qa ua.out 0).trans rfl;have xA:wc.cell? ⟨Ba,1,none⟩=some (.int .i64 La):=(qa ua.out 1).trans rfl;have wA:wc.cell? ⟨Ba,2,none⟩=some (.int .i64 Ma):=(qa ua.out 2).trans rfl;have vA:wc.cell? ⟨Ba,3,none⟩=some (.slice Eb Ea.length Ab):=(qa ua.out 3).trans rfl;have yz:=ja ua.out 0;have xz:=ja ua.out 1;have wz:=ja ua.out 2;have vz:=ja ua.out 3;go_wp2_with (first|(go_at_call 81;(with_reducible refine (Ya.calls Mc 0 (wrap64 ((Na.length:Int) - 1)) t108 _ eS.out).mono ?_);rintro e w' ⟨rfl,⟨nd,rfl⟩⟩));go_ret;exact ⟨by first|rfl|(simp [Ia,Ga] <;> rfl)|(simp [*,Ia,Ga] <;> rfl),by repeat (first|(with_reducible first|exact HB.out|apply ia|apply aa|apply oa|refine ta ?_ Sa.out|refine ta ?_ ic.out)|exact HB.out)⟩
             ·rw [if_neg rC] at H;have qC:(Nc == 0)=false:=beq_eq_false_iff_ne.mpr rC;have oC:(Nc != 0)=true:=bne_iff_ne.mpr rC;obtain rfl:=Option.some.inj H;have CO:=Gb.out;have ZN:=Ib.out;have uA:wc.cell? ⟨Oa,0,none⟩=some (.int .i64 Sb):=(qa Fa.out 0).trans rfl;have tA:wc.cell? ⟨Oa,1,none⟩=some (.int .i64 Cc):=(qa Fa.out 1).trans rfl;have sA:wc.cell? ⟨Oa,2,none⟩=some (.int .i64 uc):=(qa Fa.out 2).trans rfl;have rA:wc.cell? ⟨Oa,3,none⟩=some (.int .i64 Nc):=(qa Fa.out 3).trans rfl;have qA:wc.cell? ⟨Oa,4,none⟩=some (.int .i64 Mc):=(qa Fa.out 4).trans rfl;have uz:=ja Fa.out 0;have rz:=ja Fa.out 1;have qz:=ja Fa.out 2;have pz:=ja Fa.out 3;have oz:=ja Fa.out 4;go_wp2;go_ret;exact ⟨by first|rfl|(simp [Ia,Ga] <;> rfl)|(simp [*,Ia,Ga] <;> rfl),by repeat (first|(with_reducible first|exact HB.out|apply ia|apply aa|apply oa|refine ta ?_ Sa.out|refine ta ?_ ic.out)|exact HB.out)⟩
            ·replace fG:=Bool.eq_false_iff.mpr fG;subst fG;have H1:(some false)=some r:=by rw [if_neg (show ¬ (false=true) by decide)] at H;exact H
             clear H;have H:=H1;clear H1;obtain rfl:=Option.some.inj H;go_wp2;go_ret;exact ⟨by first|rfl|(simp [Ia,Ga] <;> rfl)|(simp [*,Ia,Ga] <;> rfl),by repeat (first|(with_reducible first|exact HB.out|apply ia|apply aa|apply oa|refine ta ?_ Sa.out|refine ta ?_ ic.out)|exact HB.out)⟩
           ·replace gG:=Bool.eq_false_iff.mpr gG;subst gG;have H1:(some false)=some r:=by rw [if_neg (show ¬ (false=true) by decide)] at H;exact H
            clear H;have H:=H1;clear H1;obtain rfl:=Option.some.inj H;go_wp2;go_ret;exact ⟨by first|rfl|(simp [Ia,Ga] <;> rfl)|(simp [*,Ia,Ga] <;> rfl),by repeat (first|(with_reducible first|exact HB.out|apply ia|apply aa|apply oa|refine ta ?_ Sa.out|refine ta ?_ ic.out)|exact HB.out)⟩
          ·replace iG:=Bool.eq_false_iff.mpr iG;subst iG;have H1:(if Sb=11 then (if t103=true then (if t104=true then (if Nc=0 then (some (Mc == 0)) else (some false)) else (some false)) else (some false)) else (if Sb=6 then (Va.j3 az t103 th Sb (Sb == 6) Na La Ma Ea Sb Cc uc Nc Mc) else (if Sb=7 then (Va.j3 az t103 th Sb (Sb == 7) Na La Ma Ea Sb Cc uc Nc Mc) else (Va.j3 az t103 th Sb (Sb == 10) Na La Ma Ea Sb Cc uc Nc Mc))))=some r:=by rw [if_neg (show ¬ (false=true) by decide)] at H;exact H
           clear H;have H:=H1;clear H1
           by_cases nC:Sb=11
           ·rw [if_pos nC] at H;have mC:(Sb == 11)=true:=beq_iff_eq.mpr nC;have lC:(Sb != 11)=false:=bne_eq_false_iff_eq.mpr nC;clear nC
            by_cases eG:t103=true
            ·subst eG;have H1:(if t104=true then (if Nc=0 then (some (Mc == 0)) else (some false)) else (some false))=some r:=by rw [if_pos rfl] at H;exact H
             clear H;have H:=H1;clear H1
             by_cases dG:t104=true
             ·subst dG;have H1:(if Nc=0 then (some (Mc == 0)) else (some false))=some r:=by rw [if_pos rfl] at H;exact H
              clear H;have H:=H1;clear H1
              by_cases kC:Nc=0
              ·rw [if_pos kC] at H;have jC:(Nc == 0)=true:=beq_iff_eq.mpr kC;have iC:(Nc != 0)=false:=bne_eq_false_iff_eq.mpr kC;clear kC;obtain rfl:=Option.some.inj H;have BO:=Gb.out;have YN:=Ib.out;have oA:wc.cell? ⟨Oa,0,none⟩=some (.int .i64 Sb):=(qa Fa.out 0).trans rfl;have nA:wc.cell? ⟨Oa,1,none⟩=some (.int .i64 Cc):=(qa Fa.out 1).trans rfl;have mA:wc.cell? ⟨Oa,2,none⟩=some (.int .i64 uc):=(qa Fa.out 2).trans rfl;have kA:wc.cell? ⟨Oa,3,none⟩=some (.int .i64 Nc):=(qa Fa.out 3).trans rfl;have jA:wc.cell? ⟨Oa,4,none⟩=some (.int .i64 Mc):=(qa Fa.out 4).trans rfl;have mz:=ja Fa.out 0;have kz:=ja Fa.out 1;have jz:=ja Fa.out 2;have iz:=ja Fa.out 3;have gz:=ja Fa.out 4;go_wp2;go_ret;exact ⟨by first|rfl|(simp [Ia,Ga] <;> rfl)|(simp [*,Ia,Ga] <;> rfl),by repeat (first|(with_reducible first|exact HB.out|apply ia|apply aa|apply oa|refine ta ?_ Sa.out|refine ta ?_ ic.out)|exact HB.out)⟩
              ·rw [if_neg kC] at H;have jC:(Nc == 0)=false:=beq_eq_false_iff_ne.mpr kC;have iC:(Nc != 0)=true:=bne_iff_ne.mpr kC;obtain rfl:=Option.some.inj H;have AO:=Gb.out;have XN:=Ib.out;have iA:wc.cell? ⟨Oa,0,none⟩=some (.int .i64 Sb):=(qa Fa.out 0).trans rfl;have gA:wc.cell? ⟨Oa,1,none⟩=some (.int .i64 Cc):=(qa Fa.out 1).trans rfl;have fA:wc.cell? ⟨Oa,2,none⟩=some (.int .i64 uc):=(qa Fa.out 2).trans rfl;have eA:wc.cell? ⟨Oa,3,none⟩=some (.int .i64 Nc):=(qa Fa.out 3).trans rfl;have dA:wc.cell? ⟨Oa,4,none⟩=some (.int .i64 Mc):=(qa Fa.out 4).trans rfl;have fz:=ja Fa.out 0;have ez:=ja Fa.out 1;have dz:=ja Fa.out 2;have cz:=ja Fa.out 3;have bz:=ja Fa.out 4;go_wp2;go_ret;exact ⟨by first|rfl|(simp [Ia,Ga] <;> rfl)|(simp [*,Ia,Ga] <;> rfl),by repeat (first|(with_reducible first|exact HB.out|apply ia|apply aa|apply oa|refine ta ?_ Sa.out|refine ta ?_ ic.out)|exact HB.out)⟩
             ·replace dG:=Bool.eq_false_iff.mpr dG;subst dG;have H1:(some false)=some r:=by rw [if_neg (show ¬ (false=true) by decide)] at H;exact H
              clear H;have H:=H1;clear H1;obtain rfl:=Option.some.inj H;go_wp2;go_ret;exact ⟨by first|rfl|(simp [Ia,Ga] <;> rfl)|(simp [*,Ia,Ga] <;> rfl),by repeat (first|(with_reducible first|exact HB.out|apply ia|apply aa|apply oa|refine ta ?_ Sa.out|refine ta ?_ ic.out)|exact HB.out)⟩
            ·replace eG:=Bool.eq_false_iff.mpr eG;subst eG;have H1:(some false)=some r:=by rw [if_neg (show ¬ (false=true) by decide)] at H;exact H
             clear H;have H:=H1;clear H1;obtain rfl:=Option.some.inj H;go_wp2;go_ret;exact ⟨by first|rfl|(simp [Ia,Ga] <;> rfl)|(simp [*,Ia,Ga] <;> rfl),by repeat (first|(with_reducible first|exact HB.out|apply ia|apply aa|apply oa|refine ta ?_ Sa.out|refine ta ?_ ic.out)|exact HB.out)⟩
           ·rw [if_neg nC] at H;have mC:(Sb == 11)=false:=beq_eq_false_iff_ne.mpr nC;have lC:(Sb != 11)=true:=bne_iff_ne.mpr nC;have iE:=ga.mk H;clear H
            go_upto_if 98 with (fail)
            go_cut [98] (fun GQ wc=>∃ (kq:Nat) (Yp:Bool),GQ = .bool Yp∧ga (Va.j3 kq t103 th Sb Yp Na La Ma Ea Sb Cc uc Nc Mc=some r)∧ga (kq ≤ az)∧ga (wc.heap[Ba]? = some (.cells #[(.slice zb Na.length yb),.int .i64 La,.int .i64 Ma,(.slice Eb Ea.length Ab)] 30 (0,0)))∧ga (wc.heap[Oa]? = some (.cells #[.int .i64 Sb,.int .i64 Cc,.int .i64 uc,.int .i64 Nc,.int .i64 Mc] 67 (0,0)))∧ga (Below w.heap.size w wc))
            case first =>
             have H:=iE.out;clear iE
             by_cases fC:Sb=6
             ·rw [if_pos fC] at H;have Qp:(Sb == 6)=true:=beq_iff_eq.mpr fC;have eC:(Sb != 6)=false:=bne_eq_false_iff_eq.mpr fC;clear fC;(first|rw [Qp]|(simp only [Tb,Vb];rw [Qp])|skip);have H':=ga.mk H;clear H;go_wp2
              go_meet
              case rel=>exact ⟨_,((Sb == 6)),(by first|rfl|(simp;done)|(simp [*];done)),H',⟨by have:=Bw.out;have:=qy.out;have:=gE.out;first|omega|exact Nat.le_refl _⟩,⟨by (with_reducible repeat (first|refine za ?_ _|refine Ca ?_|refine Aa ?_ _));exact ua.out⟩,⟨by (with_reducible repeat (first|refine za ?_ _|refine Ca ?_|refine Aa ?_ _));exact Fa.out⟩,⟨by repeat (first|(with_reducible first|exact HB.out|apply ia|apply aa|apply oa|refine ta ?_ Sa.out|refine ta ?_ ic.out)|exact HB.out)⟩⟩
             ·rw [if_neg fC] at H;have Qp:(Sb == 6)=false:=beq_eq_false_iff_ne.mpr fC;have eC:(Sb != 6)=true:=bne_iff_ne.mpr fC;(first|rw [Qp]|(simp only [Tb,Vb];rw [Qp])|skip)
              by_cases cC:Sb=7
              ·rw [if_pos cC] at H;have bC:(Sb == 7)=true:=beq_iff_eq.mpr cC;have aC:(Sb != 7)=false:=bne_eq_false_iff_eq.mpr cC;clear cC;have H':=ga.mk H;clear H;go_wp2
               go_meet
               case rel=>exact ⟨_,((Sb == 7)),(by first|rfl|(simp;done)|(simp [*];done)),H',⟨by have:=Bw.out;have:=qy.out;have:=gE.out;first|omega|exact Nat.le_refl _⟩,⟨by (with_reducible repeat (first|refine za ?_ _|refine Ca ?_|refine Aa ?_ _));exact ua.out⟩,⟨by (with_reducible repeat (first|refine za ?_ _|refine Ca ?_|refine Aa ?_ _));exact Fa.out⟩,⟨by repeat (first|(with_reducible first|exact HB.out|apply ia|apply aa|apply oa|refine ta ?_ Sa.out|refine ta ?_ ic.out)|exact HB.out)⟩⟩
              ·rw [if_neg cC] at H;have bC:(Sb == 7)=false:=beq_eq_false_iff_ne.mpr cC;have aC:(Sb != 7)=true:=bne_iff_ne.mpr cC;have H':=ga.mk H;clear H;go_wp2
               go_meet
               case rel=>exact ⟨_,((Sb == 10)),(by first|rfl|(simp;done)|(simp [*];done)),H',⟨by have:=Bw.out;have:=qy.out;have:=gE.out;first|omega|exact Nat.le_refl _⟩,⟨by (with_reducible repeat (first|refine za ?_ _|refine Ca ?_|refine Aa ?_ _));exact ua.out⟩,⟨by (with_reducible repeat (first|refine za ?_ _|refine Ca ?_|refine Aa ?_ _));exact Fa.out⟩,⟨by repeat (first|(with_reducible first|exact HB.out|apply ia|apply aa|apply oa|refine ta ?_ Sa.out|refine ta ?_ ic.out)|exact HB.out)⟩⟩
            case rest =>
             clear iE
             try clear c1
             try clear c2
             try clear p2
             try clear c3
             try clear c4
             try clear c5
             try clear c6
             try clear p6
             try clear c8
             try clear c9
             try clear Hs
             try clear gm
             try clear Gs
             try clear uC
             try clear tC
             try clear um
             try clear Sp
             try clear Rp
             try clear kr
             try clear PD
             try clear OD
             try clear vw
             try clear lu
             try clear dm
             try clear Fv
             try clear Vx
             try clear yE
             try clear Ys
             try clear xE
             try clear lB
             try clear Rx
             try clear Qx
             try clear Px
             try clear Ox
             try clear wE
             try clear MR
             try clear LR
             try clear kB
             try clear Uo
             try clear Mx
             try clear iG
             try clear gG
             try clear fG
             try clear rC
             try clear qC
             try clear oC
             try clear TS
             try clear SS
             try clear nC
             try clear mC
             try clear lC
             try clear eG
             try clear dG
             try clear kC
             try clear jC
             try clear iC
             try clear RS
             try clear QS
             try clear fC
             try clear Qp
             try clear eC
             try clear cC
             try clear bC
             try clear aC
             try clear xS
             try clear Xi
             try clear Wi
             try clear Vi
             try clear Ui
             try clear Xl
             try clear Wl
             try clear Vl
             try clear Ul
             try clear Tl
             try clear Vn
             try clear Vh
             try clear Uh
             try clear Th
             try clear Sh
             try clear Zq
             try clear Wj
             try clear Vj
             try clear Uj
             try clear Tj
             try clear Yq
             try clear Un
             try clear Tn
             try clear Sn
             try clear Rn
             try clear Qn
             try clear Tq
             try clear Sq
             try clear Rq
             try clear Qq
             try clear nv
             try clear Pq
             try clear Oq
             try clear Nq
             try clear Mq
             try clear Lq
             try clear Kq
             try clear Jq
             try clear Iq
             try clear jv
             try clear gv
             try clear cv
             try clear av
             try clear Zu
             try clear Yu
             try clear DA
             try clear CA
             try clear BA
             try clear AA
             try clear zA
             try clear yA
             try clear xA
             try clear wA
             try clear vA
             try clear uA
             try clear tA
             try clear sA
             try clear rA
             try clear qA
             try clear oA
             try clear nA
             try clear mA
             try clear kA
             try clear jA
             try clear iA
             try clear gA
             try clear fA
             try clear eA
             try clear dA
             try clear Jm
             try clear Im
             try clear Gm
             try clear Fm
             try clear Eo
             try clear Mi
             try clear Li
             try clear Ki
             try clear Ji
             try clear Nl
             try clear Ml
             try clear Ll
             try clear Kl
             try clear Jl
             try clear Pn
             try clear Rh
             try clear Qh
             try clear Ph
             try clear Oh
             try clear Hq
             try clear Sj
             try clear Rj
             try clear Qj
             try clear Pj
             try clear Gq
             try clear Nn
             try clear Mn
             try clear Ln
             try clear Kn
             try clear Jn
             try clear Aq
             try clear zq
             try clear yq
             try clear xq
             try clear Pu
             try clear wq
             try clear vq
             try clear uq
             try clear tq
             try clear sq
             try clear rq
             try clear qq
             try clear pq
             try clear Ou
             try clear Nu
             try clear Mu
             try clear Lu
             try clear Ku
             try clear Ju
             try clear Dz
             try clear Cz
             try clear Bz
             try clear Az
             try clear zz
             try clear yz
             try clear xz
             try clear wz
             try clear vz
             try clear uz
             try clear rz
             try clear qz
             try clear pz
             try clear oz
             try clear mz
             try clear kz
             try clear jz
             try clear iz
             try clear gz
             try clear fz
             try clear ez
             try clear dz
             try clear cz
             try clear bz
             try clear Am
             try clear zm
             try clear ym
             try clear xm
             try clear Co
             try clear p2
             try clear p6
             obtain ⟨kq,Yp,rfl,HA,RR,ua,Fa,HB⟩:=hcut;cases kq with
             | zero=>exact absurd HA.out (by simp [Va.j3])
             | succ VQ =>
              have H:=HA.out;clear HA;simp only [Va.j3] at H
              by_cases nL:Yp=true
              ·subst nL;have H1:(if t103=true then (if th=true then (some (Mc == 0)) else (some false)) else (some false))=some r:=by rw [if_pos rfl] at H;exact H
               clear H;have H:=H1;clear H1
               by_cases mL:t103=true
               ·subst mL;have H1:(if th=true then (some (Mc == 0)) else (some false))=some r:=by rw [if_pos rfl] at H;exact H
                clear H;have H:=H1;clear H1
                by_cases kL:th=true
                ·subst kL;have H1:(some (Mc == 0))=some r:=by rw [if_pos rfl] at H;exact H
                 clear H;have H:=H1;clear H1;obtain rfl:=Option.some.inj H;have zO:=Gb.out;have WN:=Ib.out;have WJ:wc.cell? ⟨Oa,0,none⟩=some (.int .i64 Sb):=(qa Fa.out 0).trans rfl;have VJ:wc.cell? ⟨Oa,1,none⟩=some (.int .i64 Cc):=(qa Fa.out 1).trans rfl;have UJ:wc.cell? ⟨Oa,2,none⟩=some (.int .i64 uc):=(qa Fa.out 2).trans rfl;have TJ:wc.cell? ⟨Oa,3,none⟩=some (.int .i64 Nc):=(qa Fa.out 3).trans rfl;have SJ:wc.cell? ⟨Oa,4,none⟩=some (.int .i64 Mc):=(qa Fa.out 4).trans rfl;have jI:=ja Fa.out 0;have iI:=ja Fa.out 1;have gI:=ja Fa.out 2;have fI:=ja Fa.out 3;have dI:=ja Fa.out 4;go_wp2;go_ret;exact ⟨by first|rfl|(simp [Ia,Ga] <;> rfl)|(simp [*,Ia,Ga] <;> rfl),by repeat (first|(with_reducible first|exact HB.out|apply ia|apply aa|apply oa|refine ta ?_ Sa.out|refine ta ?_ ic.out)|exact HB.out)⟩
                ·replace kL:=Bool.eq_false_iff.mpr kL;subst kL;have H1:(some false)=some r:=by rw [if_neg (show ¬ (false=true) by decide)] at H;exact H
                 clear H;have H:=H1;clear H1;obtain rfl:=Option.some.inj H;go_wp2;go_ret;exact ⟨by first|rfl|(simp [Ia,Ga] <;> rfl)|(simp [*,Ia,Ga] <;> rfl),by repeat (first|(with_reducible first|exact HB.out|apply ia|apply aa|apply oa|refine ta ?_ Sa.out|refine ta ?_ ic.out)|exact HB.out)⟩
               ·replace mL:=Bool.eq_false_iff.mpr mL;subst mL;have H1:(some false)=some r:=by rw [if_neg (show ¬ (false=true) by decide)] at H;exact H
                clear H;have H:=H1;clear H1;obtain rfl:=Option.some.inj H;go_wp2;go_ret;exact ⟨by first|rfl|(simp [Ia,Ga] <;> rfl)|(simp [*,Ia,Ga] <;> rfl),by repeat (first|(with_reducible first|exact HB.out|apply ia|apply aa|apply oa|refine ta ?_ Sa.out|refine ta ?_ ic.out)|exact HB.out)⟩
              ·replace nL:=Bool.eq_false_iff.mpr nL;subst nL;have H1:(if Sb=8 then (if Cc=0 then (if th=true then ((Ya.f Mc 0 (wrap64 ((Ea.length:Int) - 1))).bind fun t109=>(some t109)) else (some false)) else (some false)) else (if Sb=9 then (if t103=true then (if th=true then ((Ya.f Mc 0 (wrap64 ((Ea.length:Int) - 1))).bind fun t110=>(some t110)) else (some false)) else (some false)) else (some false)))=some r:=by rw [if_neg (show ¬ (false=true) by decide)] at H;exact H
               clear H;have H:=H1;clear H1
               by_cases LD:Sb=8
               ·rw [if_pos LD] at H;have cG:(Sb == 8)=true:=beq_iff_eq.mpr LD;have bG:(Sb != 8)=false:=bne_eq_false_iff_eq.mpr LD;clear LD
                by_cases KD:Cc=0
                ·rw [if_pos KD] at H;have aG:(Cc == 0)=true:=beq_iff_eq.mpr KD;have ZF:(Cc != 0)=false:=bne_eq_false_iff_eq.mpr KD;clear KD
                 by_cases jL:th=true
                 ·subst jL;have H1:((Ya.f Mc 0 (wrap64 ((Ea.length:Int) - 1))).bind fun t109=>(some t109))=some r:=by rw [if_pos rfl] at H;exact H
                  clear H;have H:=H1;clear H1;replace H:=Option.bind_eq_some_iff.mp H;obtain ⟨t109,ZG,H⟩:=H;replace H:(some t109)=some r:=H;have dS:=ga.mk ZG;clear ZG;obtain rfl:=Option.some.inj H;have yO:=Gb.out;have VN:=Ib.out;have RJ:wc.cell? ⟨Oa,0,none⟩=some (.int .i64 Sb):=(qa Fa.out 0).trans rfl;have QJ:wc.cell? ⟨Oa,1,none⟩=some (.int .i64 Cc):=(qa Fa.out 1).trans rfl;have PJ:wc.cell? ⟨Oa,2,none⟩=some (.int .i64 uc):=(qa Fa.out 2).trans rfl;have OJ:wc.cell? ⟨Oa,3,none⟩=some (.int .i64 Nc):=(qa Fa.out 3).trans rfl;have NJ:wc.cell? ⟨Oa,4,none⟩=some (.int .i64 Mc):=(qa Fa.out 4).trans rfl;have cI:=ja Fa.out 0;have bI:=ja Fa.out 1;have aI:=ja Fa.out 2;have ZH:=ja Fa.out 3;have YH:=ja Fa.out 4;have MJ:wc.cell? ⟨Ba,0,none⟩=some (.slice zb Na.length yb):=(qa ua.out 0).trans rfl;have LJ:wc.cell? ⟨Ba,1,none⟩=some (.int .i64 La):=(qa ua.out 1).trans rfl;have KJ:wc.cell? ⟨Ba,2,none⟩=some (.int .i64 Ma):=(qa ua.out 2).trans rfl;have JJ:wc.cell? ⟨Ba,3,none⟩=some (.slice Eb Ea.length Ab):=(qa ua.out 3).trans rfl;have XH:=ja ua.out 0;have WH:=ja ua.out 1;have VH:=ja ua.out 2;have UH:=ja ua.out 3;go_wp2_with (first|(go_at_call 81;(with_reducible refine (Ya.calls Mc 0 (wrap64 ((Ea.length:Int) - 1)) t109 _ dS.out).mono ?_);rintro e w' ⟨rfl,⟨nd,rfl⟩⟩));go_ret;exact ⟨by first|rfl|(simp [Ia,Ga] <;> rfl)|(simp [*,Ia,Ga] <;> rfl),by repeat (first|(with_reducible first|exact HB.out|apply ia|apply aa|apply oa|refine ta ?_ Sa.out|refine ta ?_ ic.out)|exact HB.out)⟩
                 ·replace jL:=Bool.eq_false_iff.mpr jL;subst jL;have H1:(some false)=some r:=by rw [if_neg (show ¬ (false=true) by decide)] at H;exact H
                  clear H;have H:=H1;clear H1;obtain rfl:=Option.some.inj H;have xO:=Gb.out;have UN:=Ib.out;have IJ:wc.cell? ⟨Oa,0,none⟩=some (.int .i64 Sb):=(qa Fa.out 0).trans rfl;have HJ:wc.cell? ⟨Oa,1,none⟩=some (.int .i64 Cc):=(qa Fa.out 1).trans rfl;have GJ:wc.cell? ⟨Oa,2,none⟩=some (.int .i64 uc):=(qa Fa.out 2).trans rfl;have FJ:wc.cell? ⟨Oa,3,none⟩=some (.int .i64 Nc):=(qa Fa.out 3).trans rfl;have EJ:wc.cell? ⟨Oa,4,none⟩=some (.int .i64 Mc):=(qa Fa.out 4).trans rfl;have TH:=ja Fa.out 0;have SH:=ja Fa.out 1;have RH:=ja Fa.out 2;have QH:=ja Fa.out 3;have OH:=ja Fa.out 4;go_wp2;go_ret;exact ⟨by first|rfl|(simp [Ia,Ga] <;> rfl)|(simp [*,Ia,Ga] <;> rfl),by repeat (first|(with_reducible first|exact HB.out|apply ia|apply aa|apply oa|refine ta ?_ Sa.out|refine ta ?_ ic.out)|exact HB.out)⟩
                ·rw [if_neg KD] at H;have aG:(Cc == 0)=false:=beq_eq_false_iff_ne.mpr KD;have ZF:(Cc != 0)=true:=bne_iff_ne.mpr KD;obtain rfl:=Option.some.inj H;have wO:=Gb.out;have TN:=Ib.out;have DJ:wc.cell? ⟨Oa,0,none⟩=some (.int .i64 Sb):=(qa Fa.out 0).trans rfl;have CJ:wc.cell? ⟨Oa,1,none⟩=some (.int .i64 Cc):=(qa Fa.out 1).trans rfl;have BJ:wc.cell? ⟨Oa,2,none⟩=some (.int .i64 uc):=(qa Fa.out 2).trans rfl;have AJ:wc.cell? ⟨Oa,3,none⟩=some (.int .i64 Nc):=(qa Fa.out 3).trans rfl;have zJ:wc.cell? ⟨Oa,4,none⟩=some (.int .i64 Mc):=(qa Fa.out 4).trans rfl;have NH:=ja Fa.out 0;have MH:=ja Fa.out 1;have LH:=ja Fa.out 2;have KH:=ja Fa.out 3;have JH:=ja Fa.out 4;go_wp2;go_ret;exact ⟨by first|rfl|(simp [Ia,Ga] <;> rfl)|(simp [*,Ia,Ga] <;> rfl),by repeat (first|(with_reducible first|exact HB.out|apply ia|apply aa|apply oa|refine ta ?_ Sa.out|refine ta ?_ ic.out)|exact HB.out)⟩
               ·rw [if_neg LD] at H;have cG:(Sb == 8)=false:=beq_eq_false_iff_ne.mpr LD;have bG:(Sb != 8)=true:=bne_iff_ne.mpr LD
                by_cases ID:Sb=9
                ·rw [if_pos ID] at H;have YF:(Sb == 9)=true:=beq_iff_eq.mpr ID;have XF:(Sb != 9)=false:=bne_eq_false_iff_eq.mpr ID;clear ID
                 by_cases iL:t103=true
                 ·subst iL;have H1:(if th=true then ((Ya.f Mc 0 (wrap64 ((Ea.length:Int) - 1))).bind fun t110=>(some t110)) else (some false))=some r:=by rw [if_pos rfl] at H;exact H
                  clear H;have H:=H1;clear H1
                  by_cases gL:th=true
                  ·subst gL;have H1:((Ya.f Mc 0 (wrap64 ((Ea.length:Int) - 1))).bind fun t110=>(some t110))=some r:=by rw [if_pos rfl] at H;exact H
                   clear H;have H:=H1;clear H1;replace H:=Option.bind_eq_some_iff.mp H;obtain ⟨t110,XG,H⟩:=H;replace H:(some t110)=some r:=H;have cS:=ga.mk XG;clear XG;obtain rfl:=Option.some.inj H;have vO:=Gb.out;have SN:=Ib.out;have yJ:wc.cell? ⟨Oa,0,none⟩=some (.int .i64 Sb):=(qa Fa.out 0).trans rfl;have xJ:wc.cell? ⟨Oa,1,none⟩=some (.int .i64 Cc):=(qa Fa.out 1).trans rfl;have wJ:wc.cell? ⟨Oa,2,none⟩=some (.int .i64 uc):=(qa Fa.out 2).trans rfl;have vJ:wc.cell? ⟨Oa,3,none⟩=some (.int .i64 Nc):=(qa Fa.out 3).trans rfl;have uJ:wc.cell? ⟨Oa,4,none⟩=some (.int .i64 Mc):=(qa Fa.out 4).trans rfl;have GH:=ja Fa.out 0;have FH:=ja Fa.out 1;have EH:=ja Fa.out 2;have DH:=ja Fa.out 3;have CH:=ja Fa.out 4;have tJ:wc.cell? ⟨Ba,0,none⟩=some (.slice zb Na.length yb):=(qa ua.out 0).trans rfl;have sJ:wc.cell? ⟨Ba,1,none⟩=some (.int .i64 La):=(qa ua.out 1).trans rfl;have rJ:wc.cell? ⟨Ba,2,none⟩=some (.int .i64 Ma):=(qa ua.out 2).trans rfl;have qJ:wc.cell? ⟨Ba,3,none⟩=some (.slice Eb Ea.length Ab):=(qa ua.out 3).trans rfl;have BH:=ja ua.out 0;have AH:=ja ua.out 1;have zH:=ja ua.out 2;have yH:=ja ua.out 3;go_wp2_with (first|(go_at_call 81;(with_reducible refine (Ya.calls Mc 0 (wrap64 ((Ea.length:Int) - 1)) t110 _ cS.out).mono ?_);rintro e w' ⟨rfl,⟨nd,rfl⟩⟩));go_ret;exact ⟨by first|rfl|(simp [Ia,Ga] <;> rfl)|(simp [*,Ia,Ga] <;> rfl),by repeat (first|(with_reducible first|exact HB.out|apply ia|apply aa|apply oa|refine ta ?_ Sa.out|refine ta ?_ ic.out)|exact HB.out)⟩
                  ·replace gL:=Bool.eq_false_iff.mpr gL;subst gL;have H1:(some false)=some r:=by rw [if_neg (show ¬ (false=true) by decide)] at H;exact H
                   clear H;have H:=H1;clear H1;obtain rfl:=Option.some.inj H;go_wp2;go_ret;exact ⟨by first|rfl|(simp [Ia,Ga] <;> rfl)|(simp [*,Ia,Ga] <;> rfl),by repeat (first|(with_reducible first|exact HB.out|apply ia|apply aa|apply oa|refine ta ?_ Sa.out|refine ta ?_ ic.out)|exact HB.out)⟩
                 ·replace iL:=Bool.eq_false_iff.mpr iL;subst iL;have H1:(some false)=some r:=by rw [if_neg (show ¬ (false=true) by decide)] at H;exact H
                  clear H;have H:=H1;clear H1;obtain rfl:=Option.some.inj H;go_wp2;go_ret;exact ⟨by first|rfl|(simp [Ia,Ga] <;> rfl)|(simp [*,Ia,Ga] <;> rfl),by repeat (first|(with_reducible first|exact HB.out|apply ia|apply aa|apply oa|refine ta ?_ Sa.out|refine ta ?_ ic.out)|exact HB.out)⟩
                ·rw [if_neg ID] at H;have YF:(Sb == 9)=false:=beq_eq_false_iff_ne.mpr ID;have XF:(Sb != 9)=true:=bne_iff_ne.mpr ID;obtain rfl:=Option.some.inj H;go_wp2;go_ret;exact ⟨by first|rfl|(simp [Ia,Ga] <;> rfl)|(simp [*,Ia,Ga] <;> rfl),by repeat (first|(with_reducible first|exact HB.out|apply ia|apply aa|apply oa|refine ta ?_ Sa.out|refine ta ?_ ic.out)|exact HB.out)⟩
end Go.Proofs.Ytoomcmaifgkkfaa.P
end
