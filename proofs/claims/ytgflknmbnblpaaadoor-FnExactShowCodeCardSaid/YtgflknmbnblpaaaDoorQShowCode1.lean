import Derived.Test.YtgflknmbnblpaaaDoorProg
import Derived.Below
import Derived.Deep.Draws
import Derived.Deep.AppendLies
import Derived.Maps.AppendAt
import Derived.OwnWalk
import Derived.Laws.BytesArg
import Derived.Laws.MakeOwn
import Derived.Laws.OwnMore
import Derived.Deep.OwnRows
import Derived.Tactics
import Derived.Lib.ConvBytes
import Derived.Laws.Slices
import Derived.WalkKit
import Derived.KernelRfl
import Derived.RowKit3
import Derived.Deep.LoopGhost
import Derived.Deep.QuietTactic
import Derived.BigQuiet
import Derived.WideLaws
import Derived.Deep.DeepCutAuto
import Derived.Deep.CutBlock
import Derived.Deep.RegionHeld3
import Derived.Laws.Rows
import Derived.Lib.AppendStr
import Derived.ArgAppend
import Derived.Laws.IdiomCopy
import Derived.OrdersHeld
import Derived.Laws.BitsLemmas
import Derived.RowKit
import Derived.Test.YtgflknmbnblpaaaDoorQShowCodeW1
import Derived.Deep.Slices
import Derived.ChangeArms
import Derived.OpenShut
import Derived.WideShapes
set_option maxHeartbeats 8000000
set_option maxRecDepth 100000
section
namespace Go.Proofs.YtgflknmbnblpaaaDoor.P
open Go.RowKit Go.Proofs.Aa.gb Go.Proofs.Aa.Wc Go.Proofs.Aa.ze
set_option linter.unusedVariables false
set_option linter.unusedSimpArgs false
attribute [local go_sem] Nh Lh qj nj Ng Mg Mh Kh
def LB:Option Int→Value
 | none=>.nilIface
 | some c=>.iface 0 (.int .i64 c)
theorem Ja:LB none = .nilIface:=rfl
theorem Ia (c:Int):LB (some c) = .iface 0 (.int .i64 c):=rfl
theorem info3:(Tryd.prog.info? 3).map (fun i=>(i.zero,i.size,i.bytes))=some (some (.int .i64 0),1,8):=by kernel_rfl
theorem Uz:(Tryd.prog.info? 53).map (fun i=>(i.zero,i.size,i.bytes))=some (some (.agg #[(.int .i64 0),(.int .i64 0),(.int .i64 0),(.int .i64 0),(.int .i64 0)]),5,40):=by kernel_rfl
structure gl where
 f0:Int
 f1:Int
 f2:Int
 f3:Int
 f4:Int
def rI:gl:=⟨(0:Int),(0:Int),(0:Int),(0:Int),(0:Int)⟩
def Qu:Kd gl:=Kd.nD (Kd.pair (Kd.int .i64) (Kd.pair (Kd.int .i64) (Kd.pair (Kd.int .i64) (Kd.pair (Kd.int .i64) (Kd.int .i64))))) (fun x:gl=>(x.f0,x.f1,x.f2,x.f3,x.f4))
theorem Pu {w:World} {x:gl} {cs:List Value} (h:Qu.K w x cs):cs=[.int .i64 x.f0,.int .i64 x.f1,.int .i64 x.f2,.int .i64 x.f3,.int .i64 x.f4]:=by
 obtain ⟨_,_,rfl,rfl,⟨_,_,rfl,rfl,⟨_,_,rfl,rfl,⟨_,_,rfl,rfl,rfl⟩⟩⟩⟩:=h;exact rfl
def Nd (xs:List gl) (i:Int):gl:=xs.getD i.toNat rI
theorem DA {w:World} {A:Option Addr} {n:Nat} {xs:List gl} (h:Kd.C Qu w A n xs) (i:Int) (h0:0 ≤ i) (h1:i < n):∃ ad , A=some ad∧w.cell? (ad.add (i.toNat * 5))=some (.int .i64 (Nd xs i).f0)∧w.cell? ⟨(ad.add (i.toNat * 5)).block,(ad.add (i.toNat * 5)).off + 1,none⟩=some (.int .i64 (Nd xs i).f1)∧w.cell? ⟨(ad.add (i.toNat * 5)).block,(ad.add (i.toNat * 5)).off + 2,none⟩=some (.int .i64 (Nd xs i).f2)∧w.cell? ⟨(ad.add (i.toNat * 5)).block,(ad.add (i.toNat * 5)).off + 3,none⟩=some (.int .i64 (Nd xs i).f3)∧w.cell? ⟨(ad.add (i.toNat * 5)).block,(ad.add (i.toNat * 5)).off + 4,none⟩=some (.int .i64 (Nd xs i).f4):=by
 obtain ⟨ad,c,e,_,hK,hc0⟩:=Kd.Az h rI i h0 h1;have hc:∀ j u,c[j]? = some u→w.cell? (ad.add (i.toNat * 5 + j))=some u:=hc0;obtain rfl:=Pu hK;exact ⟨ad,e,hc 0 _ rfl,by rw [← gf _ _ 1 (by omega)];exact hc 1 _ rfl,by rw [← gf _ _ 2 (by omega)];exact hc 2 _ rfl,by rw [← gf _ _ 3 (by omega)];exact hc 3 _ rfl,by rw [← gf _ _ 4 (by omega)];exact hc 4 _ rfl⟩
structure DC where
 f0:(List Int)
 f1:Int
 f2:Int
 f3:(List gl)
def zI:Kd DC:=Kd.nD (Kd.pair (Kd.slice 3 (Kd.int .i64)) (Kd.pair (Kd.int .i64) (Kd.pair (Kd.int .i64) (Kd.slice 71 Qu)))) (fun x:DC=>(x.f0,x.f1,x.f2,x.f3))
theorem Su {w:World} {x:DC} {cs:List Value} (h:zI.K w x cs):∃ A0 c0 A3 c3,cs=[.slice A0 x.f0.length c0,.int .i64 x.f1,.int .i64 x.f2,.slice A3 x.f3.length c3]∧x.f0.length ≤ c0∧(Kd.int .i64).C w A0 x.f0.length x.f0∧x.f3.length ≤ c3∧Qu.C w A3 x.f3.length x.f3:=by
 obtain ⟨_,_,rfl,⟨A0,c0,rfl,l0,g0⟩,⟨_,_,rfl,rfl,⟨_,_,rfl,rfl,⟨A3,c3,rfl,l3,g3⟩⟩⟩⟩:=h;exact ⟨A0,c0,A3,c3,rfl,l0,g0,l3,g3⟩
structure Pd where
 f0:Int
 f1:Int
 f2:Int
 f3:Int
 f4:Int
def z53:Pd:=⟨(0:Int),(0:Int),(0:Int),(0:Int),(0:Int)⟩
def Si:Kd Pd:=Kd.nD (Kd.pair (Kd.int .i64) (Kd.pair (Kd.int .i64) (Kd.pair (Kd.int .i64) (Kd.pair (Kd.int .i64) (Kd.int .i64))))) (fun x:Pd=>(x.f0,x.f1,x.f2,x.f3,x.f4))
theorem Ru {w:World} {x:Pd} {cs:List Value} (h:Si.K w x cs):cs=[.int .i64 x.f0,.int .i64 x.f1,.int .i64 x.f2,.int .i64 x.f3,.int .i64 x.f4]:=by
 obtain ⟨_,_,rfl,rfl,⟨_,_,rfl,rfl,⟨_,_,rfl,rfl,⟨_,_,rfl,rfl,rfl⟩⟩⟩⟩:=h;exact rfl
theorem Om {w:World} {base:Nat} {ok:Nat→Prop} {x:Pd} {cs:List Value} (h:Si.M w base ok x cs):cs=[.int .i64 x.f0,.int .i64 x.f1,.int .i64 x.f2,.int .i64 x.f3,.int .i64 x.f4]:=by
 obtain ⟨_,_,rfl,rfl,⟨_,_,rfl,rfl,⟨_,_,rfl,rfl,⟨_,_,rfl,rfl,rfl⟩⟩⟩⟩:=h;exact rfl
theorem Wr (w:World) (base:Nat) (ok:Nat→Prop) (x:Pd)  : Si.M w base ok x [.int .i64 x.f0,.int .i64 x.f1,.int .i64 x.f2,.int .i64 x.f3,.int .i64 x.f4]:=⟨[.int .i64 x.f0],[.int .i64 x.f1,.int .i64 x.f2,.int .i64 x.f3,.int .i64 x.f4],rfl,rfl,⟨[.int .i64 x.f1],[.int .i64 x.f2,.int .i64 x.f3,.int .i64 x.f4],rfl,rfl,⟨[.int .i64 x.f2],[.int .i64 x.f3,.int .i64 x.f4],rfl,rfl,⟨[.int .i64 x.f3],[.int .i64 x.f4],rfl,rfl,rfl⟩⟩⟩⟩
def za (xs:List Pd) (i:Int):Pd:=xs.getD i.toNat z53
theorem Df {w:World} {A:Option Addr} {n:Nat} {xs:List Pd} (h:Kd.C Si w A n xs) (i:Int) (h0:0 ≤ i) (h1:i < n):∃ ad , A=some ad∧w.cell? (ad.add (i.toNat * 5))=some (.int .i64 (za xs i).f0)∧w.cell? ⟨(ad.add (i.toNat * 5)).block,(ad.add (i.toNat * 5)).off + 1,none⟩=some (.int .i64 (za xs i).f1)∧w.cell? ⟨(ad.add (i.toNat * 5)).block,(ad.add (i.toNat * 5)).off + 2,none⟩=some (.int .i64 (za xs i).f2)∧w.cell? ⟨(ad.add (i.toNat * 5)).block,(ad.add (i.toNat * 5)).off + 3,none⟩=some (.int .i64 (za xs i).f3)∧w.cell? ⟨(ad.add (i.toNat * 5)).block,(ad.add (i.toNat * 5)).off + 4,none⟩=some (.int .i64 (za xs i).f4):=by
 obtain ⟨ad,c,e,_,hK,hc0⟩:=Kd.Az h z53 i h0 h1;have hc:∀ j u,c[j]? = some u→w.cell? (ad.add (i.toNat * 5 + j))=some u:=hc0;obtain rfl:=Ru hK;exact ⟨ad,e,hc 0 _ rfl,by rw [← gf _ _ 1 (by omega)];exact hc 1 _ rfl,by rw [← gf _ _ 2 (by omega)];exact hc 2 _ rfl,by rw [← gf _ _ 3 (by omega)];exact hc 3 _ rfl,by rw [← gf _ _ 4 (by omega)];exact hc 4 _ rfl⟩
structure VL where
 f0:(List Int)
 f1:Int
 f2:Int
 f3:(List Pd)
def z37:VL:=⟨([]:List Int),(0:Int),(0:Int),([]:List Pd)⟩
def Gg (P:Program) (t:TypeId) {α:Type} (d:Kd α) (fit:α→Prop):Prop :=
 ∀ {H:Type} {enc:TypeId × Value→H} {w:World} {base:Nat} {spare:Nat→Bool} {held:Bool} {fuel:Nat} {cs:List Value} {x:DataW H × List MemPlace},
  DataW.trod enc P w base spare held fuel t cs=some x→∃ a:α,d.K w a cs∧fit a
theorem eu {P:Program} {t:TypeId} {k:IntKind} (ht:P.underlying t=some (.int k)):Gg P t (Kd.int k) (fun n=>(Lit.int k n).wf=true):=by
 intro H enc w base spare held fuel cs x h;obtain ⟨n,rfl,_,hw⟩:=DataW.trod_int ht h;exact ⟨n,rfl,hw⟩
def cl (n:Int):Prop:=-9223372036854775808 ≤ n∧n ≤ 9223372036854775807
theorem wf_i64 {n:Int} (h:(Lit.int .i64 n).wf=true):cl n:=by
 simp [Lit.wf,IntKind.min,IntKind.max,IntKind.signed,IntKind.bits] at h;unfold cl;omega
theorem bf {P:Program} {t:TypeId} (ht:P.underlying t=some (.int .i64)):Gg P t (Kd.int .i64) cl:=by
 intro H enc w base spare held fuel cs x h;obtain ⟨n,h1,h2⟩:=eu ht h;exact ⟨n,h1,wf_i64 h2⟩
theorem Sk {α:Type} {p:Nat→α→Prop}:∀ n,(∀ i,i < n→∃ a,p i a)→∃ xs:List α,xs.length=n∧∀ (i:Nat) (a:α),xs[i]? = some a→p i a
 | 0,_=>⟨[],rfl,fun i a h=>by simp at h⟩
 | n + 1,h=>by
  obtain ⟨xs,hl,hx⟩:=Sk n (fun i hi=>h i (by omega));obtain ⟨a,ha⟩:=h n (by omega);refine ⟨xs ++ [a],by simp [hl],fun i b hb=>?_⟩
  rcases Nat.lt_or_ge i xs.length with hi|hi
  ·rw [List.getElem?_append_left hi] at hb;exact hx i b hb
  ·have:i=n:=by
    have:=(List.getElem?_eq_some_iff.1 hb).1;simp [hl] at this;omega
   subst this;rw [List.getElem?_append_right hi,hl] at hb;simp at hb;exact hb ▸ ha
theorem Rk {P:Program} {t e e':TypeId} {α:Type} {d:Kd α} {fit:α→Prop} (ht:P.underlying t=some (.slice e)) (hs:P.cellsOf e=d.sz) (h:Gg P e d fit):Gg P t (Kd.slice e' d) (fun l=>l.length ≤ 9223372036854775807∧∀ a ∈ l,fit a):=by
 intro H enc w base spare held fuel cs x hx
 rcases Go.Deep.open_slice ht hx with ⟨rfl,_⟩|⟨a,len,cap,m,n,D,Pl,rfl,hb,hl,hm,hmm,_,hel⟩
 ·exact ⟨[],⟨none,0,rfl,Nat.le_refl _,rfl,by simp,fun hp=>absurd hp (by simp)⟩,by simp,by simp⟩
 ·have hle:len ≤ m:=by rw [hmm];split <;> omega
  have uH:len ≤ 9223372036854775807:=by simp only [maxLen] at hm;omega
  obtain ⟨xs,hxl,hxs⟩:=Sk (α:=α) (p:=fun i y=>∃ c,c.length=d.sz∧d.K w y c∧(∀ j u,c[j]? = some u→w.cell? (a.add (i * d.sz + j))=some u)∧fit y) len (fun i hi=>by
   obtain ⟨cs',h1,h2⟩:=hel i (by omega);obtain ⟨y,hy,hf⟩:=h h2;obtain ⟨_,hcl,SH⟩:=World.cells?_some h1;refine ⟨y,cs',by rw [hcl,hs],hy,fun j u hu=>?_,hf⟩;have hj:j < P.cellsOf e:=by rw [← hcl];exact (List.getElem?_eq_some_iff.1 hu).1
   rw [← hs,← Go.Deep.add_add,SH j hj]
   exact hu)
  refine ⟨xs,⟨some a,cap,by rw [hxl],by omega,rfl,by omega,fun _=>⟨a,rfl,fun j p hj=>?_⟩⟩,by omega,fun y hy=>?_⟩
  ·obtain ⟨c,h1,h2,h3,_⟩:=hxs j p hj;exact ⟨c,h1,h2,h3⟩
  ·obtain ⟨i,hi,rfl⟩:=List.getElem_of_mem hy;obtain ⟨c,_,_,_,h4⟩:=hxs i _ (List.getElem?_eq_getElem hi);exact h4
def lp (P:Program) (fs:List Field) (off:Nat) {α:Type} (d:Kd α) (fit:α→Prop):Prop :=
 ∀ {H:Type} {enc:TypeId × Value→H} {w:World} {base:Nat} {spare:Nat→Bool} {held:Bool} {n:Nat} {cs:List Value},
  (∀ f ∈ fs,∃ y,DataW.trod enc P w base spare held n f.type ((cs.drop f.offset).take (P.cellsOf f.type))=some y)→cs.length=off + d.sz→∃ a:α,d.K w a (cs.drop off)∧fit a
theorem Sl {P:Program} {f:Field} {off:Nat} {α:Type} {d:Kd α} {fit:α→Prop} (ho:f.offset=off) (hs:P.cellsOf f.type=d.sz) (h:Gg P f.type d fit):lp P [f] off d fit:=by
 intro H enc w base spare held n cs hf hl;obtain ⟨y,hy⟩:=hf f (by simp);rw [ho,hs,List.take_of_length_le (by rw [List.length_drop];omega)] at hy;exact h hy
theorem Ee {P:Program} {f:Field} {fs:List Field} {off off2:Nat} {α β:Type} {d:Kd α} {d2:Kd β} {fit:α→Prop} {JB:β→Prop} (ho:f.offset=off) (hs:P.cellsOf f.type=d.sz) (tH:off2=off + d.sz) (h:Gg P f.type d fit) (h2:lp P fs off2 d2 JB):lp P (f :: fs) off (Kd.pair d d2) (fun p=>fit p.1∧JB p.2):=by
 intro H enc w base spare held n cs hf hl;have hl':cs.length=off + (d.sz + d2.sz):=hl;obtain ⟨y,hy⟩:=hf f (by simp);rw [ho,hs] at hy;obtain ⟨a,ha,fa⟩:=h hy;obtain ⟨b,hb,fb⟩:=h2 (fun g hg=>hf g (List.mem_cons_of_mem _ hg)) (by omega);refine ⟨(a,b),⟨(cs.drop off).take d.sz,cs.drop off2,?_,ha,hb⟩,fa,fb⟩;rw [tH,← List.drop_drop,List.take_append_drop]
theorem mj {P:Program} {t:TypeId} {fs:Array Field} {α:Type} {d:Kd α} {fit:α→Prop} (ht:P.underlying t=some (.struct fs)) (hs:P.cellsOf t=d.sz) (h:lp P fs.toList 0 d fit):Gg P t d fit:=by
 intro H enc w base spare held fuel cs x hx;obtain ⟨xs,n,_,_,hl,hxl,hf⟩:=DataW.trod_struct ht hx
 have:=h (w:=w) (enc:=enc) (base:=base) (spare:=spare) (held:=held) (n:=n) (cs:=cs) (fun f EL=>by
  obtain ⟨i,hi,rfl⟩:=List.getElem_of_mem EL;have hi':i < fs.size:=by simpa using hi
  have h1:=hf i (fs.toList[i]) (by simp [hi']);rw [List.getElem?_eq_getElem (by omega)] at h1
  exact ⟨_,h1⟩) (by omega)
 simpa using this
theorem Km {P:Program} {t:TypeId} {α β:Type} {d:Kd α} {fit:α→Prop} {g:β→α} (gi:α→β) (hg:∀ a,g (gi a)=a) (h:Gg P t d fit):Gg P t (Kd.nD d g) (fun b=>fit (g b)):=by
 intro H enc w base spare held fuel cs x hx;obtain ⟨a,ha,hf⟩:=h hx;refine ⟨gi a,?_,?_⟩
 ·show d.K w (g (gi a)) cs
  rw [hg];exact ha
 ·show fit (g (gi a))
  rw [hg];exact hf
theorem Nu {P:Program} {t:TypeId} {fs:Array Field} {α:Type} {d:Kd α} {fit:α→Prop} {r:Reach} {b0:Nat} {H:Type} {enc:TypeId × Value→H} {w:World} {base:Nat} {spare:Nat→Bool} {held:Bool} {v:Value} {dt:DataW H} {p:List MemPlace}
  (ht:P.underlying t=some (.struct fs)) (h:Gg P t d fit) (hv:Value.okWide P w r b0 t v) (hd:DataW.Trod enc P w base spare held t v dt p) :
  ∃ (a:α) (cs:Array Value),v = .agg cs∧d.K w a cs.toList∧fit a:=by
 obtain ⟨cs,rfl,hsz⟩:=Go.WideShapes.okWide_struct ht hv;obtain ⟨fuel,hf⟩:=hd;obtain ⟨a,ha,FL⟩:=h hf;exact ⟨a,cs,rfl,by simpa [Value.cells] using ha,FL⟩
theorem Xv:Gg Tryd.prog 29 (Kd.slice 3 (Kd.int .i64)) (fun l=>l.length ≤ 9223372036854775807∧∀ a ∈ l,cl a):=Rk Tryd.underlying29 (by kernel_rfl) (bf Tryd.underlying3)
def Wu (x:gl):Prop:=cl x.f0∧cl x.f1∧cl x.f2∧cl x.f3∧cl x.f4
theorem Uv:Gg Tryd.prog 71 Qu Wu:=Km (fun p=>⟨p.1,p.2.1,p.2.2.1,p.2.2.2.1,p.2.2.2.2⟩) (fun _=>rfl) (mj Tryd.underlying71 (by kernel_rfl) (Ee rfl (by kernel_rfl) (by kernel_rfl) (bf Tryd.underlying3) (Ee rfl (by kernel_rfl) (by kernel_rfl) (bf Tryd.underlying3) (Ee rfl (by kernel_rfl) (by kernel_rfl) (bf Tryd.underlying3) (Ee rfl (by kernel_rfl) (by kernel_rfl) (bf Tryd.underlying3) (Sl rfl (by kernel_rfl) (bf Tryd.underlying3)))))))
theorem Wv:Gg Tryd.prog 30 (Kd.slice 71 Qu) (fun l=>l.length ≤ 9223372036854775807∧∀ a ∈ l,Wu a):=Rk Tryd.underlying30 (by kernel_rfl) Uv
def My (x:DC):Prop:=(fun l=>l.length ≤ 9223372036854775807∧∀ a ∈ l,cl a) x.f0∧cl x.f1∧cl x.f2∧(fun l=>l.length ≤ 9223372036854775807∧∀ a ∈ l,Wu a) x.f3
theorem Vv:Gg Tryd.prog 32 zI My:=Km (fun p=>⟨p.1,p.2.1,p.2.2.1,p.2.2.2⟩) (fun _=>rfl) (mj Tryd.underlying32 (by kernel_rfl) (Ee rfl (by kernel_rfl) (by kernel_rfl) Xv (Ee rfl (by kernel_rfl) (by kernel_rfl) (bf Tryd.underlying3) (Ee rfl (by kernel_rfl) (by kernel_rfl) (bf Tryd.underlying3) (Sl rfl (by kernel_rfl) Wv)))))
def Ya.l0:Nat→Int→ByteArray→Int→Option (ByteArray)
 | 0,_,_,_=>none
 | k + 1,x0,x3,x4=>if x4=0 then (if x0 < 0 then (if 1 + x3.size ≤ 9223372036854775807 then (some ((⟨#[45]⟩:ByteArray) ++ x3)) else (none)) else (some x3)) else (if (Int.tmod x4 10) < 0 then (if 0 ≤ (wrap64 (-(Int.tmod x4 10))) then (if (wrap64 (-(Int.tmod x4 10))) ≤ (wrap64 ((wrap64 (-(Int.tmod x4 10))) + 1)) then (if (wrap64 ((wrap64 (-(Int.tmod x4 10))) + 1)) ≤ 10 then (if ((⟨#[48,49,50,51,52,53,54,55,56,57]⟩:ByteArray).extract ((wrap64 (-(Int.tmod x4 10))):Int).toNat ((wrap64 ((wrap64 (-(Int.tmod x4 10))) + 1)):Int).toNat).size + x3.size ≤ 9223372036854775807 then (Ya.l0 k x0 (((⟨#[48,49,50,51,52,53,54,55,56,57]⟩:ByteArray).extract ((wrap64 (-(Int.tmod x4 10))):Int).toNat ((wrap64 ((wrap64 (-(Int.tmod x4 10))) + 1)):Int).toNat) ++ x3) (wrap64 (Int.tdiv x4 10))) else (none)) else (none)) else (none)) else (none)) else (if 0 ≤ (Int.tmod x4 10) then (if (Int.tmod x4 10) ≤ (wrap64 ((Int.tmod x4 10) + 1)) then (if (wrap64 ((Int.tmod x4 10) + 1)) ≤ 10 then (if ((⟨#[48,49,50,51,52,53,54,55,56,57]⟩:ByteArray).extract ((Int.tmod x4 10):Int).toNat ((wrap64 ((Int.tmod x4 10) + 1)):Int).toNat).size + x3.size ≤ 9223372036854775807 then (Ya.l0 k x0 (((⟨#[48,49,50,51,52,53,54,55,56,57]⟩:ByteArray).extract ((Int.tmod x4 10):Int).toNat ((wrap64 ((Int.tmod x4 10) + 1)):Int).toNat) ++ x3) (wrap64 (Int.tdiv x4 10))) else (none)) else (none)) else (none)) else (none)))
def Ya.f (k:Nat) (a0:Int):Option (ByteArray):=if a0=0 then (some (⟨#[48]⟩:ByteArray)) else (Ya.l0 k a0 (⟨#[]⟩:ByteArray) a0)
theorem Ya.calls (k:Nat) (a0:Int) (r:ByteArray) (w:World) (h:Ya.f k a0=some r) :
  Calls Tryd.prog 15 #[.int .i64 a0] w fun e w'=>e = .returned (.string r)∧ec w w':=by
 have H:(if a0=0 then (some (⟨#[48]⟩:ByteArray)) else (Ya.l0 k a0 (⟨#[]⟩:ByteArray) a0))=some r:=h;clear h
 by_cases c2:a0=0
 ·rw [if_pos c2] at H;have uu:(a0 == 0)=true:=beq_iff_eq.mpr c2;have tu:(a0 != 0)=false:=bne_eq_false_iff_eq.mpr c2;clear c2;obtain rfl:=Option.some.inj H;go_enter Tryd.func15,Tryd.ntmps15;go_wp2;go_ret;exact ⟨by first|rfl|(simp;done)|(simp [*];done),by repeat (first|exact ec.refl _|apply ec.step)⟩
 ·rw [if_neg c2] at H;have uu:(a0 == 0)=false:=beq_eq_false_iff_ne.mpr c2;have tu:(a0 != 0)=true:=bne_iff_ne.mpr c2;have H':=oa.mk H;clear H;go_enter Tryd.func15,Tryd.ntmps15;go_wp2
  go_loopg [3,4] k (fun kq v3 v4 w'=>∃ (mb:ByteArray) (dc:Int),v3 = .string mb∧v4 = .int .i64 dc∧oa (Ya.l0 kq a0 mb dc=some r)∧oa (kq ≤ k)∧ec w w')
  case atStart=>exact ⟨((⟨#[]⟩:ByteArray)),(a0),(by first|rfl|(simp;done)|(simp [*];done)),(by first|rfl|(simp;done)|(simp [*];done)),H',⟨Nat.le_refl _⟩,by repeat (first|exact ec.refl _|apply ec.step)⟩
  case round =>
   clear H'
   try clear c1
   try clear c2
   try clear uu
   try clear tu
   try clear p2
   (try clear HA);(try clear Lg);obtain ⟨mb,dc,rfl,rfl,HA,Lg,⟨m1,rfl⟩⟩:=hrel;cases gk with
   | zero=>exact absurd HA.out (by simp [Ya.l0])
   | succ k1 =>
    have H:=HA.out;clear HA;simp only [Ya.l0] at H
    by_cases c3:dc=0
    ·rw [if_pos c3] at H;have Ag:(dc == 0)=true:=beq_iff_eq.mpr c3;have Gk:(dc != 0)=false:=bne_eq_false_iff_eq.mpr c3;clear c3
     by_cases c4:a0 < 0
     ·rw [if_pos c4] at H;have Li:decide (a0 < 0)=true:=decide_eq_true c4;clear c4
      by_cases c5:1 + mb.size ≤ 9223372036854775807
      ·rw [if_pos c5] at H;have su:=eq_true c5;have fy:decide (1 + mb.size ≤ 9223372036854775807)=true:=decide_eq_true c5
       try have SL:(9223372036854775807 < 1 + mb.size)=False:=eq_false (Nat.not_lt.2 c5)
       obtain rfl:=Option.some.inj H;go_wp2;go_ret;exact ⟨by first|rfl|(simp;done)|(simp [*];done),by repeat (first|exact ec.refl _|apply ec.step)⟩
      ·rw [if_neg c5] at H;exact absurd H (by simp)
     ·rw [if_neg c4] at H;have Li:decide (a0 < 0)=false:=decide_eq_false c4;clear c4;obtain rfl:=Option.some.inj H;go_wp2;go_ret;exact ⟨by first|rfl|(simp;done)|(simp [*];done),by repeat (first|exact ec.refl _|apply ec.step)⟩
    ·rw [if_neg c3] at H;have Ag:(dc == 0)=false:=beq_eq_false_iff_ne.mpr c3;have Gk:(dc != 0)=true:=bne_iff_ne.mpr c3
     by_cases c6:(Int.tmod dc 10) < 0
     ·rw [if_pos c6] at H;have Ah:decide ((Int.tmod dc 10) < 0)=true:=decide_eq_true c6;clear c6;obtain ⟨bl,bw⟩:∃ j_:Int,(wrap64 (-(Int.tmod dc 10)))=j_:=⟨_,rfl⟩;replace H:(if 0 ≤ (bl) then (if (bl) ≤ (wrap64 ((bl) + 1)) then (if (wrap64 ((bl) + 1)) ≤ 10 then (if ((⟨#[48,49,50,51,52,53,54,55,56,57]⟩:ByteArray).extract ((bl):Int).toNat ((wrap64 ((bl) + 1)):Int).toNat).size + mb.size ≤ 9223372036854775807 then (Ya.l0 k1 a0 (((⟨#[48,49,50,51,52,53,54,55,56,57]⟩:ByteArray).extract ((bl):Int).toNat ((wrap64 ((bl) + 1)):Int).toNat) ++ mb) (wrap64 (Int.tdiv dc 10))) else (none)) else (none)) else (none)) else (none))=some r:=by first|(rw [bw] at H;exact H)|(simp only [bw] at H ⊢;exact H)
      have FJ:(IntKind.i64.wrap (-(Int.tmod dc 10)))=bl:=(Kb _).trans bw
      by_cases c8:0 ≤ (bl)
      ·rw [if_pos c8] at H;have wA:=eq_true c8;have RL:decide (0 ≤ (bl))=true:=decide_eq_true c8;clear c8
       by_cases c9:(bl) ≤ (wrap64 ((bl) + 1))
       ·rw [if_pos c9] at H;have jI:=eq_true c9;have QL:decide ((bl) ≤ (wrap64 ((bl) + 1)))=true:=decide_eq_true c9
        by_cases c10:(wrap64 ((bl) + 1)) ≤ 10
        ·rw [if_pos c10] at H;have Qg:=eq_true c10;have Xm:decide ((wrap64 ((bl) + 1)) ≤ 10)=true:=decide_eq_true c10
         by_cases c11:((⟨#[48,49,50,51,52,53,54,55,56,57]⟩:ByteArray).extract ((bl):Int).toNat ((wrap64 ((bl) + 1)):Int).toNat).size + mb.size ≤ 9223372036854775807
         ·rw [if_pos c11] at H;have Av:=eq_true c11;have wC:decide (((⟨#[48,49,50,51,52,53,54,55,56,57]⟩:ByteArray).extract ((bl):Int).toNat ((wrap64 ((bl) + 1)):Int).toNat).size + mb.size ≤ 9223372036854775807)=true:=decide_eq_true c11
          try have NK:(9223372036854775807 < ((⟨#[48,49,50,51,52,53,54,55,56,57]⟩:ByteArray).extract ((bl):Int).toNat ((wrap64 ((bl) + 1)):Int).toNat).size + mb.size)=False:=eq_false (Nat.not_lt.2 c11)
          have H':=oa.mk H;clear H;go_wp2
          go_roundg k1
          case measure=>have:=Lg.out;omega
          case rel=>exact ⟨(((⟨#[48,49,50,51,52,53,54,55,56,57]⟩:ByteArray).extract ((bl):Int).toNat ((wrap64 ((bl) + 1)):Int).toNat) ++ mb),(wrap64 (Int.tdiv dc 10)),(by first|rfl|(simp;done)|(simp only [← bw] <;> (first|rfl|simp))|(simp [*];done)),(by first|rfl|(simp;done)|(simp [*];done)),H',⟨by have:=Lg.out;omega⟩,by repeat (first|exact ec.refl _|apply ec.step)⟩
         ·rw [if_neg c11] at H;exact absurd H (by simp)
        ·rw [if_neg c10] at H;exact absurd H (by simp)
       ·rw [if_neg c9] at H;exact absurd H (by simp)
      ·rw [if_neg c8] at H;exact absurd H (by simp)
     ·rw [if_neg c6] at H;have Ah:decide ((Int.tmod dc 10) < 0)=false:=decide_eq_false c6;clear c6;obtain ⟨Qf,Fs⟩:∃ j_:Int,(Int.tmod dc 10)=j_:=⟨_,rfl⟩;replace H:(if 0 ≤ (Qf) then (if (Qf) ≤ (wrap64 ((Qf) + 1)) then (if (wrap64 ((Qf) + 1)) ≤ 10 then (if ((⟨#[48,49,50,51,52,53,54,55,56,57]⟩:ByteArray).extract ((Qf):Int).toNat ((wrap64 ((Qf) + 1)):Int).toNat).size + mb.size ≤ 9223372036854775807 then (Ya.l0 k1 a0 (((⟨#[48,49,50,51,52,53,54,55,56,57]⟩:ByteArray).extract ((Qf):Int).toNat ((wrap64 ((Qf) + 1)):Int).toNat) ++ mb) (wrap64 (Int.tdiv dc 10))) else (none)) else (none)) else (none)) else (none))=some r:=by first|(rw [Fs] at H;exact H)|(simp only [Fs] at H ⊢;exact H)
      (try rw [Fs] at Ah)
      by_cases c13:0 ≤ (Qf)
      ·rw [if_pos c13] at H;have vC:=eq_true c13;have MK:decide (0 ≤ (Qf))=true:=decide_eq_true c13;clear c13
       by_cases c14:(Qf) ≤ (wrap64 ((Qf) + 1))
       ·rw [if_pos c14] at H;have oz:=eq_true c14;have mz:decide ((Qf) ≤ (wrap64 ((Qf) + 1)))=true:=decide_eq_true c14
        by_cases c15:(wrap64 ((Qf) + 1)) ≤ 10
        ·rw [if_pos c15] at H;have Uk:=eq_true c15;have Wm:decide ((wrap64 ((Qf) + 1)) ≤ 10)=true:=decide_eq_true c15
         by_cases c16:((⟨#[48,49,50,51,52,53,54,55,56,57]⟩:ByteArray).extract ((Qf):Int).toNat ((wrap64 ((Qf) + 1)):Int).toNat).size + mb.size ≤ 9223372036854775807
         ·rw [if_pos c16] at H;have wv:=eq_true c16;have tC:decide (((⟨#[48,49,50,51,52,53,54,55,56,57]⟩:ByteArray).extract ((Qf):Int).toNat ((wrap64 ((Qf) + 1)):Int).toNat).size + mb.size ≤ 9223372036854775807)=true:=decide_eq_true c16
          try have sC:(9223372036854775807 < ((⟨#[48,49,50,51,52,53,54,55,56,57]⟩:ByteArray).extract ((Qf):Int).toNat ((wrap64 ((Qf) + 1)):Int).toNat).size + mb.size)=False:=eq_false (Nat.not_lt.2 c16)
          have H':=oa.mk H;clear H;go_wp2
          go_roundg k1
          case measure=>have:=Lg.out;omega
          case rel=>exact ⟨(((⟨#[48,49,50,51,52,53,54,55,56,57]⟩:ByteArray).extract ((Qf):Int).toNat ((wrap64 ((Qf) + 1)):Int).toNat) ++ mb),(wrap64 (Int.tdiv dc 10)),(by first|rfl|(simp;done)|(simp only [← Fs] <;> (first|rfl|simp))|(simp [*];done)),(by first|rfl|(simp;done)|(simp [*];done)),H',⟨by have:=Lg.out;omega⟩,by repeat (first|exact ec.refl _|apply ec.step)⟩
         ·rw [if_neg c16] at H;exact absurd H (by simp)
        ·rw [if_neg c15] at H;exact absurd H (by simp)
       ·rw [if_neg c14] at H;exact absurd H (by simp)
      ·rw [if_neg c13] at H;exact absurd H (by simp)
def Va.f (a0:Int) (a1:Int) (a2:Int):Option (Bool):=if a0 ≥ a1 then (some (decide (a0 ≤ a2))) else (some false)
theorem Va.calls (a0:Int) (a1:Int) (a2:Int) (r:Bool) (w:World) (h:Va.f a0 a1 a2=some r) :
  Calls Tryd.prog 33 #[.int .i64 a0,.int .i64 a1,.int .i64 a2] w fun e w'=>e = .returned (.bool r)∧ec w w':=by
 have H:(if a0 ≥ a1 then (some (decide (a0 ≤ a2))) else (some false))=some r:=h;clear h
 by_cases c4:a0 ≥ a1
 ·rw [if_pos c4] at H;have Li:decide (a1 ≤ a0)=true:=decide_eq_true c4;clear c4;obtain rfl:=Option.some.inj H;go_enter Tryd.func33,Tryd.ntmps33;go_wp2;go_ret;exact ⟨by first|rfl|(simp;done)|(simp [*];done),by repeat (first|exact ec.refl _|apply ec.step)⟩
 ·rw [if_neg c4] at H;have Li:decide (a1 ≤ a0)=false:=decide_eq_false c4;clear c4;obtain rfl:=Option.some.inj H;go_enter Tryd.func33,Tryd.ntmps33;go_wp2;go_ret;exact ⟨by first|rfl|(simp;done)|(simp [*];done),by repeat (first|exact ec.refl _|apply ec.step)⟩
mutual
def Sa.j0:Nat→Bool→Bool→Bool→List Int→Int→Int→List (Pd)→Int→Int→Int→Int→Int→Option (Bool)
 | 0,_,_,_,_,_,_,_,_,_,_,_,_=>none
 | k + 1,x5,x6,x7,Lc,Oc,Nc,Ab,Yd,lf,Ef,He,Rd=>if Yd=0 then (if x5=true then (some x7) else (some false)) else (if Yd=1 then (Sa.j1 k x5 x6 x7 Yd (Yd == 1) Lc Oc Nc Ab Yd lf Ef He Rd) else (Sa.j1 k x5 x6 x7 Yd (Yd == 2) Lc Oc Nc Ab Yd lf Ef He Rd))
def Sa.j1:Nat→Bool→Bool→Bool→Int→Bool→List Int→Int→Int→List (Pd)→Int→Int→Int→Int→Int→Option (Bool)
 | 0,_,_,_,_,_,_,_,_,_,_,_,_,_,_=>none
 | k + 1,x5,x6,x7,qn,Fz,Lc,Oc,Nc,Ab,Yd,lf,Ef,He,Rd=>if Fz=true then (if x5=true then (if x7=true then ((Va.f Rd 0 (wrap64 (Nc - 1))).bind fun t105=>(some t105)) else (some false)) else (some false)) else (if qn=3 then (if x5=true then (if x6=true then ((Va.f He 0 15).bind fun t106=>(if t106=true then ((Va.f Rd 0 5).bind fun t107=>(some t107)) else (some false))) else (some false)) else (some false)) else (if qn=4 then (Sa.j2 k x5 x6 x7 qn (qn == 4) Lc Oc Nc Ab Yd lf Ef He Rd) else (Sa.j2 k x5 x6 x7 qn (qn == 5) Lc Oc Nc Ab Yd lf Ef He Rd)))
def Sa.j2:Nat→Bool→Bool→Bool→Int→Bool→List Int→Int→Int→List (Pd)→Int→Int→Int→Int→Int→Option (Bool)
 | 0,_,_,_,_,_,_,_,_,_,_,_,_,_,_=>none
 | k + 1,x5,x6,x7,qn,Ez,Lc,Oc,Nc,Ab,Yd,lf,Ef,He,Rd=>if Ez=true then (if x5=true then (if x6=true then (if He=0 then ((Va.f Rd 0 (wrap64 ((Lc.length:Int) - 1))).bind fun t108=>(some t108)) else (some false)) else (some false)) else (some false)) else (if qn=11 then (if x5=true then (if x6=true then (if He=0 then (some (Rd == 0)) else (some false)) else (some false)) else (some false)) else (if qn=6 then (Sa.j3 k x5 x7 qn (qn == 6) Lc Oc Nc Ab Yd lf Ef He Rd) else (if qn=7 then (Sa.j3 k x5 x7 qn (qn == 7) Lc Oc Nc Ab Yd lf Ef He Rd) else (Sa.j3 k x5 x7 qn (qn == 10) Lc Oc Nc Ab Yd lf Ef He Rd))))
def Sa.j3:Nat→Bool→Bool→Int→Bool→List Int→Int→Int→List (Pd)→Int→Int→Int→Int→Int→Option (Bool)
 | 0,_,_,_,_,_,_,_,_,_,_,_,_,_=>none
 | k + 1,x5,x7,qn,Dz,Lc,Oc,Nc,Ab,Yd,lf,Ef,He,Rd=>if Dz=true then (if x5=true then (if x7=true then (some (Rd == 0)) else (some false)) else (some false)) else (if qn=8 then (if lf=0 then (if x7=true then ((Va.f Rd 0 (wrap64 ((Ab.length:Int) - 1))).bind fun t109=>(some t109)) else (some false)) else (some false)) else (if qn=9 then (if x5=true then (if x7=true then ((Va.f Rd 0 (wrap64 ((Ab.length:Int) - 1))).bind fun t110=>(some t110)) else (some false)) else (some false)) else (some false)))
end
def Sa.f (k:Nat) (Qa:List Int) (Oa:Int) (Pa:Int) (Ba:List (Pd)) (Pb:Int) (oc:Int) (jc:Int) (Cc:Int) (Ac:Int):Option (Bool):=(Va.f oc 0 15).bind fun t103=>((Va.f jc 0 15).bind fun t104=>(if jc=0 then (Sa.j0 k t103 t104 (Cc == 0) Qa Oa Pa Ba Pb oc jc Cc Ac) else (Sa.j0 k t103 t104 false Qa Oa Pa Ba Pb oc jc Cc Ac)))
theorem Sa.calls (k:Nat) (yb:Option Addr) (xb:Nat) (Qa:List Int) (Oa:Int) (Pa:Int) (Db:Option Addr) (zb:Nat) (Ba:List (Pd)) (Pb:Int) (oc:Int) (jc:Int) (Cc:Int) (Ac:Int) (r:Bool) (w:World) (xe:Kd.C (Kd.int .i64) w yb Qa.length Qa) (je:Qa.length ≤ xb) (we:Kd.C Si w Db Ba.length Ba) (ie:Ba.length ≤ zb) (h:Sa.f k Qa Oa Pa Ba Pb oc jc Cc Ac=some r) :
  Calls Tryd.prog 34 #[.agg #[.slice yb Qa.length xb,.int .i64 Oa,.int .i64 Pa,.slice Db Ba.length zb],.agg #[.int .i64 Pb,.int .i64 oc,.int .i64 jc,.int .i64 Cc,.int .i64 Ac]] w fun e w'=>e = .returned (.bool r)∧Below w.heap.size w w':=by
 have ju:=Tryd.underlying37;have Mq:=Tryd.underlying53;have Xd:=oa.mk xe;have qe:=oa.mk je;clear xe je;have Vd:=oa.mk we;have Qe:=oa.mk ie;clear we ie;have HB:=oa.mk (Below.refl w.heap.size w);have H:((Va.f oc 0 15).bind fun t103=>((Va.f jc 0 15).bind fun t104=>(if jc=0 then (Sa.j0 k t103 t104 (Cc == 0) Qa Oa Pa Ba Pb oc jc Cc Ac) else (Sa.j0 k t103 t104 false Qa Oa Pa Ba Pb oc jc Cc Ac))))=some r:=h;clear h;replace H:=Option.bind_eq_some_iff.mp H;obtain ⟨t103,zu,H⟩:=H;replace H:((Va.f jc 0 15).bind fun t104=>(if jc=0 then (Sa.j0 k t103 t104 (Cc == 0) Qa Oa Pa Ba Pb oc jc Cc Ac) else (Sa.j0 k t103 t104 false Qa Oa Pa Ba Pb oc jc Cc Ac)))=some r:=H;have A3:=oa.mk zu;clear zu;replace H:=Option.bind_eq_some_iff.mp H;obtain ⟨t104,YK,H⟩:=H;replace H:(if jc=0 then (Sa.j0 k t103 t104 (Cc == 0) Qa Oa Pa Ba Pb oc jc Cc Ac) else (Sa.j0 k t103 t104 false Qa Oa Pa Ba Pb oc jc Cc Ac))=some r:=H;have A4:=oa.mk YK;clear YK;have NA:=oa.mk H;clear H;go_enter Tryd.func34,Tryd.ntmps34
 go_upto_region 3 with (first|((with_reducible refine Nb (N:=2) rfl ?_);(try (refine cm (by rfl) ?_;dsimp only));refine Jb ?hg (N:=2) ?hd (cs:=#[.slice yb Qa.length xb,.int .i64 Oa,.int .i64 Pa,.slice Db Ba.length zb]) (t:=37) ?hr ?_;(case hd=>rfl);(case hg=>rfl);(case hr=>first|(go_simp;done)|(go_simp;rfl));intro Fa hg w6 Rb hb;have Tb:=oa.mk (Ta (by repeat (first|(with_reducible first|exact HB.out|apply ia|apply aa|apply qa)|exact HB.out)) hb);have Xb:=oa.mk (Rb);have tc:=oa.mk ((by rw [hg];exact (Ka (by repeat (first|(with_reducible first|exact HB.out|apply ia|apply aa|apply qa)|exact HB.out))):w.heap.size ≤ Fa));have Ec:=oa.mk ((by rw [hg];exact (Ka (by repeat (first|(with_reducible first|exact HB.out|apply ia|apply aa|apply qa)|exact HB.out))):w.heap.size ≤ Fa));clear HB;have HB:=Tb;have ya:=Xb;have Re:=tc;have Ua:=Ec;clear Tb Xb tc Ec hb Rb hg)|((with_reducible refine Nb (N:=3) rfl ?_);(try (refine cm (by rfl) ?_;dsimp only));refine Jb ?hg (N:=3) ?hd (cs:=#[.int .i64 Pb,.int .i64 oc,.int .i64 jc,.int .i64 Cc,.int .i64 Ac]) (t:=53) ?hr ?_;(case hd=>rfl);(case hg=>rfl);(case hr=>first|(go_simp;done)|(go_simp;rfl));intro La hg w7 Rb hb;have Tb:=oa.mk (jb (g:=Fa) (o:=.cells #[.slice yb Qa.length xb,.int .i64 Oa,.int .i64 Pa,.slice Db Ba.length zb] 37 (0,0)) (by (with_reducible repeat (first|refine Ca ?_ _|refine Ea ?_|refine Da ?_ _));exact ya.out) hb);have Xb:=oa.mk (Ta (by repeat (first|(with_reducible first|exact HB.out|apply ia|apply aa|apply qa|refine ua ?_ Ua.out)|exact HB.out)) hb);have tc:=oa.mk (Rb);have Ec:=oa.mk ((by rw [hg];exact (Ka (by repeat (first|(with_reducible first|exact HB.out|apply ia|apply aa|apply qa|refine ua ?_ Ua.out)|exact HB.out))):w.heap.size ≤ La));have fe:=oa.mk ((by rw [hg];exact (Ka (by repeat (first|(with_reducible first|exact HB.out|apply ia|apply aa|apply qa|refine ua ?_ Ua.out)|exact HB.out))):w.heap.size ≤ La));have Ae:=oa.mk ((by rw [hg];exact Nat.ne_of_lt (Dc (g:=Fa) (o:=.cells #[.slice yb Qa.length xb,.int .i64 Oa,.int .i64 Pa,.slice Db Ba.length zb] 37 (0,0)) (by (with_reducible repeat (first|refine Ca ?_ _|refine Ea ?_|refine Da ?_ _));exact ya.out)):Fa ≠ La));have Me:=oa.mk ((by rw [hg];exact Nat.ne_of_gt (Dc (g:=Fa) (o:=.cells #[.slice yb Qa.length xb,.int .i64 Oa,.int .i64 Pa,.slice Db Ba.length zb] 37 (0,0)) (by (with_reducible repeat (first|refine Ca ?_ _|refine Ea ?_|refine Da ?_ _));exact ya.out)):La ≠ Fa));clear ya HB;have ya:=Tb;have HB:=Xb;have Ga:=tc;have Xg:=Ec;have Ub:=fe;have Cb:=Ae;have Bb:=Me;clear Tb Xb tc Ec fe Ae Me hb Rb hg;have uB:=Bb.out;have oB:=Cb.out;have uh:w7.cell? ⟨La,0,none⟩=some (.int .i64 Pb):=(ja Ga.out 0).trans rfl;have qh:w7.cell? ⟨La,1,none⟩=some (.int .i64 oc):=(ja Ga.out 1).trans rfl;have oh:w7.cell? ⟨La,2,none⟩=some (.int .i64 jc):=(ja Ga.out 2).trans rfl;have nh:w7.cell? ⟨La,3,none⟩=some (.int .i64 Cc):=(ja Ga.out 3).trans rfl;have Wl:w7.cell? ⟨La,4,none⟩=some (.int .i64 Ac):=(ja Ga.out 4).trans rfl;have dh:=ga Ga.out 0;have bh:=ga Ga.out 1;have ah:=ga Ga.out 2;have Zg:=ga Ga.out 3;have Vl:=ga Ga.out 4)|((with_reducible refine Lb (f:=33) rfl ?_);refine Xc (some 10) rfl rfl Tryd.func33 (by kernel_rfl) rfl #[.int .i64 oc,.int .i64 0,.int .i64 15] rfl (by (try simp only [List.map_toArray,List.map_cons,List.map_nil]);first|done|rfl|(simp only [List.length_drop,List.length_take];rfl)) ?_;(with_reducible refine (Va.calls oc 0 15 t103 _ A3.out).mono ?_);rintro e w' ⟨rfl,⟨nd,rfl⟩⟩;refine ⟨_,rfl,?_⟩)|((with_reducible refine Lb (f:=33) rfl ?_);refine Xc (some 13) rfl rfl Tryd.func33 (by kernel_rfl) rfl #[.int .i64 jc,.int .i64 0,.int .i64 15] rfl (by (try simp only [List.map_toArray,List.map_cons,List.map_nil]);first|done|rfl|(simp only [List.length_drop,List.length_take];rfl)) ?_;(with_reducible refine (Va.calls jc 0 15 t104 _ A4.out).mono ?_);rintro e w' ⟨rfl,⟨nd,rfl⟩⟩;refine ⟨_,rfl,?_⟩))
 (try simp only [Act.put,List.setIfInBounds_toArray,List.set_cons_zero,List.set_cons_succ])
 go_cut [7] (fun v7 wc=>∃ (kq:Nat) (xg:Bool),v7 = .bool xg∧oa (Sa.j0 kq t103 t104 xg Qa Oa Pa Ba Pb oc jc Cc Ac=some r)∧oa (kq ≤ k)∧oa (wc.heap[Fa]? = some (.cells #[(.slice yb Qa.length xb),.int .i64 Oa,.int .i64 Pa,(.slice Db Ba.length zb)] 37 (0,0)))∧oa (wc.heap[La]? = some (.cells #[.int .i64 Pb,.int .i64 oc,.int .i64 jc,.int .i64 Cc,.int .i64 Ac] 53 (0,0)))∧oa (Below w.heap.size w wc))
 case first =>
  have H:=NA.out;clear NA
  by_cases c10:jc=0
  ·rw [if_pos c10] at H;have Qg:(jc == 0)=true:=beq_iff_eq.mpr c10;have Xm:(jc != 0)=false:=bne_eq_false_iff_eq.mpr c10;clear c10;(first|rw [Qg]|(simp only [Kb,Mb];rw [Qg])|skip);have H':=oa.mk H;clear H;have yB:=Bb.out;have tB:=Cb.out;have zh:w7.cell? ⟨La,0,none⟩=some (.int .i64 Pb):=(ja Ga.out 0).trans rfl;have yh:w7.cell? ⟨La,1,none⟩=some (.int .i64 oc):=(ja Ga.out 1).trans rfl;have xh:w7.cell? ⟨La,2,none⟩=some (.int .i64 jc):=(ja Ga.out 2).trans rfl;have wh:w7.cell? ⟨La,3,none⟩=some (.int .i64 Cc):=(ja Ga.out 3).trans rfl;have sk:w7.cell? ⟨La,4,none⟩=some (.int .i64 Ac):=(ja Ga.out 4).trans rfl;have mh:=ga Ga.out 0;have jh:=ga Ga.out 1;have gh:=ga Ga.out 2;have fh:=ga Ga.out 3;have Yj:=ga Ga.out 4;go_wp2
   go_meet
   case rel=>exact ⟨_,((Cc == 0)),(by first|rfl|(simp;done)|(simp [*];done)),H',⟨by first|omega|exact Nat.le_refl _⟩,⟨by (with_reducible repeat (first|refine Ca ?_ _|refine Ea ?_|refine Da ?_ _));exact ya.out⟩,⟨by (with_reducible repeat (first|refine Ca ?_ _|refine Ea ?_|refine Da ?_ _));exact Ga.out⟩,⟨by repeat (first|(with_reducible first|exact HB.out|apply ia|apply aa|apply qa|refine ua ?_ Ua.out|refine ua ?_ Ub.out)|exact HB.out)⟩⟩
  ·rw [if_neg c10] at H;have Qg:(jc == 0)=false:=beq_eq_false_iff_ne.mpr c10;have Xm:(jc != 0)=true:=bne_iff_ne.mpr c10;(first|rw [Qg]|(simp only [Kb,Mb];rw [Qg])|skip);have H':=oa.mk H;clear H;have zJ:=Bb.out;have bJ:=Cb.out;have qk:w7.cell? ⟨La,0,none⟩=some (.int .i64 Pb):=(ja Ga.out 0).trans rfl;have nk:w7.cell? ⟨La,1,none⟩=some (.int .i64 oc):=(ja Ga.out 1).trans rfl;have jk:w7.cell? ⟨La,2,none⟩=some (.int .i64 jc):=(ja Ga.out 2).trans rfl;have fk:w7.cell? ⟨La,3,none⟩=some (.int .i64 Cc):=(ja Ga.out 3).trans rfl;have Gl:w7.cell? ⟨La,4,none⟩=some (.int .i64 Ac):=(ja Ga.out 4).trans rfl;have Xj:=ga Ga.out 0;have Wj:=ga Ga.out 1;have Vj:=ga Ga.out 2;have Uj:=ga Ga.out 3;have Bl:=ga Ga.out 4;go_wp2
   go_meet
   case rel=>exact ⟨_,(false),(by first|rfl|(simp;done)|(simp [*];done)),H',⟨by first|omega|exact Nat.le_refl _⟩,⟨by (with_reducible repeat (first|refine Ca ?_ _|refine Ea ?_|refine Da ?_ _));exact ya.out⟩,⟨by (with_reducible repeat (first|refine Ca ?_ _|refine Ea ?_|refine Da ?_ _));exact Ga.out⟩,⟨by repeat (first|(with_reducible first|exact HB.out|apply ia|apply aa|apply qa|refine ua ?_ Ua.out|refine ua ?_ Ub.out)|exact HB.out)⟩⟩
 case rest =>
  clear NA
  try clear c1
  try clear p2
  try clear c3
  try clear c8
  try clear c10
  try clear Qg
  try clear Xm
  try clear c11
  try clear c13
  try clear zh
  try clear yh
  try clear xh
  try clear wh
  try clear sk
  try clear qk
  try clear nk
  try clear jk
  try clear fk
  try clear Gl
  try clear uh
  try clear qh
  try clear oh
  try clear nh
  try clear Wl
  try clear mh
  try clear jh
  try clear gh
  try clear fh
  try clear Yj
  try clear Xj
  try clear Wj
  try clear Vj
  try clear Uj
  try clear Bl
  try clear dh
  try clear bh
  try clear ah
  try clear Zg
  try clear Vl
  obtain ⟨kq,xg,rfl,HA,Pv,ya,Ga,HB⟩:=hcut;cases kq with
  | zero=>exact absurd HA.out (by simp [Sa.j0])
  | succ sj =>
   have H:=HA.out;clear HA;simp only [Sa.j0] at H
   by_cases c15:Pb=0
   ·rw [if_pos c15] at H;have Uk:(Pb == 0)=true:=beq_iff_eq.mpr c15;have Wm:(Pb != 0)=false:=bne_eq_false_iff_eq.mpr c15;clear c15
    by_cases c16:t103=true
    ·subst c16;have H1:(some xg)=some r:=by rw [if_pos rfl] at H;exact H
     clear H;have H:=H1;clear H1;obtain rfl:=Option.some.inj H;have xB:=Bb.out;have sB:=Cb.out;have tg:wc.cell? ⟨La,0,none⟩=some (.int .i64 Pb):=(ja Ga.out 0).trans rfl;have sg:wc.cell? ⟨La,1,none⟩=some (.int .i64 oc):=(ja Ga.out 1).trans rfl;have qg:wc.cell? ⟨La,2,none⟩=some (.int .i64 jc):=(ja Ga.out 2).trans rfl;have pg:wc.cell? ⟨La,3,none⟩=some (.int .i64 Cc):=(ja Ga.out 3).trans rfl;have Ro:wc.cell? ⟨La,4,none⟩=some (.int .i64 Ac):=(ja Ga.out 4).trans rfl;have ng:=ga Ga.out 0;have mg:=ga Ga.out 1;have lg:=ga Ga.out 2;have kg:=ga Ga.out 3;have mo:=ga Ga.out 4;go_wp2;go_ret;exact ⟨by first|rfl|(simp [Ja,Ia] <;> rfl)|(simp [*,Ja,Ia] <;> rfl),by repeat (first|(with_reducible first|exact HB.out|apply ia|apply aa|apply qa|refine ua ?_ Ua.out|refine ua ?_ Ub.out)|exact HB.out)⟩
    ·replace c16:=Bool.eq_false_iff.mpr c16;subst c16;have H1:(some false)=some r:=by rw [if_neg (show ¬ (false=true) by decide)] at H;exact H
     clear H;have H:=H1;clear H1;obtain rfl:=Option.some.inj H;have xJ:=Bb.out;have ZI:=Cb.out;have Di:wc.cell? ⟨La,0,none⟩=some (.int .i64 Pb):=(ja Ga.out 0).trans rfl;have Ci:wc.cell? ⟨La,1,none⟩=some (.int .i64 oc):=(ja Ga.out 1).trans rfl;have Bi:wc.cell? ⟨La,2,none⟩=some (.int .i64 jc):=(ja Ga.out 2).trans rfl;have Ai:wc.cell? ⟨La,3,none⟩=some (.int .i64 Cc):=(ja Ga.out 3).trans rfl;have Lo:wc.cell? ⟨La,4,none⟩=some (.int .i64 Ac):=(ja Ga.out 4).trans rfl;have ki:=ga Ga.out 0;have ji:=ga Ga.out 1;have ei:=ga Ga.out 2;have di:=ga Ga.out 3;have Zn:=ga Ga.out 4;go_wp2;go_ret;exact ⟨by first|rfl|(simp [Ja,Ia] <;> rfl)|(simp [*,Ja,Ia] <;> rfl),by repeat (first|(with_reducible first|exact HB.out|apply ia|apply aa|apply qa|refine ua ?_ Ua.out|refine ua ?_ Ub.out)|exact HB.out)⟩
   ·rw [if_neg c15] at H;have Uk:(Pb == 0)=false:=beq_eq_false_iff_ne.mpr c15;have Wm:(Pb != 0)=true:=bne_iff_ne.mpr c15;have PA:=oa.mk H;clear H;have wJ:=Bb.out;have YI:=Cb.out;have Fl:wc.cell? ⟨La,0,none⟩=some (.int .i64 Pb):=(ja Ga.out 0).trans rfl;have El:wc.cell? ⟨La,1,none⟩=some (.int .i64 oc):=(ja Ga.out 1).trans rfl;have Dl:wc.cell? ⟨La,2,none⟩=some (.int .i64 jc):=(ja Ga.out 2).trans rfl;have Cl:wc.cell? ⟨La,3,none⟩=some (.int .i64 Cc):=(ja Ga.out 3).trans rfl;have Ko:wc.cell? ⟨La,4,none⟩=some (.int .i64 Ac):=(ja Ga.out 4).trans rfl;have Al:=ga Ga.out 0;have zl:=ga Ga.out 1;have yl:=ga Ga.out 2;have vl:=ga Ga.out 3;have Yn:=ga Ga.out 4
    go_upto_if 30 with (fail)
    go_cut [30] (fun v30 wc=>∃ (kq:Nat) (pn:Bool),v30 = .bool pn∧oa (Sa.j1 kq t103 t104 xg Pb pn Qa Oa Pa Ba Pb oc jc Cc Ac=some r)∧oa (kq ≤ sj)∧oa (wc.heap[Fa]? = some (.cells #[(.slice yb Qa.length xb),.int .i64 Oa,.int .i64 Pa,(.slice Db Ba.length zb)] 37 (0,0)))∧oa (wc.heap[La]? = some (.cells #[.int .i64 Pb,.int .i64 oc,.int .i64 jc,.int .i64 Cc,.int .i64 Ac] 53 (0,0)))∧oa (Below w.heap.size w wc))
    case first =>
     have H:=PA.out;clear PA
     by_cases Br:Pb=1
     ·rw [if_pos Br] at H;have xk:(Pb == 1)=true:=beq_iff_eq.mpr Br;have St:(Pb != 1)=false:=bne_eq_false_iff_eq.mpr Br;clear Br;(first|rw [xk]|(simp only [Kb,Mb];rw [xk])|skip);have H':=oa.mk H;clear H;go_wp2
      go_meet
      case rel=>exact ⟨_,((Pb == 1)),(by first|rfl|(simp;done)|(simp [*];done)),H',⟨by have:=Pv.out;first|omega|exact Nat.le_refl _⟩,⟨by (with_reducible repeat (first|refine Ca ?_ _|refine Ea ?_|refine Da ?_ _));exact ya.out⟩,⟨by (with_reducible repeat (first|refine Ca ?_ _|refine Ea ?_|refine Da ?_ _));exact Ga.out⟩,⟨by repeat (first|(with_reducible first|exact HB.out|apply ia|apply aa|apply qa|refine ua ?_ Ua.out|refine ua ?_ Ub.out)|exact HB.out)⟩⟩
     ·rw [if_neg Br] at H;have xk:(Pb == 1)=false:=beq_eq_false_iff_ne.mpr Br;have St:(Pb != 1)=true:=bne_iff_ne.mpr Br;(first|rw [xk]|(simp only [Kb,Mb];rw [xk])|skip);have H':=oa.mk H;clear H;go_wp2
      go_meet
      case rel=>exact ⟨_,((Pb == 2)),(by first|rfl|(simp;done)|(simp [*];done)),H',⟨by have:=Pv.out;first|omega|exact Nat.le_refl _⟩,⟨by (with_reducible repeat (first|refine Ca ?_ _|refine Ea ?_|refine Da ?_ _));exact ya.out⟩,⟨by (with_reducible repeat (first|refine Ca ?_ _|refine Ea ?_|refine Da ?_ _));exact Ga.out⟩,⟨by repeat (first|(with_reducible first|exact HB.out|apply ia|apply aa|apply qa|refine ua ?_ Ua.out|refine ua ?_ Ub.out)|exact HB.out)⟩⟩
    case rest =>
     clear PA
     try clear c1
     try clear c2
     try clear p2
     try clear c3
     try clear c8
     try clear c10
     try clear Qg
     try clear Xm
     try clear c11
     try clear c13
     try clear c15
     try clear Uk
     try clear Wm
     try clear c16
     try clear Dr
     try clear iy
     try clear Cr
     try clear Br
     try clear xk
     try clear St
     try clear zh
     try clear yh
     try clear xh
     try clear wh
     try clear sk
     try clear qk
     try clear nk
     try clear jk
     try clear fk
     try clear Gl
     try clear tg
     try clear sg
     try clear qg
     try clear pg
     try clear Ro
     try clear Di
     try clear Ci
     try clear Bi
     try clear Ai
     try clear Lo
     try clear Fl
     try clear El
     try clear Dl
     try clear Cl
     try clear Ko
     try clear uh
     try clear qh
     try clear oh
     try clear nh
     try clear Wl
     try clear mh
     try clear jh
     try clear gh
     try clear fh
     try clear Yj
     try clear Xj
     try clear Wj
     try clear Vj
     try clear Uj
     try clear Bl
     try clear ng
     try clear mg
     try clear lg
     try clear kg
     try clear mo
     try clear ki
     try clear ji
     try clear ei
     try clear di
     try clear Zn
     try clear Al
     try clear zl
     try clear yl
     try clear vl
     try clear Yn
     try clear dh
     try clear bh
     try clear ah
     try clear Zg
     try clear Vl
     try clear p2
     obtain ⟨kq,pn,rfl,HA,Lv,ya,Ga,HB⟩:=hcut;cases kq with
     | zero=>exact absurd HA.out (by simp [Sa.j1])
     | succ Tz =>
      have H:=HA.out;clear HA;simp only [Sa.j1] at H
      by_cases yp:pn=true
      ·subst yp;have H1:(if t103=true then (if xg=true then ((Va.f Ac 0 (wrap64 (Pa - 1))).bind fun t105=>(some t105)) else (some false)) else (some false))=some r:=by rw [if_pos rfl] at H;exact H
       clear H;have H:=H1;clear H1
       by_cases Rt:t103=true
       ·subst Rt;have H1:(if xg=true then ((Va.f Ac 0 (wrap64 (Pa - 1))).bind fun t105=>(some t105)) else (some false))=some r:=by rw [if_pos rfl] at H;exact H
        clear H;have H:=H1;clear H1
        by_cases vv:xg=true
        ·subst vv;have H1:((Va.f Ac 0 (wrap64 (Pa - 1))).bind fun t105=>(some t105))=some r:=by rw [if_pos rfl] at H;exact H
         clear H;have H:=H1;clear H1;replace H:=Option.bind_eq_some_iff.mp H;obtain ⟨t105,ZC,H⟩:=H;replace H:(some t105)=some r:=H;have lM:=oa.mk ZC;clear ZC;obtain rfl:=Option.some.inj H;have rJ:=Bb.out;have TI:=Cb.out;have Jo:wc.cell? ⟨La,0,none⟩=some (.int .i64 Pb):=(ja Ga.out 0).trans rfl;have Io:wc.cell? ⟨La,1,none⟩=some (.int .i64 oc):=(ja Ga.out 1).trans rfl;have Ho:wc.cell? ⟨La,2,none⟩=some (.int .i64 jc):=(ja Ga.out 2).trans rfl;have Fo:wc.cell? ⟨La,3,none⟩=some (.int .i64 Cc):=(ja Ga.out 3).trans rfl;have Ft:wc.cell? ⟨La,4,none⟩=some (.int .i64 Ac):=(ja Ga.out 4).trans rfl;have Xn:=ga Ga.out 0;have Wn:=ga Ga.out 1;have Vn:=ga Ga.out 2;have Un:=ga Ga.out 3;have Ts:=ga Ga.out 4;have Eo:wc.cell? ⟨Fa,0,none⟩=some (.slice yb Qa.length xb):=(ja ya.out 0).trans rfl;have Co:wc.cell? ⟨Fa,1,none⟩=some (.int .i64 Oa):=(ja ya.out 1).trans rfl;have Bo:wc.cell? ⟨Fa,2,none⟩=some (.int .i64 Pa):=(ja ya.out 2).trans rfl;have Ao:wc.cell? ⟨Fa,3,none⟩=some (.slice Db Ba.length zb):=(ja ya.out 3).trans rfl;have Tn:=ga ya.out 0;have Sn:=ga ya.out 1;have Rn:=ga ya.out 2;have Qn:=ga ya.out 3;go_wp2_with (first|(go_at_call 33;(with_reducible refine (Va.calls Ac 0 (wrap64 (Pa - 1)) t105 _ lM.out).mono ?_);rintro e w' ⟨rfl,⟨nd,rfl⟩⟩));go_ret;exact ⟨by first|rfl|(simp [Ja,Ia] <;> rfl)|(simp [*,Ja,Ia] <;> rfl),by repeat (first|(with_reducible first|exact HB.out|apply ia|apply aa|apply qa|refine ua ?_ Ua.out|refine ua ?_ Ub.out)|exact HB.out)⟩
        ·replace vv:=Bool.eq_false_iff.mpr vv;subst vv;have H1:(some false)=some r:=by rw [if_neg (show ¬ (false=true) by decide)] at H;exact H
         clear H;have H:=H1;clear H1;obtain rfl:=Option.some.inj H;go_wp2;go_ret;exact ⟨by first|rfl|(simp [Ja,Ia] <;> rfl)|(simp [*,Ja,Ia] <;> rfl),by repeat (first|(with_reducible first|exact HB.out|apply ia|apply aa|apply qa|refine ua ?_ Ua.out|refine ua ?_ Ub.out)|exact HB.out)⟩
       ·replace Rt:=Bool.eq_false_iff.mpr Rt;subst Rt;have H1:(some false)=some r:=by rw [if_neg (show ¬ (false=true) by decide)] at H;exact H
        clear H;have H:=H1;clear H1;obtain rfl:=Option.some.inj H;go_wp2;go_ret;exact ⟨by first|rfl|(simp [Ja,Ia] <;> rfl)|(simp [*,Ja,Ia] <;> rfl),by repeat (first|(with_reducible first|exact HB.out|apply ia|apply aa|apply qa|refine ua ?_ Ua.out|refine ua ?_ Ub.out)|exact HB.out)⟩
      ·replace yp:=Bool.eq_false_iff.mpr yp;subst yp;have H1:(if Pb=3 then (if t103=true then (if t104=true then ((Va.f Cc 0 15).bind fun t106=>(if t106=true then ((Va.f Ac 0 5).bind fun t107=>(some t107)) else (some false))) else (some false)) else (some false)) else (if Pb=4 then (Sa.j2 Tz t103 t104 xg Pb (Pb == 4) Qa Oa Pa Ba Pb oc jc Cc Ac) else (Sa.j2 Tz t103 t104 xg Pb (Pb == 5) Qa Oa Pa Ba Pb oc jc Cc Ac)))=some r:=by rw [if_neg (show ¬ (false=true) by decide)] at H;exact H
       clear H;have H:=H1;clear H1
       by_cases Gm:Pb=3
       ·rw [if_pos Gm] at H;have gq:(Pb == 3)=true:=beq_iff_eq.mpr Gm;have Qt:(Pb != 3)=false:=bne_eq_false_iff_eq.mpr Gm;clear Gm
        by_cases tv:t103=true
        ·subst tv;have H1:(if t104=true then ((Va.f Cc 0 15).bind fun t106=>(if t106=true then ((Va.f Ac 0 5).bind fun t107=>(some t107)) else (some false))) else (some false))=some r:=by rw [if_pos rfl] at H;exact H
         clear H;have H:=H1;clear H1
         by_cases fq:t104=true
         ·subst fq;have H1:((Va.f Cc 0 15).bind fun t106=>(if t106=true then ((Va.f Ac 0 5).bind fun t107=>(some t107)) else (some false)))=some r:=by rw [if_pos rfl] at H;exact H
          clear H;have H:=H1;clear H1;replace H:=Option.bind_eq_some_iff.mp H;obtain ⟨t106,WC,H⟩:=H;replace H:(if t106=true then ((Va.f Ac 0 5).bind fun t107=>(some t107)) else (some false))=some r:=H;have ZK:=oa.mk WC;clear WC
          by_cases TA:t106=true
          ·subst TA;have H1:((Va.f Ac 0 5).bind fun t107=>(some t107))=some r:=by rw [if_pos rfl] at H;exact H
           clear H;have H:=H1;clear H1;replace H:=Option.bind_eq_some_iff.mp H;obtain ⟨t107,VC,H⟩:=H;replace H:(some t107)=some r:=H;have jM:=oa.mk VC;clear VC;obtain rfl:=Option.some.inj H;have oJ:=Bb.out;have QI:=Cb.out;have zo:wc.cell? ⟨La,0,none⟩=some (.int .i64 Pb):=(ja Ga.out 0).trans rfl;have yo:wc.cell? ⟨La,1,none⟩=some (.int .i64 oc):=(ja Ga.out 1).trans rfl;have xo:wc.cell? ⟨La,2,none⟩=some (.int .i64 jc):=(ja Ga.out 2).trans rfl;have wo:wc.cell? ⟨La,3,none⟩=some (.int .i64 Cc):=(ja Ga.out 3).trans rfl;have yt:wc.cell? ⟨La,4,none⟩=some (.int .i64 Ac):=(ja Ga.out 4).trans rfl;have Pn:=ga Ga.out 0;have Nn:=ga Ga.out 1;have Mn:=ga Ga.out 2;have Ln:=ga Ga.out 3;have Ms:=ga Ga.out 4;go_wp2_with (first|(go_at_call 33;(with_reducible refine (Va.calls Cc 0 15 true _ ZK.out).mono ?_);rintro e w' ⟨rfl,⟨nd,rfl⟩⟩)|(go_at_call 33;(with_reducible refine (Va.calls Ac 0 5 t107 _ jM.out).mono ?_);rintro e w' ⟨rfl,⟨nd,rfl⟩⟩));go_ret;exact ⟨by first|rfl|(simp [Ja,Ia] <;> rfl)|(simp [*,Ja,Ia] <;> rfl),by repeat (first|(with_reducible first|exact HB.out|apply ia|apply aa|apply qa|refine ua ?_ Ua.out|refine ua ?_ Ub.out)|exact HB.out)⟩
          ·replace TA:=Bool.eq_false_iff.mpr TA;subst TA;have H1:(some false)=some r:=by rw [if_neg (show ¬ (false=true) by decide)] at H;exact H
           clear H;have H:=H1;clear H1;obtain rfl:=Option.some.inj H;have nJ:=Bb.out;have PI:=Cb.out;have vt:wc.cell? ⟨La,0,none⟩=some (.int .i64 Pb):=(ja Ga.out 0).trans rfl;have qt:wc.cell? ⟨La,1,none⟩=some (.int .i64 oc):=(ja Ga.out 1).trans rfl;have ot:wc.cell? ⟨La,2,none⟩=some (.int .i64 jc):=(ja Ga.out 2).trans rfl;have nt:wc.cell? ⟨La,3,none⟩=some (.int .i64 Cc):=(ja Ga.out 3).trans rfl;have jt:wc.cell? ⟨La,4,none⟩=some (.int .i64 Ac):=(ja Ga.out 4).trans rfl;have Ls:=ga Ga.out 0;have Ks:=ga Ga.out 1;have Js:=ga Ga.out 2;have Hs:=ga Ga.out 3;have Gs:=ga Ga.out 4;go_wp2_with (first|(go_at_call 33;(with_reducible refine (Va.calls Cc 0 15 false _ ZK.out).mono ?_);rintro e w' ⟨rfl,⟨nd,rfl⟩⟩));go_ret;exact ⟨by first|rfl|(simp [Ja,Ia] <;> rfl)|(simp [*,Ja,Ia] <;> rfl),by repeat (first|(with_reducible first|exact HB.out|apply ia|apply aa|apply qa|refine ua ?_ Ua.out|refine ua ?_ Ub.out)|exact HB.out)⟩
         ·replace fq:=Bool.eq_false_iff.mpr fq;subst fq;have H1:(some false)=some r:=by rw [if_neg (show ¬ (false=true) by decide)] at H;exact H
          clear H;have H:=H1;clear H1;obtain rfl:=Option.some.inj H;go_wp2;go_ret;exact ⟨by first|rfl|(simp [Ja,Ia] <;> rfl)|(simp [*,Ja,Ia] <;> rfl),by repeat (first|(with_reducible first|exact HB.out|apply ia|apply aa|apply qa|refine ua ?_ Ua.out|refine ua ?_ Ub.out)|exact HB.out)⟩
        ·replace tv:=Bool.eq_false_iff.mpr tv;subst tv;have H1:(some false)=some r:=by rw [if_neg (show ¬ (false=true) by decide)] at H;exact H
         clear H;have H:=H1;clear H1;obtain rfl:=Option.some.inj H;go_wp2;go_ret;exact ⟨by first|rfl|(simp [Ja,Ia] <;> rfl)|(simp [*,Ja,Ia] <;> rfl),by repeat (first|(with_reducible first|exact HB.out|apply ia|apply aa|apply qa|refine ua ?_ Ua.out|refine ua ?_ Ub.out)|exact HB.out)⟩
       ·rw [if_neg Gm] at H;have gq:(Pb == 3)=false:=beq_eq_false_iff_ne.mpr Gm;have Qt:(Pb != 3)=true:=bne_iff_ne.mpr Gm;have OA:=oa.mk H;clear H
        go_upto_if 61 with (fail)
        go_cut [61] (fun iL wc=>∃ (kq:Nat) (kn:Bool),iL = .bool kn∧oa (Sa.j2 kq t103 t104 xg Pb kn Qa Oa Pa Ba Pb oc jc Cc Ac=some r)∧oa (kq ≤ Tz)∧oa (wc.heap[Fa]? = some (.cells #[(.slice yb Qa.length xb),.int .i64 Oa,.int .i64 Pa,(.slice Db Ba.length zb)] 37 (0,0)))∧oa (wc.heap[La]? = some (.cells #[.int .i64 Pb,.int .i64 oc,.int .i64 jc,.int .i64 Cc,.int .i64 Ac] 53 (0,0)))∧oa (Below w.heap.size w wc))
        case first =>
         have H:=OA.out;clear OA
         by_cases gy:Pb=4
         ·rw [if_pos gy] at H;have om:(Pb == 4)=true:=beq_iff_eq.mpr gy;have ov:(Pb != 4)=false:=bne_eq_false_iff_eq.mpr gy;clear gy;(first|rw [om]|(simp only [Kb,Mb];rw [om])|skip);have H':=oa.mk H;clear H;go_wp2
          go_meet
          case rel=>exact ⟨_,((Pb == 4)),(by first|rfl|(simp;done)|(simp [*];done)),H',⟨by have:=Pv.out;have:=Lv.out;first|omega|exact Nat.le_refl _⟩,⟨by (with_reducible repeat (first|refine Ca ?_ _|refine Ea ?_|refine Da ?_ _));exact ya.out⟩,⟨by (with_reducible repeat (first|refine Ca ?_ _|refine Ea ?_|refine Da ?_ _));exact Ga.out⟩,⟨by repeat (first|(with_reducible first|exact HB.out|apply ia|apply aa|apply qa|refine ua ?_ Ua.out|refine ua ?_ Ub.out)|exact HB.out)⟩⟩
         ·rw [if_neg gy] at H;have om:(Pb == 4)=false:=beq_eq_false_iff_ne.mpr gy;have ov:(Pb != 4)=true:=bne_iff_ne.mpr gy;(first|rw [om]|(simp only [Kb,Mb];rw [om])|skip);have H':=oa.mk H;clear H;go_wp2
          go_meet
          case rel=>exact ⟨_,((Pb == 5)),(by first|rfl|(simp;done)|(simp [*];done)),H',⟨by have:=Pv.out;have:=Lv.out;first|omega|exact Nat.le_refl _⟩,⟨by (with_reducible repeat (first|refine Ca ?_ _|refine Ea ?_|refine Da ?_ _));exact ya.out⟩,⟨by (with_reducible repeat (first|refine Ca ?_ _|refine Ea ?_|refine Da ?_ _));exact Ga.out⟩,⟨by repeat (first|(with_reducible first|exact HB.out|apply ia|apply aa|apply qa|refine ua ?_ Ua.out|refine ua ?_ Ub.out)|exact HB.out)⟩⟩
        case rest =>
         clear OA
         try clear c1
         try clear c2
         try clear p2
         try clear c3
         try clear c4
         try clear p6
         try clear c8
         try clear c10
         try clear Qg
         try clear Xm
         try clear c11
         try clear c13
         try clear c15
         try clear Uk
         try clear Wm
         try clear c16
         try clear Dr
         try clear iy
         try clear Cr
         try clear Br
         try clear xk
         try clear St
         try clear yp
         try clear Rt
         try clear vv
         try clear gz
         try clear Gm
         try clear gq
         try clear Qt
         try clear tv
         try clear fq
         try clear TA
         try clear UL
         try clear TL
         try clear gy
         try clear om
         try clear ov
         try clear zh
         try clear yh
         try clear xh
         try clear wh
         try clear sk
         try clear qk
         try clear nk
         try clear jk
         try clear fk
         try clear Gl
         try clear tg
         try clear sg
         try clear qg
         try clear pg
         try clear Ro
         try clear Di
         try clear Ci
         try clear Bi
         try clear Ai
         try clear Lo
         try clear Fl
         try clear El
         try clear Dl
         try clear Cl
         try clear Ko
         try clear Jo
         try clear Io
         try clear Ho
         try clear Fo
         try clear Ft
         try clear Eo
         try clear Co
         try clear Bo
         try clear Ao
         try clear zo
         try clear yo
         try clear xo
         try clear wo
         try clear yt
         try clear vt
         try clear qt
         try clear ot
         try clear nt
         try clear jt
         try clear uh
         try clear qh
         try clear oh
         try clear nh
         try clear Wl
         try clear mh
         try clear jh
         try clear gh
         try clear fh
         try clear Yj
         try clear Xj
         try clear Wj
         try clear Vj
         try clear Uj
         try clear Bl
         try clear ng
         try clear mg
         try clear lg
         try clear kg
         try clear mo
         try clear ki
         try clear ji
         try clear ei
         try clear di
         try clear Zn
         try clear Al
         try clear zl
         try clear yl
         try clear vl
         try clear Yn
         try clear Xn
         try clear Wn
         try clear Vn
         try clear Un
         try clear Ts
         try clear Tn
         try clear Sn
         try clear Rn
         try clear Qn
         try clear Pn
         try clear Nn
         try clear Mn
         try clear Ln
         try clear Ms
         try clear Ls
         try clear Ks
         try clear Js
         try clear Hs
         try clear Gs
         try clear dh
         try clear bh
         try clear ah
         try clear Zg
         try clear Vl
         try clear p2
         obtain ⟨kq,kn,rfl,HA,LA,ya,Ga,HB⟩:=hcut;cases kq with
         | zero=>exact absurd HA.out (by simp [Sa.j2])
         | succ Zv =>
          have H:=HA.out;clear HA;simp only [Sa.j2] at H
          by_cases gC:kn=true
          ·subst gC;have H1:(if t103=true then (if t104=true then (if Cc=0 then ((Va.f Ac 0 (wrap64 ((Qa.length:Int) - 1))).bind fun t108=>(some t108)) else (some false)) else (some false)) else (some false))=some r:=by rw [if_pos rfl] at H;exact H
           clear H;have H:=H1;clear H1
           by_cases fC:t103=true
           ·subst fC;have H1:(if t104=true then (if Cc=0 then ((Va.f Ac 0 (wrap64 ((Qa.length:Int) - 1))).bind fun t108=>(some t108)) else (some false)) else (some false))=some r:=by rw [if_pos rfl] at H;exact H
            clear H;have H:=H1;clear H1
            by_cases eC:t104=true
            ·subst eC;have H1:(if Cc=0 then ((Va.f Ac 0 (wrap64 ((Qa.length:Int) - 1))).bind fun t108=>(some t108)) else (some false))=some r:=by rw [if_pos rfl] at H;exact H
             clear H;have H:=H1;clear H1
             by_cases cz:Cc=0
             ·rw [if_pos cz] at H;have bz:(Cc == 0)=true:=beq_iff_eq.mpr cz;have az:(Cc != 0)=false:=bne_eq_false_iff_eq.mpr cz;clear cz;replace H:=Option.bind_eq_some_iff.mp H;obtain ⟨t108,UC,H⟩:=H;replace H:(some t108)=some r:=H;have iM:=oa.mk UC;clear UC;obtain rfl:=Option.some.inj H;have mJ:=Bb.out;have OI:=Cb.out;have Kx:wc.cell? ⟨La,0,none⟩=some (.int .i64 Pb):=(ja Ga.out 0).trans rfl;have Jx:wc.cell? ⟨La,1,none⟩=some (.int .i64 oc):=(ja Ga.out 1).trans rfl;have Ix:wc.cell? ⟨La,2,none⟩=some (.int .i64 jc):=(ja Ga.out 2).trans rfl;have Hx:wc.cell? ⟨La,3,none⟩=some (.int .i64 Cc):=(ja Ga.out 3).trans rfl;have Gx:wc.cell? ⟨La,4,none⟩=some (.int .i64 Ac):=(ja Ga.out 4).trans rfl;have Iw:=ga Ga.out 0;have Hw:=ga Ga.out 1;have Gw:=ga Ga.out 2;have Fw:=ga Ga.out 3;have Ew:=ga Ga.out 4;have Fx:wc.cell? ⟨Fa,0,none⟩=some (.slice yb Qa.length xb):=(ja ya.out 0).trans rfl;have Ex:wc.cell? ⟨Fa,1,none⟩=some (.int .i64 Oa):=(ja ya.out 1).trans rfl;have Dx:wc.cell? ⟨Fa,2,none⟩=some (.int .i64 Pa):=(ja ya.out 2).trans rfl;have Cx:wc.cell? ⟨Fa,3,none⟩=some (.slice Db Ba.length zb):=(ja ya.out 3).trans rfl;have Dw:=ga ya.out 0;have Cw:=ga ya.out 1;have Bw:=ga ya.out 2;have Aw:=ga ya.out 3;go_wp2_with (first|(go_at_call 33;(with_reducible refine (Va.calls Ac 0 (wrap64 ((Qa.length:Int) - 1)) t108 _ iM.out).mono ?_);rintro e w' ⟨rfl,⟨nd,rfl⟩⟩));go_ret;exact ⟨by first|rfl|(simp [Ja,Ia] <;> rfl)|(simp [*,Ja,Ia] <;> rfl),by repeat (first|(with_reducible first|exact HB.out|apply ia|apply aa|apply qa|refine ua ?_ Ua.out|refine ua ?_ Ub.out)|exact HB.out)⟩
             ·rw [if_neg cz] at H;have bz:(Cc == 0)=false:=beq_eq_false_iff_ne.mpr cz;have az:(Cc != 0)=true:=bne_iff_ne.mpr cz;obtain rfl:=Option.some.inj H;have lJ:=Bb.out;have NI:=Cb.out;have Bx:wc.cell? ⟨La,0,none⟩=some (.int .i64 Pb):=(ja Ga.out 0).trans rfl;have Ax:wc.cell? ⟨La,1,none⟩=some (.int .i64 oc):=(ja Ga.out 1).trans rfl;have zx:wc.cell? ⟨La,2,none⟩=some (.int .i64 jc):=(ja Ga.out 2).trans rfl;have yx:wc.cell? ⟨La,3,none⟩=some (.int .i64 Cc):=(ja Ga.out 3).trans rfl;have xx:wc.cell? ⟨La,4,none⟩=some (.int .i64 Ac):=(ja Ga.out 4).trans rfl;have zw:=ga Ga.out 0;have yw:=ga Ga.out 1;have xw:=ga Ga.out 2;have vw:=ga Ga.out 3;have uw:=ga Ga.out 4;go_wp2;go_ret;exact ⟨by first|rfl|(simp [Ja,Ia] <;> rfl)|(simp [*,Ja,Ia] <;> rfl),by repeat (first|(with_reducible first|exact HB.out|apply ia|apply aa|apply qa|refine ua ?_ Ua.out|refine ua ?_ Ub.out)|exact HB.out)⟩
            ·replace eC:=Bool.eq_false_iff.mpr eC;subst eC;have H1:(some false)=some r:=by rw [if_neg (show ¬ (false=true) by decide)] at H;exact H
             clear H;have H:=H1;clear H1;obtain rfl:=Option.some.inj H;go_wp2;go_ret;exact ⟨by first|rfl|(simp [Ja,Ia] <;> rfl)|(simp [*,Ja,Ia] <;> rfl),by repeat (first|(with_reducible first|exact HB.out|apply ia|apply aa|apply qa|refine ua ?_ Ua.out|refine ua ?_ Ub.out)|exact HB.out)⟩
           ·replace fC:=Bool.eq_false_iff.mpr fC;subst fC;have H1:(some false)=some r:=by rw [if_neg (show ¬ (false=true) by decide)] at H;exact H
            clear H;have H:=H1;clear H1;obtain rfl:=Option.some.inj H;go_wp2;go_ret;exact ⟨by first|rfl|(simp [Ja,Ia] <;> rfl)|(simp [*,Ja,Ia] <;> rfl),by repeat (first|(with_reducible first|exact HB.out|apply ia|apply aa|apply qa|refine ua ?_ Ua.out|refine ua ?_ Ub.out)|exact HB.out)⟩
          ·replace gC:=Bool.eq_false_iff.mpr gC;subst gC;have H1:(if Pb=11 then (if t103=true then (if t104=true then (if Cc=0 then (some (Ac == 0)) else (some false)) else (some false)) else (some false)) else (if Pb=6 then (Sa.j3 Zv t103 xg Pb (Pb == 6) Qa Oa Pa Ba Pb oc jc Cc Ac) else (if Pb=7 then (Sa.j3 Zv t103 xg Pb (Pb == 7) Qa Oa Pa Ba Pb oc jc Cc Ac) else (Sa.j3 Zv t103 xg Pb (Pb == 10) Qa Oa Pa Ba Pb oc jc Cc Ac))))=some r:=by rw [if_neg (show ¬ (false=true) by decide)] at H;exact H
           clear H;have H:=H1;clear H1
           by_cases Zy:Pb=11
           ·rw [if_pos Zy] at H;have Yy:(Pb == 11)=true:=beq_iff_eq.mpr Zy;have Xy:(Pb != 11)=false:=bne_eq_false_iff_eq.mpr Zy;clear Zy
            by_cases cC:t103=true
            ·subst cC;have H1:(if t104=true then (if Cc=0 then (some (Ac == 0)) else (some false)) else (some false))=some r:=by rw [if_pos rfl] at H;exact H
             clear H;have H:=H1;clear H1
             by_cases bC:t104=true
             ·subst bC;have H1:(if Cc=0 then (some (Ac == 0)) else (some false))=some r:=by rw [if_pos rfl] at H;exact H
              clear H;have H:=H1;clear H1
              by_cases Wy:Cc=0
              ·rw [if_pos Wy] at H;have Vy:(Cc == 0)=true:=beq_iff_eq.mpr Wy;have Uy:(Cc != 0)=false:=bne_eq_false_iff_eq.mpr Wy;clear Wy;obtain rfl:=Option.some.inj H;have kJ:=Bb.out;have MI:=Cb.out;have ux:wc.cell? ⟨La,0,none⟩=some (.int .i64 Pb):=(ja Ga.out 0).trans rfl;have sx:wc.cell? ⟨La,1,none⟩=some (.int .i64 oc):=(ja Ga.out 1).trans rfl;have qx:wc.cell? ⟨La,2,none⟩=some (.int .i64 jc):=(ja Ga.out 2).trans rfl;have ox:wc.cell? ⟨La,3,none⟩=some (.int .i64 Cc):=(ja Ga.out 3).trans rfl;have nx:wc.cell? ⟨La,4,none⟩=some (.int .i64 Ac):=(ja Ga.out 4).trans rfl;have tw:=ga Ga.out 0;have sw:=ga Ga.out 1;have qw:=ga Ga.out 2;have ow:=ga Ga.out 3;have mw:=ga Ga.out 4;go_wp2;go_ret;exact ⟨by first|rfl|(simp [Ja,Ia] <;> rfl)|(simp [*,Ja,Ia] <;> rfl),by repeat (first|(with_reducible first|exact HB.out|apply ia|apply aa|apply qa|refine ua ?_ Ua.out|refine ua ?_ Ub.out)|exact HB.out)⟩
              ·rw [if_neg Wy] at H;have Vy:(Cc == 0)=false:=beq_eq_false_iff_ne.mpr Wy;have Uy:(Cc != 0)=true:=bne_iff_ne.mpr Wy;obtain rfl:=Option.some.inj H;have jJ:=Bb.out;have LI:=Cb.out;have jx:wc.cell? ⟨La,0,none⟩=some (.int .i64 Pb):=(ja Ga.out 0).trans rfl;have gx:wc.cell? ⟨La,1,none⟩=some (.int .i64 oc):=(ja Ga.out 1).trans rfl;have dx:wc.cell? ⟨La,2,none⟩=some (.int .i64 jc):=(ja Ga.out 2).trans rfl;have cx:wc.cell? ⟨La,3,none⟩=some (.int .i64 Cc):=(ja Ga.out 3).trans rfl;have bx:wc.cell? ⟨La,4,none⟩=some (.int .i64 Ac):=(ja Ga.out 4).trans rfl;have jw:=ga Ga.out 0;have iw:=ga Ga.out 1;have gw:=ga Ga.out 2;have ew:=ga Ga.out 3;have dw:=ga Ga.out 4;go_wp2;go_ret;exact ⟨by first|rfl|(simp [Ja,Ia] <;> rfl)|(simp [*,Ja,Ia] <;> rfl),by repeat (first|(with_reducible first|exact HB.out|apply ia|apply aa|apply qa|refine ua ?_ Ua.out|refine ua ?_ Ub.out)|exact HB.out)⟩
             ·replace bC:=Bool.eq_false_iff.mpr bC;subst bC;have H1:(some false)=some r:=by rw [if_neg (show ¬ (false=true) by decide)] at H;exact H
              clear H;have H:=H1;clear H1;obtain rfl:=Option.some.inj H;go_wp2;go_ret;exact ⟨by first|rfl|(simp [Ja,Ia] <;> rfl)|(simp [*,Ja,Ia] <;> rfl),by repeat (first|(with_reducible first|exact HB.out|apply ia|apply aa|apply qa|refine ua ?_ Ua.out|refine ua ?_ Ub.out)|exact HB.out)⟩
            ·replace cC:=Bool.eq_false_iff.mpr cC;subst cC;have H1:(some false)=some r:=by rw [if_neg (show ¬ (false=true) by decide)] at H;exact H
             clear H;have H:=H1;clear H1;obtain rfl:=Option.some.inj H;go_wp2;go_ret;exact ⟨by first|rfl|(simp [Ja,Ia] <;> rfl)|(simp [*,Ja,Ia] <;> rfl),by repeat (first|(with_reducible first|exact HB.out|apply ia|apply aa|apply qa|refine ua ?_ Ua.out|refine ua ?_ Ub.out)|exact HB.out)⟩
           ·rw [if_neg Zy] at H;have Yy:(Pb == 11)=false:=beq_eq_false_iff_ne.mpr Zy;have Xy:(Pb != 11)=true:=bne_iff_ne.mpr Zy;have MA:=oa.mk H;clear H
            go_upto_if 98 with (fail)
            go_cut [98] (fun gL wc=>∃ (kq:Nat) (jn:Bool),gL = .bool jn∧oa (Sa.j3 kq t103 xg Pb jn Qa Oa Pa Ba Pb oc jc Cc Ac=some r)∧oa (kq ≤ Zv)∧oa (wc.heap[Fa]? = some (.cells #[(.slice yb Qa.length xb),.int .i64 Oa,.int .i64 Pa,(.slice Db Ba.length zb)] 37 (0,0)))∧oa (wc.heap[La]? = some (.cells #[.int .i64 Pb,.int .i64 oc,.int .i64 jc,.int .i64 Cc,.int .i64 Ac] 53 (0,0)))∧oa (Below w.heap.size w wc))
            case first =>
             have H:=MA.out;clear MA
             by_cases Ty:Pb=6
             ·rw [if_pos Ty] at H;have Vm:(Pb == 6)=true:=beq_iff_eq.mpr Ty;have Sy:(Pb != 6)=false:=bne_eq_false_iff_eq.mpr Ty;clear Ty;(first|rw [Vm]|(simp only [Kb,Mb];rw [Vm])|skip);have H':=oa.mk H;clear H;go_wp2
              go_meet
              case rel=>exact ⟨_,((Pb == 6)),(by first|rfl|(simp;done)|(simp [*];done)),H',⟨by have:=Pv.out;have:=Lv.out;have:=LA.out;first|omega|exact Nat.le_refl _⟩,⟨by (with_reducible repeat (first|refine Ca ?_ _|refine Ea ?_|refine Da ?_ _));exact ya.out⟩,⟨by (with_reducible repeat (first|refine Ca ?_ _|refine Ea ?_|refine Da ?_ _));exact Ga.out⟩,⟨by repeat (first|(with_reducible first|exact HB.out|apply ia|apply aa|apply qa|refine ua ?_ Ua.out|refine ua ?_ Ub.out)|exact HB.out)⟩⟩
             ·rw [if_neg Ty] at H;have Vm:(Pb == 6)=false:=beq_eq_false_iff_ne.mpr Ty;have Sy:(Pb != 6)=true:=bne_iff_ne.mpr Ty;(first|rw [Vm]|(simp only [Kb,Mb];rw [Vm])|skip)
              by_cases Ry:Pb=7
              ·rw [if_pos Ry] at H;have Qy:(Pb == 7)=true:=beq_iff_eq.mpr Ry;have Py:(Pb != 7)=false:=bne_eq_false_iff_eq.mpr Ry;clear Ry;have H':=oa.mk H;clear H;go_wp2
               go_meet
               case rel=>exact ⟨_,((Pb == 7)),(by first|rfl|(simp;done)|(simp [*];done)),H',⟨by have:=Pv.out;have:=Lv.out;have:=LA.out;first|omega|exact Nat.le_refl _⟩,⟨by (with_reducible repeat (first|refine Ca ?_ _|refine Ea ?_|refine Da ?_ _));exact ya.out⟩,⟨by (with_reducible repeat (first|refine Ca ?_ _|refine Ea ?_|refine Da ?_ _));exact Ga.out⟩,⟨by repeat (first|(with_reducible first|exact HB.out|apply ia|apply aa|apply qa|refine ua ?_ Ua.out|refine ua ?_ Ub.out)|exact HB.out)⟩⟩
              ·rw [if_neg Ry] at H;have Qy:(Pb == 7)=false:=beq_eq_false_iff_ne.mpr Ry;have Py:(Pb != 7)=true:=bne_iff_ne.mpr Ry;have H':=oa.mk H;clear H;go_wp2
               go_meet
               case rel=>exact ⟨_,((Pb == 10)),(by first|rfl|(simp;done)|(simp [*];done)),H',⟨by have:=Pv.out;have:=Lv.out;have:=LA.out;first|omega|exact Nat.le_refl _⟩,⟨by (with_reducible repeat (first|refine Ca ?_ _|refine Ea ?_|refine Da ?_ _));exact ya.out⟩,⟨by (with_reducible repeat (first|refine Ca ?_ _|refine Ea ?_|refine Da ?_ _));exact Ga.out⟩,⟨by repeat (first|(with_reducible first|exact HB.out|apply ia|apply aa|apply qa|refine ua ?_ Ua.out|refine ua ?_ Ub.out)|exact HB.out)⟩⟩
            case rest =>
             clear MA
             try clear c1
             try clear c2
             try clear p2
             try clear c3
             try clear c4
             try clear c5
             try clear c6
             try clear p6
             try clear c8
             try clear c10
             try clear Qg
             try clear Xm
             try clear c11
             try clear c13
             try clear c15
             try clear Uk
             try clear Wm
             try clear c16
             try clear Dr
             try clear iy
             try clear Cr
             try clear Br
             try clear xk
             try clear St
             try clear yp
             try clear Rt
             try clear vv
             try clear gz
             try clear Gm
             try clear gq
             try clear Qt
             try clear tv
             try clear fq
             try clear TA
             try clear UL
             try clear TL
             try clear gy
             try clear om
             try clear ov
             try clear gC
             try clear fC
             try clear eC
             try clear cz
             try clear bz
             try clear az
             try clear PM
             try clear OM
             try clear Zy
             try clear Yy
             try clear Xy
             try clear cC
             try clear bC
             try clear Wy
             try clear Vy
             try clear Uy
             try clear NM
             try clear MM
             try clear Ty
             try clear Vm
             try clear Sy
             try clear Ry
             try clear Qy
             try clear Py
             try clear EM
             try clear zh
             try clear yh
             try clear xh
             try clear wh
             try clear sk
             try clear qk
             try clear nk
             try clear jk
             try clear fk
             try clear Gl
             try clear tg
             try clear sg
             try clear qg
             try clear pg
             try clear Ro
             try clear Di
             try clear Ci
             try clear Bi
             try clear Ai
             try clear Lo
             try clear Fl
             try clear El
             try clear Dl
             try clear Cl
             try clear Ko
             try clear Jo
             try clear Io
             try clear Ho
             try clear Fo
             try clear Ft
             try clear Eo
             try clear Co
             try clear Bo
             try clear Ao
             try clear zo
             try clear yo
             try clear xo
             try clear wo
             try clear yt
             try clear vt
             try clear qt
             try clear ot
             try clear nt
             try clear jt
             try clear Kx
             try clear Jx
             try clear Ix
             try clear Hx
             try clear Gx
             try clear Fx
             try clear Ex
             try clear Dx
             try clear Cx
             try clear Bx
             try clear Ax
             try clear zx
             try clear yx
             try clear xx
             try clear ux
             try clear sx
             try clear qx
             try clear ox
             try clear nx
             try clear jx
             try clear gx
             try clear dx
             try clear cx
             try clear bx
             try clear uh
             try clear qh
             try clear oh
             try clear nh
             try clear Wl
             try clear mh
             try clear jh
             try clear gh
             try clear fh
             try clear Yj
             try clear Xj
             try clear Wj
             try clear Vj
             try clear Uj
             try clear Bl
             try clear ng
             try clear mg
             try clear lg
             try clear kg
             try clear mo
             try clear ki
             try clear ji
             try clear ei
             try clear di
             try clear Zn
             try clear Al
             try clear zl
             try clear yl
             try clear vl
             try clear Yn
             try clear Xn
             try clear Wn
             try clear Vn
             try clear Un
             try clear Ts
             try clear Tn
             try clear Sn
             try clear Rn
             try clear Qn
             try clear Pn
             try clear Nn
             try clear Mn
             try clear Ln
             try clear Ms
             try clear Ls
             try clear Ks
             try clear Js
             try clear Hs
             try clear Gs
             try clear Iw
             try clear Hw
             try clear Gw
             try clear Fw
             try clear Ew
             try clear Dw
             try clear Cw
             try clear Bw
             try clear Aw
             try clear zw
             try clear yw
             try clear xw
             try clear vw
             try clear uw
             try clear tw
             try clear sw
             try clear qw
             try clear ow
             try clear mw
             try clear jw
             try clear iw
             try clear gw
             try clear ew
             try clear dw
             try clear dh
             try clear bh
             try clear ah
             try clear Zg
             try clear Vl
             try clear p2
             try clear p6
             obtain ⟨kq,jn,rfl,HA,XL,ya,Ga,HB⟩:=hcut;cases kq with
             | zero=>exact absurd HA.out (by simp [Sa.j3])
             | succ rL =>
              have H:=HA.out;clear HA;simp only [Sa.j3] at H
              by_cases cH:jn=true
              ·subst cH;have H1:(if t103=true then (if xg=true then (some (Ac == 0)) else (some false)) else (some false))=some r:=by rw [if_pos rfl] at H;exact H
               clear H;have H:=H1;clear H1
               by_cases bH:t103=true
               ·subst bH;have H1:(if xg=true then (some (Ac == 0)) else (some false))=some r:=by rw [if_pos rfl] at H;exact H
                clear H;have H:=H1;clear H1
                by_cases aH:xg=true
                ·subst aH;have H1:(some (Ac == 0))=some r:=by rw [if_pos rfl] at H;exact H
                 clear H;have H:=H1;clear H1;obtain rfl:=Option.some.inj H;have iJ:=Bb.out;have KI:=Cb.out;have UF:wc.cell? ⟨La,0,none⟩=some (.int .i64 Pb):=(ja Ga.out 0).trans rfl;have TF:wc.cell? ⟨La,1,none⟩=some (.int .i64 oc):=(ja Ga.out 1).trans rfl;have SF:wc.cell? ⟨La,2,none⟩=some (.int .i64 jc):=(ja Ga.out 2).trans rfl;have RF:wc.cell? ⟨La,3,none⟩=some (.int .i64 Cc):=(ja Ga.out 3).trans rfl;have QF:wc.cell? ⟨La,4,none⟩=some (.int .i64 Ac):=(ja Ga.out 4).trans rfl;have bE:=ga Ga.out 0;have aE:=ga Ga.out 1;have YD:=ga Ga.out 2;have XD:=ga Ga.out 3;have WD:=ga Ga.out 4;go_wp2;go_ret;exact ⟨by first|rfl|(simp [Ja,Ia] <;> rfl)|(simp [*,Ja,Ia] <;> rfl),by repeat (first|(with_reducible first|exact HB.out|apply ia|apply aa|apply qa|refine ua ?_ Ua.out|refine ua ?_ Ub.out)|exact HB.out)⟩
                ·replace aH:=Bool.eq_false_iff.mpr aH;subst aH;have H1:(some false)=some r:=by rw [if_neg (show ¬ (false=true) by decide)] at H;exact H
                 clear H;have H:=H1;clear H1;obtain rfl:=Option.some.inj H;go_wp2;go_ret;exact ⟨by first|rfl|(simp [Ja,Ia] <;> rfl)|(simp [*,Ja,Ia] <;> rfl),by repeat (first|(with_reducible first|exact HB.out|apply ia|apply aa|apply qa|refine ua ?_ Ua.out|refine ua ?_ Ub.out)|exact HB.out)⟩
               ·replace bH:=Bool.eq_false_iff.mpr bH;subst bH;have H1:(some false)=some r:=by rw [if_neg (show ¬ (false=true) by decide)] at H;exact H
                clear H;have H:=H1;clear H1;obtain rfl:=Option.some.inj H;go_wp2;go_ret;exact ⟨by first|rfl|(simp [Ja,Ia] <;> rfl)|(simp [*,Ja,Ia] <;> rfl),by repeat (first|(with_reducible first|exact HB.out|apply ia|apply aa|apply qa|refine ua ?_ Ua.out|refine ua ?_ Ub.out)|exact HB.out)⟩
              ·replace cH:=Bool.eq_false_iff.mpr cH;subst cH;have H1:(if Pb=8 then (if oc=0 then (if xg=true then ((Va.f Ac 0 (wrap64 ((Ba.length:Int) - 1))).bind fun t109=>(some t109)) else (some false)) else (some false)) else (if Pb=9 then (if t103=true then (if xg=true then ((Va.f Ac 0 (wrap64 ((Ba.length:Int) - 1))).bind fun t110=>(some t110)) else (some false)) else (some false)) else (some false)))=some r:=by rw [if_neg (show ¬ (false=true) by decide)] at H;exact H
               clear H;have H:=H1;clear H1
               by_cases AA:Pb=8
               ·rw [if_pos AA] at H;have aC:(Pb == 8)=true:=beq_iff_eq.mpr AA;have ZB:(Pb != 8)=false:=bne_eq_false_iff_eq.mpr AA;clear AA
                by_cases zA:oc=0
                ·rw [if_pos zA] at H;have YB:(oc == 0)=true:=beq_iff_eq.mpr zA;have XB:(oc != 0)=false:=bne_eq_false_iff_eq.mpr zA;clear zA
                 by_cases ZG:xg=true
                 ·subst ZG;have H1:((Va.f Ac 0 (wrap64 ((Ba.length:Int) - 1))).bind fun t109=>(some t109))=some r:=by rw [if_pos rfl] at H;exact H
                  clear H;have H:=H1;clear H1;replace H:=Option.bind_eq_some_iff.mp H;obtain ⟨t109,TC,H⟩:=H;replace H:(some t109)=some r:=H;have gM:=oa.mk TC;clear TC;obtain rfl:=Option.some.inj H;have hJ:=Bb.out;have JI:=Cb.out;have PF:wc.cell? ⟨La,0,none⟩=some (.int .i64 Pb):=(ja Ga.out 0).trans rfl;have NF:wc.cell? ⟨La,1,none⟩=some (.int .i64 oc):=(ja Ga.out 1).trans rfl;have MF:wc.cell? ⟨La,2,none⟩=some (.int .i64 jc):=(ja Ga.out 2).trans rfl;have LF:wc.cell? ⟨La,3,none⟩=some (.int .i64 Cc):=(ja Ga.out 3).trans rfl;have KF:wc.cell? ⟨La,4,none⟩=some (.int .i64 Ac):=(ja Ga.out 4).trans rfl;have VD:=ga Ga.out 0;have UD:=ga Ga.out 1;have TD:=ga Ga.out 2;have SD:=ga Ga.out 3;have RD:=ga Ga.out 4;have JF:wc.cell? ⟨Fa,0,none⟩=some (.slice yb Qa.length xb):=(ja ya.out 0).trans rfl;have GF:wc.cell? ⟨Fa,1,none⟩=some (.int .i64 Oa):=(ja ya.out 1).trans rfl;have FF:wc.cell? ⟨Fa,2,none⟩=some (.int .i64 Pa):=(ja ya.out 2).trans rfl;have EF:wc.cell? ⟨Fa,3,none⟩=some (.slice Db Ba.length zb):=(ja ya.out 3).trans rfl;have QD:=ga ya.out 0;have PD:=ga ya.out 1;have OD:=ga ya.out 2;have ND:=ga ya.out 3;go_wp2_with (first|(go_at_call 33;(with_reducible refine (Va.calls Ac 0 (wrap64 ((Ba.length:Int) - 1)) t109 _ gM.out).mono ?_);rintro e w' ⟨rfl,⟨nd,rfl⟩⟩));go_ret;exact ⟨by first|rfl|(simp [Ja,Ia] <;> rfl)|(simp [*,Ja,Ia] <;> rfl),by repeat (first|(with_reducible first|exact HB.out|apply ia|apply aa|apply qa|refine ua ?_ Ua.out|refine ua ?_ Ub.out)|exact HB.out)⟩
                 ·replace ZG:=Bool.eq_false_iff.mpr ZG;subst ZG;have H1:(some false)=some r:=by rw [if_neg (show ¬ (false=true) by decide)] at H;exact H
                  clear H;have H:=H1;clear H1;obtain rfl:=Option.some.inj H;have gJ:=Bb.out;have II:=Cb.out;have DF:wc.cell? ⟨La,0,none⟩=some (.int .i64 Pb):=(ja Ga.out 0).trans rfl;have CF:wc.cell? ⟨La,1,none⟩=some (.int .i64 oc):=(ja Ga.out 1).trans rfl;have BF:wc.cell? ⟨La,2,none⟩=some (.int .i64 jc):=(ja Ga.out 2).trans rfl;have AF:wc.cell? ⟨La,3,none⟩=some (.int .i64 Cc):=(ja Ga.out 3).trans rfl;have zF:wc.cell? ⟨La,4,none⟩=some (.int .i64 Ac):=(ja Ga.out 4).trans rfl;have MD:=ga Ga.out 0;have LD:=ga Ga.out 1;have KD:=ga Ga.out 2;have JD:=ga Ga.out 3;have ID:=ga Ga.out 4;go_wp2;go_ret;exact ⟨by first|rfl|(simp [Ja,Ia] <;> rfl)|(simp [*,Ja,Ia] <;> rfl),by repeat (first|(with_reducible first|exact HB.out|apply ia|apply aa|apply qa|refine ua ?_ Ua.out|refine ua ?_ Ub.out)|exact HB.out)⟩
                ·rw [if_neg zA] at H;have YB:(oc == 0)=false:=beq_eq_false_iff_ne.mpr zA;have XB:(oc != 0)=true:=bne_iff_ne.mpr zA;obtain rfl:=Option.some.inj H;have fJ:=Bb.out;have GI:=Cb.out;have yF:wc.cell? ⟨La,0,none⟩=some (.int .i64 Pb):=(ja Ga.out 0).trans rfl;have xF:wc.cell? ⟨La,1,none⟩=some (.int .i64 oc):=(ja Ga.out 1).trans rfl;have wF:wc.cell? ⟨La,2,none⟩=some (.int .i64 jc):=(ja Ga.out 2).trans rfl;have vF:wc.cell? ⟨La,3,none⟩=some (.int .i64 Cc):=(ja Ga.out 3).trans rfl;have uF:wc.cell? ⟨La,4,none⟩=some (.int .i64 Ac):=(ja Ga.out 4).trans rfl;have GD:=ga Ga.out 0;have FD:=ga Ga.out 1;have ED:=ga Ga.out 2;have DD:=ga Ga.out 3;have CD:=ga Ga.out 4;go_wp2;go_ret;exact ⟨by first|rfl|(simp [Ja,Ia] <;> rfl)|(simp [*,Ja,Ia] <;> rfl),by repeat (first|(with_reducible first|exact HB.out|apply ia|apply aa|apply qa|refine ua ?_ Ua.out|refine ua ?_ Ub.out)|exact HB.out)⟩
               ·rw [if_neg AA] at H;have aC:(Pb == 8)=false:=beq_eq_false_iff_ne.mpr AA;have ZB:(Pb != 8)=true:=bne_iff_ne.mpr AA
                by_cases xA:Pb=9
                ·rw [if_pos xA] at H;have WB:(Pb == 9)=true:=beq_iff_eq.mpr xA;have VB:(Pb != 9)=false:=bne_eq_false_iff_eq.mpr xA;clear xA
                 by_cases YG:t103=true
                 ·subst YG;have H1:(if xg=true then ((Va.f Ac 0 (wrap64 ((Ba.length:Int) - 1))).bind fun t110=>(some t110)) else (some false))=some r:=by rw [if_pos rfl] at H;exact H
                  clear H;have H:=H1;clear H1
                  by_cases XG:xg=true
                  ·subst XG;have H1:((Va.f Ac 0 (wrap64 ((Ba.length:Int) - 1))).bind fun t110=>(some t110))=some r:=by rw [if_pos rfl] at H;exact H
                   clear H;have H:=H1;clear H1;replace H:=Option.bind_eq_some_iff.mp H;obtain ⟨t110,RC,H⟩:=H;replace H:(some t110)=some r:=H;have fM:=oa.mk RC;clear RC;obtain rfl:=Option.some.inj H;have eJ:=Bb.out;have FI:=Cb.out;have tF:wc.cell? ⟨La,0,none⟩=some (.int .i64 Pb):=(ja Ga.out 0).trans rfl;have sF:wc.cell? ⟨La,1,none⟩=some (.int .i64 oc):=(ja Ga.out 1).trans rfl;have rF:wc.cell? ⟨La,2,none⟩=some (.int .i64 jc):=(ja Ga.out 2).trans rfl;have qF:wc.cell? ⟨La,3,none⟩=some (.int .i64 Cc):=(ja Ga.out 3).trans rfl;have pF:wc.cell? ⟨La,4,none⟩=some (.int .i64 Ac):=(ja Ga.out 4).trans rfl;have BD:=ga Ga.out 0;have zD:=ga Ga.out 1;have yD:=ga Ga.out 2;have xD:=ga Ga.out 3;have wD:=ga Ga.out 4;have oF:wc.cell? ⟨Fa,0,none⟩=some (.slice yb Qa.length xb):=(ja ya.out 0).trans rfl;have nF:wc.cell? ⟨Fa,1,none⟩=some (.int .i64 Oa):=(ja ya.out 1).trans rfl;have mF:wc.cell? ⟨Fa,2,none⟩=some (.int .i64 Pa):=(ja ya.out 2).trans rfl;have lF:wc.cell? ⟨Fa,3,none⟩=some (.slice Db Ba.length zb):=(ja ya.out 3).trans rfl;have vD:=ga ya.out 0;have uD:=ga ya.out 1;have tD:=ga ya.out 2;have sD:=ga ya.out 3;go_wp2_with (first|(go_at_call 33;(with_reducible refine (Va.calls Ac 0 (wrap64 ((Ba.length:Int) - 1)) t110 _ fM.out).mono ?_);rintro e w' ⟨rfl,⟨nd,rfl⟩⟩));go_ret;exact ⟨by first|rfl|(simp [Ja,Ia] <;> rfl)|(simp [*,Ja,Ia] <;> rfl),by repeat (first|(with_reducible first|exact HB.out|apply ia|apply aa|apply qa|refine ua ?_ Ua.out|refine ua ?_ Ub.out)|exact HB.out)⟩
                  ·replace XG:=Bool.eq_false_iff.mpr XG;subst XG;have H1:(some false)=some r:=by rw [if_neg (show ¬ (false=true) by decide)] at H;exact H
                   clear H;have H:=H1;clear H1;obtain rfl:=Option.some.inj H;go_wp2;go_ret;exact ⟨by first|rfl|(simp [Ja,Ia] <;> rfl)|(simp [*,Ja,Ia] <;> rfl),by repeat (first|(with_reducible first|exact HB.out|apply ia|apply aa|apply qa|refine ua ?_ Ua.out|refine ua ?_ Ub.out)|exact HB.out)⟩
                 ·replace YG:=Bool.eq_false_iff.mpr YG;subst YG;have H1:(some false)=some r:=by rw [if_neg (show ¬ (false=true) by decide)] at H;exact H
                  clear H;have H:=H1;clear H1;obtain rfl:=Option.some.inj H;go_wp2;go_ret;exact ⟨by first|rfl|(simp [Ja,Ia] <;> rfl)|(simp [*,Ja,Ia] <;> rfl),by repeat (first|(with_reducible first|exact HB.out|apply ia|apply aa|apply qa|refine ua ?_ Ua.out|refine ua ?_ Ub.out)|exact HB.out)⟩
                ·rw [if_neg xA] at H;have WB:(Pb == 9)=false:=beq_eq_false_iff_ne.mpr xA;have VB:(Pb != 9)=true:=bne_iff_ne.mpr xA;obtain rfl:=Option.some.inj H;go_wp2;go_ret;exact ⟨by first|rfl|(simp [Ja,Ia] <;> rfl)|(simp [*,Ja,Ia] <;> rfl),by repeat (first|(with_reducible first|exact HB.out|apply ia|apply aa|apply qa|refine ua ?_ Ua.out|refine ua ?_ Ub.out)|exact HB.out)⟩
end Go.Proofs.YtgflknmbnblpaaaDoor.P
end
