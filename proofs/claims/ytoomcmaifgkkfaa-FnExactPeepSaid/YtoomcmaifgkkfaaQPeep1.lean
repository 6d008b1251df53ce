import Derived.Test.YtoomcmaifgkkfaaProg
import Derived.Below
import Derived.Deep.Draws
import Derived.Deep.AppendLies
import Derived.Maps.AppendAt
import Derived.OwnWalk
import Derived.Laws.BytesArg
import Derived.Laws.MakeOwn
import Derived.Laws.OwnMore
import Derived.Deep.OwnRows
import Derived.Tactics
import Derived.Lib.ConvBytes
import Derived.Laws.Slices
import Derived.WalkKit
import Derived.KernelRfl
import Derived.RowKit3
import Derived.Deep.LoopGhost
import Derived.Deep.QuietTactic
import Derived.BigQuiet
import Derived.WideLaws
import Derived.Deep.DeepCutAuto
import Derived.Deep.CutBlock
import Derived.Deep.RegionHeld3
import Derived.Laws.Rows
import Derived.Lib.AppendStr
import Derived.ArgAppend
import Derived.Laws.IdiomCopy
import Derived.OrdersHeld
import Derived.Laws.BitsLemmas
import Derived.RowKit
import Derived.Test.YtoomcmaifgkkfaaQPeepW1
import Derived.Deep.Slices
import Derived.ChangeArms
import Derived.OpenShut
import Derived.WideShapes
set_option maxHeartbeats 8000000
set_option maxRecDepth 100000
section
namespace Go.Proofs.Ytoomcmaifgkkfaa.P
open Go.RowKit Go.Proofs.La.Zb Go.Proofs.La.Me Go.Proofs.La.Ig
set_option linter.unusedVariables false
set_option linter.unusedSimpArgs false
attribute [local go_sem] Kj Ij Vk Uk Mi Li Jj Hj
def rT:Option Int→Value
 | none=>.nilIface
 | some c=>.iface 0 (.int .i64 c)
theorem Xa:rT none = .nilIface:=rfl
theorem Wa (c:Int):rT (some c) = .iface 0 (.int .i64 c):=rfl
theorem info3:(Try.prog.info? 3).map (fun i=>(i.zero,i.size,i.bytes))=some (some (.int .i64 0),1,8):=by kernel_rfl
theorem AQ:(Try.prog.info? 4).map (fun i=>(i.zero,i.size,i.bytes))=some (some (.bool false),1,1):=by kernel_rfl
theorem Gl:(Try.prog.info? 67).map (fun i=>(i.zero,i.size,i.bytes))=some (some (.agg #[(.int .i64 0),(.int .i64 0),(.int .i64 0),(.int .i64 0),(.int .i64 0)]),5,40):=by kernel_rfl
structure Ns where
 f0:Int
 f1:Int
 f2:Int
 f3:Int
 f4:Int
def l7:Ns:=⟨(0:Int),(0:Int),(0:Int),(0:Int),(0:Int)⟩
def HE:Kd Ns:=Kd.sV (Kd.pair (Kd.int .i64) (Kd.pair (Kd.int .i64) (Kd.pair (Kd.int .i64) (Kd.pair (Kd.int .i64) (Kd.int .i64))))) (fun x:Ns=>(x.f0,x.f1,x.f2,x.f3,x.f4))
theorem FE {w:World} {x:Ns} {cs:List Value} (h:HE.K w x cs):cs=[.int .i64 x.f0,.int .i64 x.f1,.int .i64 x.f2,.int .i64 x.f3,.int .i64 x.f4]:=by
 obtain ⟨_,_,rfl,rfl,⟨_,_,rfl,rfl,⟨_,_,rfl,rfl,⟨_,_,rfl,rfl,rfl⟩⟩⟩⟩:=h;exact rfl
def Ug (xs:List Ns) (i:Int):Ns:=xs.getD i.toNat l7
theorem dP {w:World} {A:Option Addr} {n:Nat} {xs:List Ns} (h:Kd.C HE w A n xs) (i:Int) (h0:0 ≤ i) (h1:i < n):∃ ad , A=some ad∧w.cell? (ad.add (i.toNat * 5))=some (.int .i64 (Ug xs i).f0)∧w.cell? ⟨(ad.add (i.toNat * 5)).block,(ad.add (i.toNat * 5)).off + 1,none⟩=some (.int .i64 (Ug xs i).f1)∧w.cell? ⟨(ad.add (i.toNat * 5)).block,(ad.add (i.toNat * 5)).off + 2,none⟩=some (.int .i64 (Ug xs i).f2)∧w.cell? ⟨(ad.add (i.toNat * 5)).block,(ad.add (i.toNat * 5)).off + 3,none⟩=some (.int .i64 (Ug xs i).f3)∧w.cell? ⟨(ad.add (i.toNat * 5)).block,(ad.add (i.toNat * 5)).off + 4,none⟩=some (.int .i64 (Ug xs i).f4):=by
 obtain ⟨ad,c,e,_,hK,hc0⟩:=Kd.nN h l7 i h0 h1;have hc:∀ j u,c[j]? = some u→w.cell? (ad.add (i.toNat * 5 + j))=some u:=hc0;obtain rfl:=FE hK;exact ⟨ad,e,hc 0 _ rfl,by rw [← wj _ _ 1 (by omega)];exact hc 1 _ rfl,by rw [← wj _ _ 2 (by omega)];exact hc 2 _ rfl,by rw [← wj _ _ 3 (by omega)];exact hc 3 _ rfl,by rw [← wj _ _ 4 (by omega)];exact hc 4 _ rfl⟩
structure kU where
 f0:(List Int)
 f1:Int
 f2:Int
 f3:(List Ns)
def C7:Kd kU:=Kd.sV (Kd.pair (Kd.slice 3 (Kd.int .i64)) (Kd.pair (Kd.int .i64) (Kd.pair (Kd.int .i64) (Kd.slice 96 HE)))) (fun x:kU=>(x.f0,x.f1,x.f2,x.f3))
theorem JE {w:World} {x:kU} {cs:List Value} (h:C7.K w x cs):∃ A0 c0 A3 c3,cs=[.slice A0 x.f0.length c0,.int .i64 x.f1,.int .i64 x.f2,.slice A3 x.f3.length c3]∧x.f0.length ≤ c0∧(Kd.int .i64).C w A0 x.f0.length x.f0∧x.f3.length ≤ c3∧HE.C w A3 x.f3.length x.f3:=by
 obtain ⟨_,_,rfl,⟨A0,c0,rfl,l0,g0⟩,⟨_,_,rfl,rfl,⟨_,_,rfl,rfl,⟨A3,c3,rfl,l3,g3⟩⟩⟩⟩:=h;exact ⟨A0,c0,A3,c3,rfl,l0,g0,l3,g3⟩
structure Wc where
 f0:Int
 f1:Int
 f2:Int
 f3:Int
 f4:Int
def Sm:Wc:=⟨(0:Int),(0:Int),(0:Int),(0:Int),(0:Int)⟩
def bg:Kd Wc:=Kd.sV (Kd.pair (Kd.int .i64) (Kd.pair (Kd.int .i64) (Kd.pair (Kd.int .i64) (Kd.pair (Kd.int .i64) (Kd.int .i64))))) (fun x:Wc=>(x.f0,x.f1,x.f2,x.f3,x.f4))
theorem IE {w:World} {x:Wc} {cs:List Value} (h:bg.K w x cs):cs=[.int .i64 x.f0,.int .i64 x.f1,.int .i64 x.f2,.int .i64 x.f3,.int .i64 x.f4]:=by
 obtain ⟨_,_,rfl,rfl,⟨_,_,rfl,rfl,⟨_,_,rfl,rfl,⟨_,_,rfl,rfl,rfl⟩⟩⟩⟩:=h;exact rfl
theorem jf {w:World} {base:Nat} {ok:Nat→Prop} {x:Wc} {cs:List Value} (h:bg.M w base ok x cs):cs=[.int .i64 x.f0,.int .i64 x.f1,.int .i64 x.f2,.int .i64 x.f3,.int .i64 x.f4]:=by
 obtain ⟨_,_,rfl,rfl,⟨_,_,rfl,rfl,⟨_,_,rfl,rfl,⟨_,_,rfl,rfl,rfl⟩⟩⟩⟩:=h;exact rfl
theorem Ag (w:World) (base:Nat) (ok:Nat→Prop) (x:Wc)  : bg.M w base ok x [.int .i64 x.f0,.int .i64 x.f1,.int .i64 x.f2,.int .i64 x.f3,.int .i64 x.f4]:=⟨[.int .i64 x.f0],[.int .i64 x.f1,.int .i64 x.f2,.int .i64 x.f3,.int .i64 x.f4],rfl,rfl,⟨[.int .i64 x.f1],[.int .i64 x.f2,.int .i64 x.f3,.int .i64 x.f4],rfl,rfl,⟨[.int .i64 x.f2],[.int .i64 x.f3,.int .i64 x.f4],rfl,rfl,⟨[.int .i64 x.f3],[.int .i64 x.f4],rfl,rfl,rfl⟩⟩⟩⟩
def ta (xs:List Wc) (i:Int):Wc:=xs.getD i.toNat Sm
theorem Yd {w:World} {A:Option Addr} {n:Nat} {xs:List Wc} (h:Kd.C bg w A n xs) (i:Int) (h0:0 ≤ i) (h1:i < n):∃ ad , A=some ad∧w.cell? (ad.add (i.toNat * 5))=some (.int .i64 (ta xs i).f0)∧w.cell? ⟨(ad.add (i.toNat * 5)).block,(ad.add (i.toNat * 5)).off + 1,none⟩=some (.int .i64 (ta xs i).f1)∧w.cell? ⟨(ad.add (i.toNat * 5)).block,(ad.add (i.toNat * 5)).off + 2,none⟩=some (.int .i64 (ta xs i).f2)∧w.cell? ⟨(ad.add (i.toNat * 5)).block,(ad.add (i.toNat * 5)).off + 3,none⟩=some (.int .i64 (ta xs i).f3)∧w.cell? ⟨(ad.add (i.toNat * 5)).block,(ad.add (i.toNat * 5)).off + 4,none⟩=some (.int .i64 (ta xs i).f4):=by
 obtain ⟨ad,c,e,_,hK,hc0⟩:=Kd.nN h Sm i h0 h1;have hc:∀ j u,c[j]? = some u→w.cell? (ad.add (i.toNat * 5 + j))=some u:=hc0;obtain rfl:=IE hK;exact ⟨ad,e,hc 0 _ rfl,by rw [← wj _ _ 1 (by omega)];exact hc 1 _ rfl,by rw [← wj _ _ 2 (by omega)];exact hc 2 _ rfl,by rw [← wj _ _ 3 (by omega)];exact hc 3 _ rfl,by rw [← wj _ _ 4 (by omega)];exact hc 4 _ rfl⟩
def cm (P:Program) (t:TypeId) {α:Type} (d:Kd α) (fit:α→Prop):Prop :=
 ∀ {H:Type} {enc:TypeId × Value→H} {w:World} {base:Nat} {spare:Nat→Bool} {held:Bool} {fuel:Nat} {cs:List Value} {x:DataW H × List MemPlace},
  DataW.trod enc P w base spare held fuel t cs=some x→∃ a:α,d.K w a cs∧fit a
theorem fD {P:Program} {t:TypeId} {k:IntKind} (ht:P.underlying t=some (.int k)):cm P t (Kd.int k) (fun n=>(Lit.int k n).wf=true):=by
 intro H enc w base spare held fuel cs x h;obtain ⟨n,rfl,_,hw⟩:=DataW.trod_int ht h;exact ⟨n,rfl,hw⟩
def Ks (n:Int):Prop:=-9223372036854775808 ≤ n∧n ≤ 9223372036854775807
theorem wf_i64 {n:Int} (h:(Lit.int .i64 n).wf=true):Ks n:=by
 simp [Lit.wf,IntKind.min,IntKind.max,IntKind.signed,IntKind.bits] at h;unfold Ks;omega
theorem sj {P:Program} {t:TypeId} (ht:P.underlying t=some (.int .i64)):cm P t (Kd.int .i64) Ks:=by
 intro H enc w base spare held fuel cs x h;obtain ⟨n,h1,h2⟩:=fD ht h;exact ⟨n,h1,wf_i64 h2⟩
theorem Wr {α:Type} {p:Nat→α→Prop}:∀ n,(∀ i,i < n→∃ a,p i a)→∃ xs:List α,xs.length=n∧∀ (i:Nat) (a:α),xs[i]? = some a→p i a
 | 0,_=>⟨[],rfl,fun i a h=>by simp at h⟩
 | n + 1,h=>by
  obtain ⟨xs,hl,hx⟩:=Wr n (fun i hi=>h i (by omega));obtain ⟨a,ha⟩:=h n (by omega);refine ⟨xs ++ [a],by simp [hl],fun i b hb=>?_⟩
  rcases Nat.lt_or_ge i xs.length with hi|hi
  ·rw [List.getElem?_append_left hi] at hb;exact hx i b hb
  ·have:i=n:=by
    have:=(List.getElem?_eq_some_iff.1 hb).1;simp [hl] at this;omega
   subst this;rw [List.getElem?_append_right hi,hl] at hb;simp at hb;exact hb ▸ ha
theorem Sr {P:Program} {t e e':TypeId} {α:Type} {d:Kd α} {fit:α→Prop} (ht:P.underlying t=some (.slice e)) (hs:P.cellsOf e=d.sz) (h:cm P e d fit):cm P t (Kd.slice e' d) (fun l=>l.length ≤ 9223372036854775807∧∀ a ∈ l,fit a):=by
 intro H enc w base spare held fuel cs x hx
 rcases Go.Deep.open_slice ht hx with ⟨rfl,_⟩|⟨a,len,cap,m,n,D,Pl,rfl,hb,hl,hm,hmm,_,hel⟩
 ·exact ⟨[],⟨none,0,rfl,Nat.le_refl _,rfl,by simp,fun hp=>absurd hp (by simp)⟩,by simp,by simp⟩
 ·have hle:len ≤ m:=by rw [hmm];split <;> omega
  have V3:len ≤ 9223372036854775807:=by simp only [maxLen] at hm;omega
  obtain ⟨xs,hxl,hxs⟩:=Wr (α:=α) (p:=fun i y=>∃ c,c.length=d.sz∧d.K w y c∧(∀ j u,c[j]? = some u→w.cell? (a.add (i * d.sz + j))=some u)∧fit y) len (fun i hi=>by
   obtain ⟨cs',h1,h2⟩:=hel i (by omega);obtain ⟨y,hy,hf⟩:=h h2;obtain ⟨_,vO,zD⟩:=World.cells?_some h1;refine ⟨y,cs',by rw [vO,hs],hy,fun j u hu=>?_,hf⟩;have hj:j < P.cellsOf e:=by rw [← vO];exact (List.getElem?_eq_some_iff.1 hu).1
   rw [← hs,← Go.Deep.add_add,zD j hj]
   exact hu)
  refine ⟨xs,⟨some a,cap,by rw [hxl],by omega,rfl,by omega,fun _=>⟨a,rfl,fun j p hj=>?_⟩⟩,by omega,fun y hy=>?_⟩
  ·obtain ⟨c,h1,h2,h3,_⟩:=hxs j p hj;exact ⟨c,h1,h2,h3⟩
  ·obtain ⟨i,hi,rfl⟩:=List.getElem_of_mem hy;obtain ⟨c,_,_,_,h4⟩:=hxs i _ (List.getElem?_eq_getElem hi);exact h4
def ey (P:Program) (fs:List Field) (off:Nat) {α:Type} (d:Kd α) (fit:α→Prop):Prop :=
 ∀ {H:Type} {enc:TypeId × Value→H} {w:World} {base:Nat} {spare:Nat→Bool} {held:Bool} {n:Nat} {cs:List Value},
  (∀ f ∈ fs,∃ y,DataW.trod enc P w base spare held n f.type ((cs.drop f.offset).take (P.cellsOf f.type))=some y)→cs.length=off + d.sz→∃ a:α,d.K w a (cs.drop off)∧fit a
theorem nu {P:Program} {f:Field} {off:Nat} {α:Type} {d:Kd α} {fit:α→Prop} (ho:f.offset=off) (hs:P.cellsOf f.type=d.sz) (h:cm P f.type d fit):ey P [f] off d fit:=by
 intro H enc w base spare held n cs hf hl;obtain ⟨y,hy⟩:=hf f (by simp);rw [ho,hs,List.take_of_length_le (by rw [List.length_drop];omega)] at hy;exact h hy
theorem Bi {P:Program} {f:Field} {fs:List Field} {off off2:Nat} {α β:Type} {d:Kd α} {d2:Kd β} {fit:α→Prop} {nT:β→Prop} (ho:f.offset=off) (hs:P.cellsOf f.type=d.sz) (G1:off2=off + d.sz) (h:cm P f.type d fit) (h2:ey P fs off2 d2 nT):ey P (f :: fs) off (Kd.pair d d2) (fun p=>fit p.1∧nT p.2):=by
 intro H enc w base spare held n cs hf hl;have hl':cs.length=off + (d.sz + d2.sz):=hl;obtain ⟨y,hy⟩:=hf f (by simp);rw [ho,hs] at hy;obtain ⟨a,ha,fa⟩:=h hy;obtain ⟨b,hb,fb⟩:=h2 (fun g hg=>hf g (List.mem_cons_of_mem _ hg)) (by omega);refine ⟨(a,b),⟨(cs.drop off).take d.sz,cs.drop off2,?_,ha,hb⟩,fa,fb⟩;rw [G1,← List.drop_drop,List.take_append_drop]
theorem Vp {P:Program} {t:TypeId} {fs:Array Field} {α:Type} {d:Kd α} {fit:α→Prop} (ht:P.underlying t=some (.struct fs)) (hs:P.cellsOf t=d.sz) (h:ey P fs.toList 0 d fit):cm P t d fit:=by
 intro H enc w base spare held fuel cs x hx;obtain ⟨xs,n,_,_,hl,hxl,hf⟩:=DataW.trod_struct ht hx
 have:=h (w:=w) (enc:=enc) (base:=base) (spare:=spare) (held:=held) (n:=n) (cs:=cs) (fun f hfm=>by
  obtain ⟨i,hi,rfl⟩:=List.getElem_of_mem hfm;have hi':i < fs.size:=by simpa using hi
  have h1:=hf i (fs.toList[i]) (by simp [hi']);rw [List.getElem?_eq_getElem (by omega)] at h1
  exact ⟨_,h1⟩) (by omega)
 simpa using this
theorem uv {P:Program} {t:TypeId} {α β:Type} {d:Kd α} {fit:α→Prop} {g:β→α} (gi:α→β) (hg:∀ a,g (gi a)=a) (h:cm P t d fit):cm P t (Kd.sV d g) (fun b=>fit (g b)):=by
 intro H enc w base spare held fuel cs x hx;obtain ⟨a,ha,hf⟩:=h hx;refine ⟨gi a,?_,?_⟩
 ·show d.K w (g (gi a)) cs
  rw [hg];exact ha
 ·show fit (g (gi a))
  rw [hg];exact hf
theorem AE {P:Program} {t:TypeId} {fs:Array Field} {α:Type} {d:Kd α} {fit:α→Prop} {r:Reach} {b0:Nat} {H:Type} {enc:TypeId × Value→H} {w:World} {base:Nat} {spare:Nat→Bool} {held:Bool} {v:Value} {dt:DataW H} {p:List MemPlace}
  (ht:P.underlying t=some (.struct fs)) (h:cm P t d fit) (hv:Value.okWide P w r b0 t v) (hd:DataW.Trod enc P w base spare held t v dt p) :
  ∃ (a:α) (cs:Array Value),v = .agg cs∧d.K w a cs.toList∧fit a:=by
 obtain ⟨cs,rfl,hsz⟩:=Go.WideShapes.okWide_struct ht hv;obtain ⟨fuel,hf⟩:=hd;obtain ⟨a,ha,hfa⟩:=h hf;exact ⟨a,cs,rfl,by simpa [Value.cells] using ha,hfa⟩
theorem jI:cm Try.prog 22 (Kd.slice 3 (Kd.int .i64)) (fun l=>l.length ≤ 9223372036854775807∧∀ a ∈ l,Ks a):=Sr Try.underlying22 (by kernel_rfl) (sj Try.underlying3)
def SG (x:Ns):Prop:=Ks x.f0∧Ks x.f1∧Ks x.f2∧Ks x.f3∧Ks x.f4
theorem fI:cm Try.prog 96 HE SG:=uv (fun p=>⟨p.1,p.2.1,p.2.2.1,p.2.2.2.1,p.2.2.2.2⟩) (fun _=>rfl) (Vp Try.underlying96 (by kernel_rfl) (Bi rfl (by kernel_rfl) (by kernel_rfl) (sj Try.underlying3) (Bi rfl (by kernel_rfl) (by kernel_rfl) (sj Try.underlying3) (Bi rfl (by kernel_rfl) (by kernel_rfl) (sj Try.underlying3) (Bi rfl (by kernel_rfl) (by kernel_rfl) (sj Try.underlying3) (nu rfl (by kernel_rfl) (sj Try.underlying3)))))))
theorem iI:cm Try.prog 23 (Kd.slice 96 HE) (fun l=>l.length ≤ 9223372036854775807∧∀ a ∈ l,SG a):=Sr Try.underlying23 (by kernel_rfl) fI
def sM (x:kU):Prop:=(fun l=>l.length ≤ 9223372036854775807∧∀ a ∈ l,Ks a) x.f0∧Ks x.f1∧Ks x.f2∧(fun l=>l.length ≤ 9223372036854775807∧∀ a ∈ l,SG a) x.f3
theorem gI:cm Try.prog 25 C7 sM:=uv (fun p=>⟨p.1,p.2.1,p.2.2.1,p.2.2.2⟩) (fun _=>rfl) (Vp Try.underlying25 (by kernel_rfl) (Bi rfl (by kernel_rfl) (by kernel_rfl) jI (Bi rfl (by kernel_rfl) (by kernel_rfl) (sj Try.underlying3) (Bi rfl (by kernel_rfl) (by kernel_rfl) (sj Try.underlying3) (nu rfl (by kernel_rfl) iI)))))
def Md.l0:Nat→List Int→Int→Int→Option (Int × List Int)
 | 0,_,_,_=>none
 | k + 1,x0,x1,x5=>if x5 < (x0.length:Int) then (if 0 ≤ x5 then (Md.l0 k (x0.set (x5:Int).toNat x1) (wrap64 (x1 + 1)) (wrap64 (x5 + 1))) else (none)) else (some (x1,x0))
def Md.f (k:Nat) (l0:List Int) (a1:Int):Option (Int × List Int):=Md.l0 k l0 a1 0
theorem Md.calls (k:Nat) (pn:Nat→Prop) (Eh:Value) (l0:List Int) (a1:Int) (r1:Int) (r2:List Int) (w0 w:World) (hB:Below w0.heap.size w0 w) (zi:Kd.R (Kd.int .i64) 3 w w0.heap.size pn Eh l0) (h:Md.f k l0 a1=some (r1,r2)) :
  Calls Try.prog 20 #[Eh,.int .i64 a1] w fun e w'=>e = .returned (.int .i64 r1)∧Kd.R (Kd.int .i64) 3 w' w0.heap.size (fun k_=>(pn k_ ∨ w.heap.size ≤ k_)) Eh r2∧Below w0.heap.size w0 w'∧Kept w w' (fun k_=>pn k_):=by
 have O6:=aa.mk (show Kd.R (Kd.int .i64) 3 w w0.heap.size (fun k_=>(pn k_ ∨ w.heap.size ≤ k_)) Eh l0 from Kd.jb zi (fun k_ hk=>(.inl hk)));have HK:=aa.mk (Kept.refl w (fun k_=>pn k_));have HW0:=aa.mk hB.size;have HB:=aa.mk hB;clear hB;have H:(Md.l0 k l0 a1 0)=some (r1,r2):=h;clear h;have H':=aa.mk H;clear H;go_enter Try.func20,Try.ntmps20;go_wp2
 go_loopg [1,5] k (fun kq v1 v5 w'=>∃ (Gf:List Int) (qe:Int) (Pa:Int),v1 = .int .i64 qe∧v5 = .int .i64 Pa∧aa (Md.l0 kq Gf qe Pa=some (r1,r2))∧aa (kq ≤ k)∧aa (Kd.R (Kd.int .i64) 3 w' w0.heap.size (fun k_=>(pn k_ ∨ w.heap.size ≤ k_)) Eh Gf)∧aa (Kept w w' (fun k_=>pn k_))∧aa (Below w0.heap.size w0 w'))
 case atStart=>exact ⟨(l0),(a1),(0),(by first|rfl|(simp;done)|(simp [*];done)),(by first|rfl|(simp;done)|(simp [*];done)),H',⟨Nat.le_refl _⟩,⟨by (with_reducible repeat (first|apply Kd.Ea|apply Kd.Da|apply Kd.Ga));exact O6.out⟩,⟨by repeat (first|(with_reducible first|exact HK.out|apply Kept.alloc|apply Kept.drewN|apply Kept.drew)|exact HK.out)⟩,⟨by repeat (first|(with_reducible first|exact HB.out|apply ua|apply ga|apply Aa)|exact HB.out)⟩⟩
 case round =>
  clear H'
  try clear c2
  try clear p2
  (try clear HA);(try clear si);(try clear Wf);(try clear HK);(try clear HB);obtain ⟨Gf,qe,Pa,rfl,rfl,HA,si,Wf,HK,HB⟩:=hrel;cases gk with
  | zero=>exact absurd HA.out (by simp [Md.l0])
  | succ k1 =>
   have H:=HA.out;clear HA;simp only [Md.l0] at H
   by_cases c3:Pa < (Gf.length:Int)
   ·rw [if_pos c3] at H;have qj:decide (Pa < (Gf.length:Int))=true:=decide_eq_true c3;clear c3
    by_cases c4:0 ≤ Pa
    ·rw [if_pos c4] at H;have qm:decide (0 ≤ Pa)=true:=decide_eq_true c4;clear c4;obtain ⟨xh,Ei⟩:∃ y_:List Int,y_=(Gf.set (Pa:Int).toNat qe):=⟨_,rfl⟩;replace H:(Md.l0 k1 xh (wrap64 (qe + 1)) (wrap64 (Pa + 1)))=some (r1,r2):=by first|(rw [Ei];with_reducible exact H)|(have Cf:=(Option.bind_some _ _).symm.trans H;rw [Ei];with_reducible exact Cf)|(have Cf:=(Option.bind_some _ _).symm.trans H;with_reducible exact Cf)|with_reducible exact H|(rw [Ei];exact H)|exact H
     have ur:=aa.mk Ei;clear Ei;have H':=aa.mk H;clear H;obtain ⟨DP,xM,P5⟩:=Kd.Ic Wf.out;subst P5;have p5:0 ≤ (Pa:Int):=of_decide_eq_true (by first|(with_reducible assumption)|assumption);have q5:(Pa:Int) < ((Gf.length:Int):Int):=of_decide_eq_true (by first|(with_reducible assumption)|assumption);obtain ⟨Sh,yM,yO,kT,u5,cl5,iN⟩:=Kd.Kp Wf.out (by omega);(first|cases yO|(injection yO with ir ZG aH;(first|subst ir|(injection ir with ir;subst ir));subst aH;clear ZG));have AP:=aa.mk kT;have GG5:=aa.mk iN;clear kT u5 iN;have OU:=aa.mk (show (pn Sh ∨ w.heap.size ≤ Sh) from (Wf.out.1 _ rfl));obtain ⟨HQ,mS⟩:=Kd.tr 0 Wf.out (Pa:Int) p5 q5;replace p5:=eq_true p5;replace q5:=eq_true q5;have fN:=Kd.cy Wf.out (Pa:Int) qe;go_wp2_with (first|((with_reducible refine qh (t:=3) (p:=15) rfl ?_);refine Dg (t:=3) (p:=15) (v:=?n7) (w1:=(wr.setCell ⟨Sh,(Pa:Int).toNat,none⟩ (.int .i64 qe))) ?hg ?ho ?hn ?hr ?_;(case ho=>rfl);(case hg=>rfl);(case hn=>rfl);(case hr=>first|(go_simp;done)|(go_simp;rfl));intro w8 hw;have hg:wr.grownBy w8 (some Sh):=(by rw [hw];exact fN.2);have Aq:Kd.R (Kd.int .i64) 3 w8 w0.heap.size (fun k_=>(pn k_ ∨ w.heap.size ≤ k_)) (.slice (some ⟨Sh,0,none⟩) Gf.length xM) xh:=(by rw [hw,ur.out];exact fN.1);clear fN;have Ub:=aa.mk (Aq);have Wb:=aa.mk ((by rw [hw];exact ja (HB.out) AP.out:Below w0.heap.size w0 w8));have ic:=aa.mk (Kept.Fj (S:=(fun k_=>pn k_)) hg (by repeat (first|(with_reducible first|exact HK.out|apply Kept.alloc|apply Kept.drewN|apply Kept.drew)|exact HK.out)) (fun k_ e_=>(Wf.out.1 k_ e_)));clear Wf HB HK;have Wf:=Ub;have HB:=Wb;have HK:=ic;clear Ub Wb ic hg hw Aq))
     go_roundg k1
     case measure=>have:=si.out;omega
     case rel=>exact ⟨(xh),(wrap64 (qe + 1)),(wrap64 (Pa + 1)),(by first|rfl|(simp;done)|(simp [*];done)),(by first|rfl|(simp;done)|(simp [*];done)),H',⟨by have:=si.out;omega⟩,⟨by (with_reducible repeat (first|apply Kd.Ea|apply Kd.Da|apply Kd.Ga));exact Wf.out⟩,⟨by repeat (first|(with_reducible first|exact HK.out|apply Kept.alloc|apply Kept.drewN|apply Kept.drew)|exact HK.out)⟩,⟨by repeat (first|(with_reducible first|exact HB.out|apply ua|apply ga|apply Aa)|exact HB.out)⟩⟩
    ·rw [if_neg c4] at H;exact absurd H (by simp)
   ·rw [if_neg c3] at H;have qj:decide (Pa < (Gf.length:Int))=false:=decide_eq_false c3;clear c3;simp only [Option.some.injEq,Prod.mk.injEq] at H;obtain ⟨rfl,rfl⟩:=H;obtain ⟨Ao9,co9,BZ⟩:=Kd.Ic Wf.out;subst BZ;go_wp2;go_ret;exact ⟨by first|rfl|(simp [Xa,Wa] <;> rfl)|(simp [*,Xa,Wa] <;> rfl),by (with_reducible repeat (first|apply Kd.Ea|apply Kd.Da|apply Kd.Ga));exact Wf.out,by repeat (first|(with_reducible first|exact HB.out|apply ua|apply ga|apply Aa)|exact HB.out),by repeat (first|(with_reducible first|exact HK.out|apply Kept.alloc|apply Kept.drewN|apply Kept.drew)|exact HK.out)⟩
def Jc.l0:Nat→List (Wc)→Int→Int→Option (Int × (List (Wc)))
 | 0,_,_,_=>none
 | k + 1,x0,x1,x5=>if x5 < (x0.length:Int) then (if 0 ≤ x5 then ((some (x0.set (x5:Int).toNat (⟨x1,(ta x0 x5).f1,(ta x0 x5).f2,(ta x0 x5).f3,(ta x0 x5).f4⟩:Wc):List (Wc))).bind fun xh=>((some (xh.set (x5:Int).toNat (⟨(ta xh x5).f0,wrap64 (x1 + 1),(ta xh x5).f2,(ta xh x5).f3,(ta xh x5).f4⟩:Wc):List (Wc))).bind fun Dh=>((some (Dh.set (x5:Int).toNat (⟨(ta Dh x5).f0,(ta Dh x5).f1,wrap64 ((wrap64 (x1 + 1)) + 1),(ta Dh x5).f3,(ta Dh x5).f4⟩:Wc):List (Wc))).bind fun Tf=>((some (Tf.set (x5:Int).toNat (⟨(ta Tf x5).f0,(ta Tf x5).f1,(ta Tf x5).f2,wrap64 ((wrap64 ((wrap64 (x1 + 1)) + 1)) + 1),(ta Tf x5).f4⟩:Wc):List (Wc))).bind fun Bf=>(Jc.l0 k (Bf.set (x5:Int).toNat (⟨(ta Bf x5).f0,(ta Bf x5).f1,(ta Bf x5).f2,(ta Bf x5).f3,wrap64 ((wrap64 ((wrap64 ((wrap64 (x1 + 1)) + 1)) + 1)) + 1)⟩:Wc)) (wrap64 ((wrap64 ((wrap64 ((wrap64 ((wrap64 (x1 + 1)) + 1)) + 1)) + 1)) + 1)) (wrap64 (x5 + 1))))))) else (none)) else (some (x1,x0))
def Jc.f (k:Nat) (l0:List (Wc)) (a1:Int):Option (Int × (List (Wc))):=Jc.l0 k l0 a1 0
theorem Jc.calls (k:Nat) (pn:Nat→Prop) (Eh:Value) (l0:List (Wc)) (a1:Int) (r1:Int) (r2:List (Wc)) (w0 w:World) (hB:Below w0.heap.size w0 w) (zi:Kd.R bg 67 w w0.heap.size pn Eh l0) (h:Jc.f k l0 a1=some (r1,r2)) :
  Calls Try.prog 61 #[Eh,.int .i64 a1] w fun e w'=>e = .returned (.int .i64 r1)∧Kd.R bg 67 w' w0.heap.size (fun k_=>(pn k_ ∨ w.heap.size ≤ k_)) Eh r2∧Below w0.heap.size w0 w'∧Kept w w' (fun k_=>pn k_):=by
 have O6:=aa.mk (show Kd.R bg 67 w w0.heap.size (fun k_=>(pn k_ ∨ w.heap.size ≤ k_)) Eh l0 from Kd.jb zi (fun k_ hk=>(.inl hk)));have HK:=aa.mk (Kept.refl w (fun k_=>pn k_));have HW0:=aa.mk hB.size;have HB:=aa.mk hB;clear hB;have H:(Jc.l0 k l0 a1 0)=some (r1,r2):=h;clear h;have H':=aa.mk H;clear H;go_enter Try.func61,Try.ntmps61;go_wp2
 go_loopg [1,5] k (fun kq v1 v5 w'=>∃ (Gf:List (Wc)) (qe:Int) (Pa:Int),v1 = .int .i64 qe∧v5 = .int .i64 Pa∧aa (Jc.l0 kq Gf qe Pa=some (r1,r2))∧aa (kq ≤ k)∧aa (Kd.R bg 67 w' w0.heap.size (fun k_=>(pn k_ ∨ w.heap.size ≤ k_)) Eh Gf)∧aa (Kept w w' (fun k_=>pn k_))∧aa (Below w0.heap.size w0 w'))
 case atStart=>exact ⟨(l0),(a1),(0),(by first|rfl|(simp;done)|(simp [*];done)),(by first|rfl|(simp;done)|(simp [*];done)),H',⟨Nat.le_refl _⟩,⟨by (with_reducible repeat (first|apply Kd.Ea|apply Kd.Da|apply Kd.Ga));exact O6.out⟩,⟨by repeat (first|(with_reducible first|exact HK.out|apply Kept.alloc|apply Kept.drewN|apply Kept.drew)|exact HK.out)⟩,⟨by repeat (first|(with_reducible first|exact HB.out|apply ua|apply ga|apply Aa)|exact HB.out)⟩⟩
 case round =>
  clear H'
  try clear p2
  (try clear HA);(try clear si);(try clear Wf);(try clear HK);(try clear HB);obtain ⟨Gf,qe,Pa,rfl,rfl,HA,si,Wf,HK,HB⟩:=hrel;cases gk with
  | zero=>exact absurd HA.out (by simp [Jc.l0])
  | succ k1 =>
   have H:=HA.out;clear HA;simp only [Jc.l0] at H
   by_cases c3:Pa < (Gf.length:Int)
   ·rw [if_pos c3] at H;have qj:decide (Pa < (Gf.length:Int))=true:=decide_eq_true c3;clear c3
    by_cases c4:0 ≤ Pa
    ·rw [if_pos c4] at H;have qm:decide (0 ≤ Pa)=true:=decide_eq_true c4;clear c4;obtain ⟨xh,Ei⟩:∃ y_:List (Wc),y_=(Gf.set (Pa:Int).toNat (⟨qe,(ta Gf Pa).f1,(ta Gf Pa).f2,(ta Gf Pa).f3,(ta Gf Pa).f4⟩:Wc)):=⟨_,rfl⟩;replace H:((some (xh.set (Pa:Int).toNat (⟨(ta xh Pa).f0,wrap64 (qe + 1),(ta xh Pa).f2,(ta xh Pa).f3,(ta xh Pa).f4⟩:Wc):List (Wc))).bind fun Dh=>((some (Dh.set (Pa:Int).toNat (⟨(ta Dh Pa).f0,(ta Dh Pa).f1,wrap64 ((wrap64 (qe + 1)) + 1),(ta Dh Pa).f3,(ta Dh Pa).f4⟩:Wc):List (Wc))).bind fun Tf=>((some (Tf.set (Pa:Int).toNat (⟨(ta Tf Pa).f0,(ta Tf Pa).f1,(ta Tf Pa).f2,wrap64 ((wrap64 ((wrap64 (qe + 1)) + 1)) + 1),(ta Tf Pa).f4⟩:Wc):List (Wc))).bind fun Bf=>(Jc.l0 k1 (Bf.set (Pa:Int).toNat (⟨(ta Bf Pa).f0,(ta Bf Pa).f1,(ta Bf Pa).f2,(ta Bf Pa).f3,wrap64 ((wrap64 ((wrap64 ((wrap64 (qe + 1)) + 1)) + 1)) + 1)⟩:Wc)) (wrap64 ((wrap64 ((wrap64 ((wrap64 ((wrap64 (qe + 1)) + 1)) + 1)) + 1)) + 1)) (wrap64 (Pa + 1))))))=some (r1,r2):=by first|(rw [Ei];with_reducible exact H)|(have Cf:=(Option.bind_some _ _).symm.trans H;rw [Ei];with_reducible exact Cf)|(have Cf:=(Option.bind_some _ _).symm.trans H;with_reducible exact Cf)|with_reducible exact H|(rw [Ei];exact H)|exact H
     have ur:=aa.mk Ei;clear Ei;obtain ⟨Dh,Tn⟩:∃ y_:List (Wc),y_=(xh.set (Pa:Int).toNat (⟨(ta xh Pa).f0,wrap64 (qe + 1),(ta xh Pa).f2,(ta xh Pa).f3,(ta xh Pa).f4⟩:Wc)):=⟨_,rfl⟩;replace H:((some (Dh.set (Pa:Int).toNat (⟨(ta Dh Pa).f0,(ta Dh Pa).f1,wrap64 ((wrap64 (qe + 1)) + 1),(ta Dh Pa).f3,(ta Dh Pa).f4⟩:Wc):List (Wc))).bind fun Tf=>((some (Tf.set (Pa:Int).toNat (⟨(ta Tf Pa).f0,(ta Tf Pa).f1,(ta Tf Pa).f2,wrap64 ((wrap64 ((wrap64 (qe + 1)) + 1)) + 1),(ta Tf Pa).f4⟩:Wc):List (Wc))).bind fun Bf=>(Jc.l0 k1 (Bf.set (Pa:Int).toNat (⟨(ta Bf Pa).f0,(ta Bf Pa).f1,(ta Bf Pa).f2,(ta Bf Pa).f3,wrap64 ((wrap64 ((wrap64 ((wrap64 (qe + 1)) + 1)) + 1)) + 1)⟩:Wc)) (wrap64 ((wrap64 ((wrap64 ((wrap64 ((wrap64 (qe + 1)) + 1)) + 1)) + 1)) + 1)) (wrap64 (Pa + 1)))))=some (r1,r2):=by first|(rw [Tn];with_reducible exact H)|(have Cf:=(Option.bind_some _ _).symm.trans H;rw [Tn];with_reducible exact Cf)|(have Cf:=(Option.bind_some _ _).symm.trans H;with_reducible exact Cf)|with_reducible exact H|(rw [Tn];exact H)|exact H
     have SC:=aa.mk Tn;clear Tn;obtain ⟨Tf,Sn⟩:∃ y_:List (Wc),y_=(Dh.set (Pa:Int).toNat (⟨(ta Dh Pa).f0,(ta Dh Pa).f1,wrap64 ((wrap64 (qe + 1)) + 1),(ta Dh Pa).f3,(ta Dh Pa).f4⟩:Wc)):=⟨_,rfl⟩;replace H:((some (Tf.set (Pa:Int).toNat (⟨(ta Tf Pa).f0,(ta Tf Pa).f1,(ta Tf Pa).f2,wrap64 ((wrap64 ((wrap64 (qe + 1)) + 1)) + 1),(ta Tf Pa).f4⟩:Wc):List (Wc))).bind fun Bf=>(Jc.l0 k1 (Bf.set (Pa:Int).toNat (⟨(ta Bf Pa).f0,(ta Bf Pa).f1,(ta Bf Pa).f2,(ta Bf Pa).f3,wrap64 ((wrap64 ((wrap64 ((wrap64 (qe + 1)) + 1)) + 1)) + 1)⟩:Wc)) (wrap64 ((wrap64 ((wrap64 ((wrap64 ((wrap64 (qe + 1)) + 1)) + 1)) + 1)) + 1)) (wrap64 (Pa + 1))))=some (r1,r2):=by first|(rw [Sn];with_reducible exact H)|(have Cf:=(Option.bind_some _ _).symm.trans H;rw [Sn];with_reducible exact Cf)|(have Cf:=(Option.bind_some _ _).symm.trans H;with_reducible exact Cf)|with_reducible exact H|(rw [Sn];exact H)|exact H
     have RC:=aa.mk Sn;clear Sn;obtain ⟨Bf,Rn⟩:∃ y_:List (Wc),y_=(Tf.set (Pa:Int).toNat (⟨(ta Tf Pa).f0,(ta Tf Pa).f1,(ta Tf Pa).f2,wrap64 ((wrap64 ((wrap64 (qe + 1)) + 1)) + 1),(ta Tf Pa).f4⟩:Wc)):=⟨_,rfl⟩;replace H:(Jc.l0 k1 (Bf.set (Pa:Int).toNat (⟨(ta Bf Pa).f0,(ta Bf Pa).f1,(ta Bf Pa).f2,(ta Bf Pa).f3,wrap64 ((wrap64 ((wrap64 ((wrap64 (qe + 1)) + 1)) + 1)) + 1)⟩:Wc)) (wrap64 ((wrap64 ((wrap64 ((wrap64 ((wrap64 (qe + 1)) + 1)) + 1)) + 1)) + 1)) (wrap64 (Pa + 1)))=some (r1,r2):=by first|(rw [Rn];with_reducible exact H)|(have Cf:=(Option.bind_some _ _).symm.trans H;rw [Rn];with_reducible exact Cf)|(have Cf:=(Option.bind_some _ _).symm.trans H;with_reducible exact Cf)|with_reducible exact H|(rw [Rn];exact H)|exact H
     have QC:=aa.mk Rn;clear Rn;obtain ⟨Nz,Qn⟩:∃ y_:List (Wc),y_=(Bf.set (Pa:Int).toNat (⟨(ta Bf Pa).f0,(ta Bf Pa).f1,(ta Bf Pa).f2,(ta Bf Pa).f3,wrap64 ((wrap64 ((wrap64 ((wrap64 (qe + 1)) + 1)) + 1)) + 1)⟩:Wc)):=⟨_,rfl⟩;replace H:(Jc.l0 k1 Nz (wrap64 ((wrap64 ((wrap64 ((wrap64 ((wrap64 (qe + 1)) + 1)) + 1)) + 1)) + 1)) (wrap64 (Pa + 1)))=some (r1,r2):=by first|(rw [Qn];with_reducible exact H)|(have Cf:=(Option.bind_some _ _).symm.trans H;rw [Qn];with_reducible exact Cf)|(have Cf:=(Option.bind_some _ _).symm.trans H;with_reducible exact Cf)|with_reducible exact H|(rw [Qn];exact H)|exact H
     have zH:=aa.mk Qn;clear Qn;have H':=aa.mk H;clear H;obtain ⟨OL,jo,ED⟩:=Kd.Ic Wf.out;subst ED;have p5:0 ≤ (Pa:Int):=of_decide_eq_true (by first|(with_reducible assumption)|assumption);have q5:(Pa:Int) < ((Gf.length:Int):Int):=of_decide_eq_true (by first|(with_reducible assumption)|assumption);obtain ⟨Sh,yM,yO,kT,u5,cl5,iN⟩:=Kd.Kp Wf.out (by omega);(first|cases yO|(injection yO with ir ZG aH;(first|subst ir|(injection ir with ir;subst ir));subst aH;clear ZG));have AP:=aa.mk kT;have GG5:=aa.mk iN;clear kT u5 iN;have OU:=aa.mk (show (pn Sh ∨ w.heap.size ≤ Sh) from (Wf.out.1 _ rfl));obtain ⟨ce5,n5,hM5,yD,tD⟩:=Kd.Uh Wf.out Sm (Pa:Int) p5 q5;obtain rfl:=jf hM5;have HQ:wr.cell? ⟨Sh,(Pa:Int).toNat * 5,none⟩=some (.int .i64 ((ta Gf Pa).f0)):=yD 0 _ rfl;have j8:wr.cell? ⟨Sh,(Pa:Int).toNat * 5 + 1,none⟩=some (.int .i64 ((ta Gf Pa).f1)):=yD 1 _ rfl;have Z7:wr.cell? ⟨Sh,(Pa:Int).toNat * 5 + 2,none⟩=some (.int .i64 ((ta Gf Pa).f2)):=yD 2 _ rfl;have Y7:wr.cell? ⟨Sh,(Pa:Int).toNat * 5 + 3,none⟩=some (.int .i64 ((ta Gf Pa).f3)):=yD 3 _ rfl;have X7:wr.cell? ⟨Sh,(Pa:Int).toNat * 5 + 4,none⟩=some (.int .i64 ((ta Gf Pa).f4)):=yD 4 _ rfl;have mS:wr.frozen? ⟨Sh,(Pa:Int).toNat * 5,none⟩=false:=tD 0;have V_:wr.frozen? ⟨Sh,(Pa:Int).toNat * 5 + 1,none⟩=false:=tD 1;have U_:wr.frozen? ⟨Sh,(Pa:Int).toNat * 5 + 2,none⟩=false:=tD 2;have T_:wr.frozen? ⟨Sh,(Pa:Int).toNat * 5 + 3,none⟩=false:=tD 3;have S_:wr.frozen? ⟨Sh,(Pa:Int).toNat * 5 + 4,none⟩=false:=tD 4;clear n5 yD tD hM5;replace p5:=eq_true p5;replace q5:=eq_true q5;have Yo:=aa.mk (show Kd.R bg 67 wr w0.heap.size (fun k_=>(pn k_ ∨ w.heap.size ≤ k_)) (.slice (some ⟨Sh,0,none⟩) Gf.length jo) Gf from (by (with_reducible repeat (first|apply Kd.Ea|apply Kd.Da|apply Kd.Ga));exact Wf.out));obtain ⟨wac,oM,eT,NG,iM⟩:=Kd.Uh Yo.out Sm (Pa:Int) (of_decide_eq_true (by first|(with_reducible assumption)|assumption)) (by have h_:(Pa:Int) < ((Gf.length:Int):Int):=of_decide_eq_true (by first|(with_reducible assumption)|assumption);first|exact h_|(have e_:=(Kd.Jb Wf.out).1;omega)|simpa using h_);obtain rfl:=jf eT;have Ar:=Kd.Dp Yo.out (Pa:Int) (of_decide_eq_true (by first|(with_reducible assumption)|assumption)) (by have h_:(Pa:Int) < ((Gf.length:Int):Int):=of_decide_eq_true (by first|(with_reducible assumption)|assumption);first|exact h_|(have e_:=(Kd.Jb Wf.out).1;omega)|simpa using h_) (seg:=[.int .i64 qe]) (j:=0) oM NG (show 1 ≤ 5 from by decide) (x':=(⟨qe,(ta Gf Pa).f1,(ta Gf Pa).f2,(ta Gf Pa).f3,(ta Gf Pa).f4⟩:Wc)) (Ag _ _ _ (⟨qe,(ta Gf Pa).f1,(ta Gf Pa).f2,(ta Gf Pa).f3,(ta Gf Pa).f4⟩:Wc) ) (fun _ hk=>hk);have ZN:=NG 0 _ rfl;(try simp only [show (bg).sz=5 from rfl,Nat.mul_one,Nat.add_zero] at ZN);have sO:=iM 0;(try simp only [show (bg).sz=5 from rfl,Nat.mul_one,Nat.add_zero] at sO);clear oM NG iM eT;go_wp2_with (first|((with_reducible refine qh (t:=3) (p:=16) rfl ?_);refine Dg (t:=3) (p:=16) (v:=?u0) (w1:=(wr.setCell ⟨Sh,(Pa:Int).toNat * 5,none⟩ (.int .i64 qe))) ?hg ?ho ?hn ?hr ?_;(case ho=>rfl);(case hg=>rfl);(case hn=>rfl);(case hr=>first|(go_simp;done)|(go_simp;rfl));intro wm hw;have hg:wr.grownBy wm (some Sh):=(by rw [hw];exact Ar.2);have Aq:Kd.R bg 67 wm w0.heap.size (fun k_=>(pn k_ ∨ w.heap.size ≤ k_)) (.slice (some ⟨Sh,0,none⟩) Gf.length jo) xh:=(by rw [hw,ur.out];exact Ar.1);clear Ar;have Ub:=aa.mk (Aq);have Wb:=aa.mk ((by rw [hw];exact ja (HB.out) AP.out:Below w0.heap.size w0 wm));have ic:=aa.mk (Kept.Fj (S:=(fun k_=>pn k_)) hg (by repeat (first|(with_reducible first|exact HK.out|apply Kept.alloc|apply Kept.drewN|apply Kept.drew)|exact HK.out)) (fun k_ e_=>(Wf.out.1 k_ e_)));clear Wf HB HK;have Wf:=Ub;have HB:=Wb;have HK:=ic;clear Ub Wb ic hg hw Aq;have p6:0 ≤ (Pa:Int):=of_decide_eq_true (by first|(with_reducible assumption)|assumption);have q6:(Pa:Int) < ((Gf.length:Int):Int):=of_decide_eq_true (by first|(with_reducible assumption)|assumption);obtain ⟨ce6,l5,hM6,xD,sD⟩:=Kd.Uh Wf.out Sm (Pa:Int) p6 q6;obtain rfl:=jf hM6;have V7:wm.cell? ⟨Sh,(Pa:Int).toNat * 5,none⟩=some (.int .i64 ((ta xh Pa).f0)):=xD 0 _ rfl;have U7:wm.cell? ⟨Sh,(Pa:Int).toNat * 5 + 1,none⟩=some (.int .i64 ((ta xh Pa).f1)):=xD 1 _ rfl;have T7:wm.cell? ⟨Sh,(Pa:Int).toNat * 5 + 2,none⟩=some (.int .i64 ((ta xh Pa).f2)):=xD 2 _ rfl;have S7:wm.cell? ⟨Sh,(Pa:Int).toNat * 5 + 3,none⟩=some (.int .i64 ((ta xh Pa).f3)):=xD 3 _ rfl;have R7:wm.cell? ⟨Sh,(Pa:Int).toNat * 5 + 4,none⟩=some (.int .i64 ((ta xh Pa).f4)):=xD 4 _ rfl;have R_:wm.frozen? ⟨Sh,(Pa:Int).toNat * 5,none⟩=false:=sD 0;have Q_:wm.frozen? ⟨Sh,(Pa:Int).toNat * 5 + 1,none⟩=false:=sD 1;have P_:wm.frozen? ⟨Sh,(Pa:Int).toNat * 5 + 2,none⟩=false:=sD 2;have O_:wm.frozen? ⟨Sh,(Pa:Int).toNat * 5 + 3,none⟩=false:=sD 3;have N_:wm.frozen? ⟨Sh,(Pa:Int).toNat * 5 + 4,none⟩=false:=sD 4;clear l5 xD sD hM6;replace p6:=eq_true p6;replace q6:=eq_true q6;have BU:=aa.mk (show Kd.R bg 67 wm w0.heap.size (fun k_=>(pn k_ ∨ w.heap.size ≤ k_)) (.slice (some ⟨Sh,0,none⟩) Gf.length jo) xh from (by (with_reducible repeat (first|apply Kd.Ea|apply Kd.Da|apply Kd.Ga));exact Wf.out));obtain ⟨uac,mM,bT,MG,gM⟩:=Kd.Uh BU.out Sm (Pa:Int) (of_decide_eq_true (by first|(with_reducible assumption)|assumption)) (by have h_:(Pa:Int) < ((Gf.length:Int):Int):=of_decide_eq_true (by first|(with_reducible assumption)|assumption);first|exact h_|(have e_:=(Kd.Jb Wf.out).1;omega)|simpa using h_);obtain rfl:=jf bT;have Ml:=Kd.Dp BU.out (Pa:Int) (of_decide_eq_true (by first|(with_reducible assumption)|assumption)) (by have h_:(Pa:Int) < ((Gf.length:Int):Int):=of_decide_eq_true (by first|(with_reducible assumption)|assumption);first|exact h_|(have e_:=(Kd.Jb Wf.out).1;omega)|simpa using h_) (seg:=[.int .i64 (wrap64 (qe + 1))]) (j:=1) mM MG (show 2 ≤ 5 from by decide) (x':=(⟨(ta xh Pa).f0,wrap64 (qe + 1),(ta xh Pa).f2,(ta xh Pa).f3,(ta xh Pa).f4⟩:Wc)) (Ag _ _ _ (⟨(ta xh Pa).f0,wrap64 (qe + 1),(ta xh Pa).f2,(ta xh Pa).f3,(ta xh Pa).f4⟩:Wc) ) (fun _ hk=>hk);have TN:=MG 1 _ rfl;(try simp only [show (bg).sz=5 from rfl,Nat.mul_one,Nat.add_zero] at TN);have mO:=gM 1;(try simp only [show (bg).sz=5 from rfl,Nat.mul_one,Nat.add_zero] at mO);clear mM MG gM bT)|((with_reducible refine qh (t:=3) (p:=23) rfl ?_);refine Dg (t:=3) (p:=23) (v:=?YZ) (w1:=(wm.setCell ⟨Sh,(Pa:Int).toNat * 5 + 1,none⟩ (.int .i64 (wrap64 (qe + 1))))) ?hg ?ho ?hn ?hr ?_;(case ho=>rfl);(case hg=>rfl);(case hn=>rfl);(case hr=>first|(go_simp;done)|(go_simp;rfl));intro Ep hw;have hg:wm.grownBy Ep (some Sh):=(by rw [hw];exact Ml.2);have Aq:Kd.R bg 67 Ep w0.heap.size (fun k_=>(pn k_ ∨ w.heap.size ≤ k_)) (.slice (some ⟨Sh,0,none⟩) Gf.length jo) Dh:=(by rw [hw,SC.out];exact Ml.1);clear Ml;have Ub:=aa.mk (Aq);have Wb:=aa.mk ((by rw [hw];exact ja (HB.out) AP.out:Below w0.heap.size w0 Ep));have ic:=aa.mk (Kept.Fj (S:=(fun k_=>pn k_)) hg (by repeat (first|(with_reducible first|exact HK.out|apply Kept.alloc|apply Kept.drewN|apply Kept.drew)|exact HK.out)) (fun k_ e_=>(Wf.out.1 k_ e_)));clear Wf HB HK;have Wf:=Ub;have HB:=Wb;have HK:=ic;clear Ub Wb ic hg hw Aq;have p7:0 ≤ (Pa:Int):=of_decide_eq_true (by first|(with_reducible assumption)|assumption);have q7:(Pa:Int) < ((Gf.length:Int):Int):=of_decide_eq_true (by first|(with_reducible assumption)|assumption);obtain ⟨ce7,k5,hM7,wD,rD⟩:=Kd.Uh Wf.out Sm (Pa:Int) p7 q7;obtain rfl:=jf hM7;have Q7:Ep.cell? ⟨Sh,(Pa:Int).toNat * 5,none⟩=some (.int .i64 ((ta Dh Pa).f0)):=wD 0 _ rfl;have P7:Ep.cell? ⟨Sh,(Pa:Int).toNat * 5 + 1,none⟩=some (.int .i64 ((ta Dh Pa).f1)):=wD 1 _ rfl;have O7:Ep.cell? ⟨Sh,(Pa:Int).toNat * 5 + 2,none⟩=some (.int .i64 ((ta Dh Pa).f2)):=wD 2 _ rfl;have N7:Ep.cell? ⟨Sh,(Pa:Int).toNat * 5 + 3,none⟩=some (.int .i64 ((ta Dh Pa).f3)):=wD 3 _ rfl;have M7:Ep.cell? ⟨Sh,(Pa:Int).toNat * 5 + 4,none⟩=some (.int .i64 ((ta Dh Pa).f4)):=wD 4 _ rfl;have M_:Ep.frozen? ⟨Sh,(Pa:Int).toNat * 5,none⟩=false:=rD 0;have L_:Ep.frozen? ⟨Sh,(Pa:Int).toNat * 5 + 1,none⟩=false:=rD 1;have K_:Ep.frozen? ⟨Sh,(Pa:Int).toNat * 5 + 2,none⟩=false:=rD 2;have J_:Ep.frozen? ⟨Sh,(Pa:Int).toNat * 5 + 3,none⟩=false:=rD 3;have I_:Ep.frozen? ⟨Sh,(Pa:Int).toNat * 5 + 4,none⟩=false:=rD 4;clear k5 wD rD hM7;replace p7:=eq_true p7;replace q7:=eq_true q7;have AU:=aa.mk (show Kd.R bg 67 Ep w0.heap.size (fun k_=>(pn k_ ∨ w.heap.size ≤ k_)) (.slice (some ⟨Sh,0,none⟩) Gf.length jo) Dh from (by (with_reducible repeat (first|apply Kd.Ea|apply Kd.Da|apply Kd.Ga));exact Wf.out));obtain ⟨sac,lM,aT,LG,fM⟩:=Kd.Uh AU.out Sm (Pa:Int) (of_decide_eq_true (by first|(with_reducible assumption)|assumption)) (by have h_:(Pa:Int) < ((Gf.length:Int):Int):=of_decide_eq_true (by first|(with_reducible assumption)|assumption);first|exact h_|(have e_:=(Kd.Jb Wf.out).1;omega)|simpa using h_);obtain rfl:=jf aT;have sP:=Kd.Dp AU.out (Pa:Int) (of_decide_eq_true (by first|(with_reducible assumption)|assumption)) (by have h_:(Pa:Int) < ((Gf.length:Int):Int):=of_decide_eq_true (by first|(with_reducible assumption)|assumption);first|exact h_|(have e_:=(Kd.Jb Wf.out).1;omega)|simpa using h_) (seg:=[.int .i64 (wrap64 ((wrap64 (qe + 1)) + 1))]) (j:=2) lM LG (show 3 ≤ 5 from by decide) (x':=(⟨(ta Dh Pa).f0,(ta Dh Pa).f1,wrap64 ((wrap64 (qe + 1)) + 1),(ta Dh Pa).f3,(ta Dh Pa).f4⟩:Wc)) (Ag _ _ _ (⟨(ta Dh Pa).f0,(ta Dh Pa).f1,wrap64 ((wrap64 (qe + 1)) + 1),(ta Dh Pa).f3,(ta Dh Pa).f4⟩:Wc) ) (fun _ hk=>hk);have SN:=LG 2 _ rfl;(try simp only [show (bg).sz=5 from rfl,Nat.mul_one,Nat.add_zero] at SN);have kO:=fM 2;(try simp only [show (bg).sz=5 from rfl,Nat.mul_one,Nat.add_zero] at kO);clear lM LG fM aT)|((with_reducible refine qh (t:=3) (p:=30) rfl ?_);refine Dg (t:=3) (p:=30) (v:=?XZ) (w1:=(Ep.setCell ⟨Sh,(Pa:Int).toNat * 5 + 2,none⟩ (.int .i64 (wrap64 ((wrap64 (qe + 1)) + 1))))) ?hg ?ho ?hn ?hr ?_;(case ho=>rfl);(case hg=>rfl);(case hn=>rfl);(case hr=>first|(go_simp;done)|(go_simp;rfl));intro qo hw;have hg:Ep.grownBy qo (some Sh):=(by rw [hw];exact sP.2);have Aq:Kd.R bg 67 qo w0.heap.size (fun k_=>(pn k_ ∨ w.heap.size ≤ k_)) (.slice (some ⟨Sh,0,none⟩) Gf.length jo) Tf:=(by rw [hw,RC.out];exact sP.1);clear sP;have Ub:=aa.mk (Aq);have Wb:=aa.mk ((by rw [hw];exact ja (HB.out) AP.out:Below w0.heap.size w0 qo));have ic:=aa.mk (Kept.Fj (S:=(fun k_=>pn k_)) hg (by repeat (first|(with_reducible first|exact HK.out|apply Kept.alloc|apply Kept.drewN|apply Kept.drew)|exact HK.out)) (fun k_ e_=>(Wf.out.1 k_ e_)));clear Wf HB HK;have Wf:=Ub;have HB:=Wb;have HK:=ic;clear Ub Wb ic hg hw Aq;have p8:0 ≤ (Pa:Int):=of_decide_eq_true (by first|(with_reducible assumption)|assumption);have q8:(Pa:Int) < ((Gf.length:Int):Int):=of_decide_eq_true (by first|(with_reducible assumption)|assumption);obtain ⟨ce8,j5,hM8,vD,qD⟩:=Kd.Uh Wf.out Sm (Pa:Int) p8 q8;obtain rfl:=jf hM8;have L7:qo.cell? ⟨Sh,(Pa:Int).toNat * 5,none⟩=some (.int .i64 ((ta Tf Pa).f0)):=vD 0 _ rfl;have K7:qo.cell? ⟨Sh,(Pa:Int).toNat * 5 + 1,none⟩=some (.int .i64 ((ta Tf Pa).f1)):=vD 1 _ rfl;have J7:qo.cell? ⟨Sh,(Pa:Int).toNat * 5 + 2,none⟩=some (.int .i64 ((ta Tf Pa).f2)):=vD 2 _ rfl;have I7:qo.cell? ⟨Sh,(Pa:Int).toNat * 5 + 3,none⟩=some (.int .i64 ((ta Tf Pa).f3)):=vD 3 _ rfl;have H7:qo.cell? ⟨Sh,(Pa:Int).toNat * 5 + 4,none⟩=some (.int .i64 ((ta Tf Pa).f4)):=vD 4 _ rfl;have H_:qo.frozen? ⟨Sh,(Pa:Int).toNat * 5,none⟩=false:=qD 0;have G_:qo.frozen? ⟨Sh,(Pa:Int).toNat * 5 + 1,none⟩=false:=qD 1;have F_:qo.frozen? ⟨Sh,(Pa:Int).toNat * 5 + 2,none⟩=false:=qD 2;have E_:qo.frozen? ⟨Sh,(Pa:Int).toNat * 5 + 3,none⟩=false:=qD 3;have D_:qo.frozen? ⟨Sh,(Pa:Int).toNat * 5 + 4,none⟩=false:=qD 4;clear j5 vD qD hM8;replace p8:=eq_true p8;replace q8:=eq_true q8;have zU:=aa.mk (show Kd.R bg 67 qo w0.heap.size (fun k_=>(pn k_ ∨ w.heap.size ≤ k_)) (.slice (some ⟨Sh,0,none⟩) Gf.length jo) Tf from (by (with_reducible repeat (first|apply Kd.Ea|apply Kd.Da|apply Kd.Ga));exact Wf.out));obtain ⟨rac,kM,ZS,KG,eM⟩:=Kd.Uh zU.out Sm (Pa:Int) (of_decide_eq_true (by first|(with_reducible assumption)|assumption)) (by have h_:(Pa:Int) < ((Gf.length:Int):Int):=of_decide_eq_true (by first|(with_reducible assumption)|assumption);first|exact h_|(have e_:=(Kd.Jb Wf.out).1;omega)|simpa using h_);obtain rfl:=jf ZS;have rP:=Kd.Dp zU.out (Pa:Int) (of_decide_eq_true (by first|(with_reducible assumption)|assumption)) (by have h_:(Pa:Int) < ((Gf.length:Int):Int):=of_decide_eq_true (by first|(with_reducible assumption)|assumption);first|exact h_|(have e_:=(Kd.Jb Wf.out).1;omega)|simpa using h_) (seg:=[.int .i64 (wrap64 ((wrap64 ((wrap64 (qe + 1)) + 1)) + 1))]) (j:=3) kM KG (show 4 ≤ 5 from by decide) (x':=(⟨(ta Tf Pa).f0,(ta Tf Pa).f1,(ta Tf Pa).f2,wrap64 ((wrap64 ((wrap64 (qe + 1)) + 1)) + 1),(ta Tf Pa).f4⟩:Wc)) (Ag _ _ _ (⟨(ta Tf Pa).f0,(ta Tf Pa).f1,(ta Tf Pa).f2,wrap64 ((wrap64 ((wrap64 (qe + 1)) + 1)) + 1),(ta Tf Pa).f4⟩:Wc) ) (fun _ hk=>hk);have RN:=KG 3 _ rfl;(try simp only [show (bg).sz=5 from rfl,Nat.mul_one,Nat.add_zero] at RN);have jO:=eM 3;(try simp only [show (bg).sz=5 from rfl,Nat.mul_one,Nat.add_zero] at jO);clear kM KG eM ZS)|((with_reducible refine qh (t:=3) (p:=37) rfl ?_);refine Dg (t:=3) (p:=37) (v:=?WZ) (w1:=(qo.setCell ⟨Sh,(Pa:Int).toNat * 5 + 3,none⟩ (.int .i64 (wrap64 ((wrap64 ((wrap64 (qe + 1)) + 1)) + 1))))) ?hg ?ho ?hn ?hr ?_;(case ho=>rfl);(case hg=>rfl);(case hn=>rfl);(case hr=>first|(go_simp;done)|(go_simp;rfl));intro Wu hw;have hg:qo.grownBy Wu (some Sh):=(by rw [hw];exact rP.2);have Aq:Kd.R bg 67 Wu w0.heap.size (fun k_=>(pn k_ ∨ w.heap.size ≤ k_)) (.slice (some ⟨Sh,0,none⟩) Gf.length jo) Bf:=(by rw [hw,QC.out];exact rP.1);clear rP;have Ub:=aa.mk (Aq);have Wb:=aa.mk ((by rw [hw];exact ja (HB.out) AP.out:Below w0.heap.size w0 Wu));have ic:=aa.mk (Kept.Fj (S:=(fun k_=>pn k_)) hg (by repeat (first|(with_reducible first|exact HK.out|apply Kept.alloc|apply Kept.drewN|apply Kept.drew)|exact HK.out)) (fun k_ e_=>(Wf.out.1 k_ e_)));clear Wf HB HK;have Wf:=Ub;have HB:=Wb;have HK:=ic;clear Ub Wb ic hg hw Aq;have p9:0 ≤ (Pa:Int):=of_decide_eq_true (by first|(with_reducible assumption)|assumption);have q9:(Pa:Int) < ((Gf.length:Int):Int):=of_decide_eq_true (by first|(with_reducible assumption)|assumption);obtain ⟨ce9,Z4,hM9,uD,oD⟩:=Kd.Uh Wf.out Sm (Pa:Int) p9 q9;obtain rfl:=jf hM9;have GQ:Wu.cell? ⟨Sh,(Pa:Int).toNat * 5,none⟩=some (.int .i64 ((ta Bf Pa).f0)):=uD 0 _ rfl;have G7:Wu.cell? ⟨Sh,(Pa:Int).toNat * 5 + 1,none⟩=some (.int .i64 ((ta Bf Pa).f1)):=uD 1 _ rfl;have F7:Wu.cell? ⟨Sh,(Pa:Int).toNat * 5 + 2,none⟩=some (.int .i64 ((ta Bf Pa).f2)):=uD 2 _ rfl;have E7:Wu.cell? ⟨Sh,(Pa:Int).toNat * 5 + 3,none⟩=some (.int .i64 ((ta Bf Pa).f3)):=uD 3 _ rfl;have D7:Wu.cell? ⟨Sh,(Pa:Int).toNat * 5 + 4,none⟩=some (.int .i64 ((ta Bf Pa).f4)):=uD 4 _ rfl;have lS:Wu.frozen? ⟨Sh,(Pa:Int).toNat * 5,none⟩=false:=oD 0;have C_:Wu.frozen? ⟨Sh,(Pa:Int).toNat * 5 + 1,none⟩=false:=oD 1;have B_:Wu.frozen? ⟨Sh,(Pa:Int).toNat * 5 + 2,none⟩=false:=oD 2;have A_:Wu.frozen? ⟨Sh,(Pa:Int).toNat * 5 + 3,none⟩=false:=oD 3;have z_:Wu.frozen? ⟨Sh,(Pa:Int).toNat * 5 + 4,none⟩=false:=oD 4;clear Z4 uD oD hM9;replace p9:=eq_true p9;replace q9:=eq_true q9;have yU:=aa.mk (show Kd.R bg 67 Wu w0.heap.size (fun k_=>(pn k_ ∨ w.heap.size ≤ k_)) (.slice (some ⟨Sh,0,none⟩) Gf.length jo) Bf from (by (with_reducible repeat (first|apply Kd.Ea|apply Kd.Da|apply Kd.Ga));exact Wf.out));obtain ⟨qac,jM,YS,JG,dM⟩:=Kd.Uh yU.out Sm (Pa:Int) (of_decide_eq_true (by first|(with_reducible assumption)|assumption)) (by have h_:(Pa:Int) < ((Gf.length:Int):Int):=of_decide_eq_true (by first|(with_reducible assumption)|assumption);first|exact h_|(have e_:=(Kd.Jb Wf.out).1;omega)|simpa using h_);obtain rfl:=jf YS;have qP:=Kd.Dp yU.out (Pa:Int) (of_decide_eq_true (by first|(with_reducible assumption)|assumption)) (by have h_:(Pa:Int) < ((Gf.length:Int):Int):=of_decide_eq_true (by first|(with_reducible assumption)|assumption);first|exact h_|(have e_:=(Kd.Jb Wf.out).1;omega)|simpa using h_) (seg:=[.int .i64 (wrap64 ((wrap64 ((wrap64 ((wrap64 (qe + 1)) + 1)) + 1)) + 1))]) (j:=4) jM JG (show 5 ≤ 5 from by decide) (x':=(⟨(ta Bf Pa).f0,(ta Bf Pa).f1,(ta Bf Pa).f2,(ta Bf Pa).f3,wrap64 ((wrap64 ((wrap64 ((wrap64 (qe + 1)) + 1)) + 1)) + 1)⟩:Wc)) (Ag _ _ _ (⟨(ta Bf Pa).f0,(ta Bf Pa).f1,(ta Bf Pa).f2,(ta Bf Pa).f3,wrap64 ((wrap64 ((wrap64 ((wrap64 (qe + 1)) + 1)) + 1)) + 1)⟩:Wc) ) (fun _ hk=>hk);have QN:=JG 4 _ rfl;(try simp only [show (bg).sz=5 from rfl,Nat.mul_one,Nat.add_zero] at QN);have iO:=dM 4;(try simp only [show (bg).sz=5 from rfl,Nat.mul_one,Nat.add_zero] at iO);clear jM JG dM YS)|((with_reducible refine qh (t:=3) (p:=44) rfl ?_);refine Dg (t:=3) (p:=44) (v:=?VZ) (w1:=(Wu.setCell ⟨Sh,(Pa:Int).toNat * 5 + 4,none⟩ (.int .i64 (wrap64 ((wrap64 ((wrap64 ((wrap64 (qe + 1)) + 1)) + 1)) + 1))))) ?hg ?ho ?hn ?hr ?_;(case ho=>rfl);(case hg=>rfl);(case hn=>rfl);(case hr=>first|(go_simp;done)|(go_simp;rfl));intro lQ hw;have hg:Wu.grownBy lQ (some Sh):=(by rw [hw];exact qP.2);have Aq:Kd.R bg 67 lQ w0.heap.size (fun k_=>(pn k_ ∨ w.heap.size ≤ k_)) (.slice (some ⟨Sh,0,none⟩) Gf.length jo) Nz:=(by rw [hw,zH.out];exact qP.1);clear qP;have Ub:=aa.mk (Aq);have Wb:=aa.mk ((by rw [hw];exact ja (HB.out) AP.out:Below w0.heap.size w0 lQ));have ic:=aa.mk (Kept.Fj (S:=(fun k_=>pn k_)) hg (by repeat (first|(with_reducible first|exact HK.out|apply Kept.alloc|apply Kept.drewN|apply Kept.drew)|exact HK.out)) (fun k_ e_=>(Wf.out.1 k_ e_)));clear Wf HB HK;have Wf:=Ub;have HB:=Wb;have HK:=ic;clear Ub Wb ic hg hw Aq))
     go_roundg k1
     case measure=>have:=si.out;omega
     case rel=>exact ⟨(Nz),(wrap64 ((wrap64 ((wrap64 ((wrap64 ((wrap64 (qe + 1)) + 1)) + 1)) + 1)) + 1)),(wrap64 (Pa + 1)),(by first|rfl|(simp;done)|(simp [*];done)),(by first|rfl|(simp;done)|(simp [*];done)),H',⟨by have:=si.out;omega⟩,⟨by (with_reducible repeat (first|apply Kd.Ea|apply Kd.Da|apply Kd.Ga));exact Wf.out⟩,⟨by repeat (first|(with_reducible first|exact HK.out|apply Kept.alloc|apply Kept.drewN|apply Kept.drew)|exact HK.out)⟩,⟨by repeat (first|(with_reducible first|exact HB.out|apply ua|apply ga|apply Aa)|exact HB.out)⟩⟩
    ·rw [if_neg c4] at H;exact absurd H (by simp)
   ·rw [if_neg c3] at H;have qj:decide (Pa < (Gf.length:Int))=false:=decide_eq_false c3;clear c3;simp only [Option.some.injEq,Prod.mk.injEq] at H;obtain ⟨rfl,rfl⟩:=H;obtain ⟨mad,mac,j6⟩:=Kd.Ic Wf.out;subst j6;go_wp2;go_ret;exact ⟨by first|rfl|(simp [Xa,Wa] <;> rfl)|(simp [*,Xa,Wa] <;> rfl),by (with_reducible repeat (first|apply Kd.Ea|apply Kd.Da|apply Kd.Ga));exact Wf.out,by repeat (first|(with_reducible first|exact HB.out|apply ua|apply ga|apply Aa)|exact HB.out),by repeat (first|(with_reducible first|exact HK.out|apply Kept.alloc|apply Kept.drewN|apply Kept.drew)|exact HK.out)⟩
def dc.f (k:Nat) (Sa:List Int) (Qa:Int) (Ra:Int) (Ca:List (Wc)) (a1:Int):Option (Int × List Int × (List (Wc))):=(Md.f k Sa a1).bind fun yz=>((Jc.f k Ca yz.1).bind fun Zr=>(some (Zr.1,yz.2,Zr.2)))
theorem dc.calls (k:Nat) (zm:Nat→Prop) (Eh:Value) (Sa:List Int) (Qa:Int) (Ra:Int) (ym:Nat→Prop) (Xv:Value) (Ca:List (Wc)) (a1:Int) (r1:Int) (r2:List Int) (r3:List (Wc)) (w0 w:World) (hB:Below w0.heap.size w0 w) (NQ:Kd.R (Kd.int .i64) 3 w w0.heap.size zm Eh Sa) (MQ:Kd.R bg 67 w w0.heap.size ym Xv Ca) (h:dc.f k Sa Qa Ra Ca a1=some (r1,r2,r3)) :
  Calls Try.prog 19 #[.agg #[Eh,.int .i64 Qa,.int .i64 Ra,Xv],.int .i64 a1] w fun e w'=>e = .returned (.int .i64 r1)∧Kd.R (Kd.int .i64) 3 w' w0.heap.size (fun k_=>((zm k_ ∨ ym k_) ∨ w.heap.size ≤ k_)) Eh r2∧Kd.R bg 67 w' w0.heap.size (fun k_=>((zm k_ ∨ ym k_) ∨ w.heap.size ≤ k_)) Xv r3∧Below w0.heap.size w0 w'∧Kept w w' (fun k_=>zm k_ ∨ ym k_):=by
 have su:=Try.underlying30;have Ol:=aa.mk (show Kd.R (Kd.int .i64) 3 w w0.heap.size (fun k_=>((zm k_ ∨ ym k_) ∨ w.heap.size ≤ k_)) Eh Sa from Kd.jb NQ (fun k_ hk=>(.inl (.inl hk))));have Nl:=aa.mk (show Kd.R bg 67 w w0.heap.size (fun k_=>((zm k_ ∨ ym k_) ∨ w.heap.size ≤ k_)) Xv Ca from Kd.jb MQ (fun k_ hk=>(.inl (.inr hk))));have HK:=aa.mk (Kept.refl w (fun k_=>zm k_ ∨ ym k_));have HW0:=aa.mk hB.size;have HB:=aa.mk hB;clear hB;have H:((Md.f k Sa a1).bind fun yz=>((Jc.f k Ca yz.1).bind fun Zr=>(some (Zr.1,yz.2,Zr.2))))=some (r1,r2,r3):=h;clear h;replace H:=Option.bind_eq_some_iff.mp H;obtain ⟨⟨t102,t103⟩,Vu,H⟩:=H;replace H:((Jc.f k Ca t102).bind fun Zr=>(some (Zr.1,t103,Zr.2)))=some (r1,r2,r3):=H;have A3:=aa.mk Vu;clear Vu;replace H:=Option.bind_eq_some_iff.mp H;obtain ⟨⟨t104,t105⟩,ZU,H⟩:=H;replace H:(some (t104,t103,t105))=some (r1,r2,r3):=H;have A4:=aa.mk ZU;clear ZU;simp only [Option.some.injEq,Prod.mk.injEq] at H;obtain ⟨rfl,rfl,rfl⟩:=H;obtain ⟨ZP,yM,yO⟩:=Kd.Ic Ol.out;subst yO;obtain ⟨DP,xM,P5⟩:=Kd.Ic Nl.out;subst P5;go_enter Try.func19,Try.ntmps19;go_wp2_with (first|((with_reducible refine Rb (N:=2) rfl ?_);refine Pb ?hg (N:=2) ?hd (cs:=#[.slice ZP Sa.length yM,.int .i64 Qa,.int .i64 Ra,.slice DP Ca.length xM]) (t:=30) ?hr ?_;(case hd=>rfl);(case hg=>rfl);(case hr=>first|(go_simp;done)|(go_simp;rfl));intro Fa hg w7 ec hb;have Ub:=aa.mk (Kd.gb (by (with_reducible repeat (first|apply Kd.Ea|apply Kd.Da|apply Kd.Ga));exact Ol.out) hb);have Wb:=aa.mk (Kd.gb (by (with_reducible repeat (first|apply Kd.Ea|apply Kd.Da|apply Kd.Ga));exact Nl.out) hb);have ic:=aa.mk (Kept.below (S:=(fun k_=>zm k_ ∨ ym k_)) (by repeat (first|(with_reducible first|exact HK.out|apply Kept.alloc|apply Kept.drewN|apply Kept.drew)|exact HK.out)) hb);have mc:=aa.mk (Va (by repeat (first|(with_reducible first|exact HB.out|apply ua|apply ga|apply Aa)|exact HB.out)) hb);have Xc:=aa.mk (ec);have yd:=aa.mk ((by rw [hg];exact (by first|exact HK.out.1|exact (show Kept w _ (fun k_=>zm k_ ∨ ym k_) from by repeat (first|(with_reducible first|exact HK.out|apply Kept.alloc|apply Kept.drewN|apply Kept.drew)|exact HK.out)).1):w.heap.size ≤ Fa));have Gd:=aa.mk ((by rw [hg];exact (Ka (by repeat (first|(with_reducible first|exact HB.out|apply ua|apply ga|apply Aa)|exact HB.out))):w0.heap.size ≤ Fa));clear Ol Nl HK HB;have Ol:=Ub;have Nl:=Wb;have HK:=ic;have HB:=mc;have Ba:=Xc;have qg:=yd;have Ua:=Gd;clear Ub Wb ic mc Xc yd Gd hb ec hg;have CA:w7.cell? ⟨Fa,0,none⟩=some (.slice ZP Sa.length yM):=(ya Ba.out 0).trans rfl;have BA:w7.cell? ⟨Fa,1,none⟩=some (.int .i64 Qa):=(ya Ba.out 1).trans rfl;have AA:w7.cell? ⟨Fa,2,none⟩=some (.int .i64 Ra):=(ya Ba.out 2).trans rfl;have zA:w7.cell? ⟨Fa,3,none⟩=some (.slice DP Ca.length xM):=(ya Ba.out 3).trans rfl;have sA:=ia Ba.out 0;have rA:=ia Ba.out 1;have qA:=ia Ba.out 2;have oA:=ia Ba.out 3)|((with_reducible refine Xb (f:=20) rfl ?_);refine je (some 8) rfl rfl Try.func20 (by kernel_rfl) rfl #[.slice ZP Sa.length yM,.int .i64 a1] rfl (by (try simp only [List.map_toArray,List.map_cons,List.map_nil]);first|done|rfl|(simp only [List.length_drop,List.length_take];rfl)) ?_;(with_reducible refine (Md.calls k (fun k_=>some k_=(.slice ZP Sa.length yM:Value).ownBlock) (.slice ZP Sa.length yM) Sa a1 t102 t103 w0 _ ?Oc ?Nc A3.out).mono ?_);(case Oc=>repeat (first|(with_reducible first|exact HB.out|apply ua|apply ga|apply Aa|refine ja ?_ Ua.out)|exact HB.out));(case Nc=>exact Kd.Zl rfl Ol.out);rintro e w9 ⟨rfl,hy0,hb,hkp⟩;refine ⟨_,rfl,?_⟩;have Ub:=aa.mk (Kd.Nr rfl hy0 (fun k_ e_=>Ol.out.1 k_ e_));have Wb:=aa.mk (Kd.jb (Rm:=fun k_=>((zm k_ ∨ ym k_) ∨ w.heap.size ≤ k_)) (Kd.Rg ((Kd.Qf Nl.out (Kd.Dc Ol.out) (by decide))) hkp (fun k_ af hs_=>(af.2) hs_)) (fun k_ af=>af.1.1));have ic:=aa.mk (mh (by (with_reducible repeat (first|refine oa ?_ _|refine za ?_|refine qa ?_ _));exact Ba.out) hkp (fun hs_=>(fun e_=>(Kd.Ve Ol.out Ba.out (by decide)) e_) hs_));have mc:=aa.mk (Kept.zy (S:=(fun k_=>zm k_ ∨ ym k_)) (by repeat (first|(with_reducible first|exact HK.out|apply Kept.alloc|apply Kept.drewN|apply Kept.drew|refine Kept.setCell ?_ (.inr qg.out) _)|exact HK.out)) hkp (fun k_ hs_=>(fun e_=>(Ol.out.1 k_ e_.symm)) hs_));have Xc:=aa.mk (hb);clear Ol Nl Ba HK HB;have Ol:=Ub;have Nl:=Wb;have Ba:=ic;have HK:=mc;have HB:=Xc;clear Ub Wb ic mc Xc;(try clear hb);(try clear hkp);(try clear hy0);have Ek:w9.cell? ⟨Fa,0,none⟩=some (.slice ZP Sa.length yM):=(ya Ba.out 0).trans rfl;have Dk:w9.cell? ⟨Fa,1,none⟩=some (.int .i64 Qa):=(ya Ba.out 1).trans rfl;have Ck:w9.cell? ⟨Fa,2,none⟩=some (.int .i64 Ra):=(ya Ba.out 2).trans rfl;have Bk:w9.cell? ⟨Fa,3,none⟩=some (.slice DP Ca.length xM):=(ya Ba.out 3).trans rfl;have Ak:=ia Ba.out 0;have zk:=ia Ba.out 1;have xk:=ia Ba.out 2;have wk:=ia Ba.out 3)|((with_reducible refine Xb (f:=61) rfl ?_);refine je (some 12) rfl rfl Try.func61 (by kernel_rfl) rfl #[.slice DP Ca.length xM,.int .i64 t102] rfl (by (try simp only [List.map_toArray,List.map_cons,List.map_nil]);first|done|rfl|(simp only [List.length_drop,List.length_take];rfl)) ?_;(with_reducible refine (Jc.calls k (fun k_=>some k_=(.slice DP Ca.length xM:Value).ownBlock) (.slice DP Ca.length xM) Ca t102 t104 t105 w0 _ ?Oc ?Nc A4.out).mono ?_);(case Oc=>repeat (first|(with_reducible first|exact HB.out|apply ua|apply ga|apply Aa|refine ja ?_ Ua.out)|exact HB.out));(case Nc=>exact Kd.Zl rfl Nl.out);rintro e Jn ⟨rfl,hy0,hb,hkp⟩;refine ⟨_,rfl,?_⟩;have Ub:=aa.mk (Kd.jb (Rm:=fun k_=>((zm k_ ∨ ym k_) ∨ w.heap.size ≤ k_)) (Kd.Rg ((Kd.Qf Ol.out (Kd.Dc Nl.out) (by decide))) hkp (fun k_ af hs_=>(af.2) hs_)) (fun k_ af=>af.1.1));have Wb:=aa.mk (Kd.Nr rfl hy0 (fun k_ e_=>Nl.out.1 k_ e_));have ic:=aa.mk (mh (by (with_reducible repeat (first|refine oa ?_ _|refine za ?_|refine qa ?_ _));exact Ba.out) hkp (fun hs_=>(fun e_=>(Kd.Ve Nl.out Ba.out (by decide)) e_) hs_));have mc:=aa.mk (Kept.zy (S:=(fun k_=>zm k_ ∨ ym k_)) (by repeat (first|(with_reducible first|exact HK.out|apply Kept.alloc|apply Kept.drewN|apply Kept.drew|refine Kept.setCell ?_ (.inr qg.out) _)|exact HK.out)) hkp (fun k_ hs_=>(fun e_=>(Nl.out.1 k_ e_.symm)) hs_));have Xc:=aa.mk (hb);clear Ol Nl Ba HK HB;have Ol:=Ub;have Nl:=Wb;have Ba:=ic;have HK:=mc;have HB:=Xc;clear Ub Wb ic mc Xc;(try clear hb);(try clear hkp);(try clear hy0)));go_ret;exact ⟨by first|rfl|(simp [Xa,Wa] <;> rfl)|(simp [*,Xa,Wa] <;> rfl),by (with_reducible repeat (first|apply Kd.Ea|apply Kd.Da|apply Kd.Ga));exact Ol.out,by (with_reducible repeat (first|apply Kd.Ea|apply Kd.Da|apply Kd.Ga));exact Nl.out,by repeat (first|(with_reducible first|exact HB.out|apply ua|apply ga|apply Aa|refine ja ?_ Ua.out)|exact HB.out),by repeat (first|(with_reducible first|exact HK.out|apply Kept.alloc|apply Kept.drewN|apply Kept.drew|refine Kept.setCell ?_ (.inr qg.out) _)|exact HK.out)⟩
def Eb.f (a0:Int) (a1:Int) (a2:Int):Option (Bool):=if a0 ≥ a1 then (some (decide (a0 ≤ a2))) else (some false)
theorem Eb.calls (a0:Int) (a1:Int) (a2:Int) (r:Bool) (w:World) (h:Eb.f a0 a1 a2=some r) :
  Calls Try.prog 81 #[.int .i64 a0,.int .i64 a1,.int .i64 a2] w fun e w'=>e = .returned (.bool r)∧qc w w':=by
 have H:(if a0 ≥ a1 then (some (decide (a0 ≤ a2))) else (some false))=some r:=h;clear h
 by_cases c4:a0 ≥ a1
 ·rw [if_pos c4] at H;have qm:decide (a1 ≤ a0)=true:=decide_eq_true c4;clear c4;obtain rfl:=Option.some.inj H;go_enter Try.func81,Try.ntmps81;go_wp2;go_ret;exact ⟨by first|rfl|(simp;done)|(simp [*];done),by repeat (first|exact qc.refl _|apply qc.step)⟩
 ·rw [if_neg c4] at H;have qm:decide (a1 ≤ a0)=false:=decide_eq_false c4;clear c4;obtain rfl:=Option.some.inj H;go_enter Try.func81,Try.ntmps81;go_wp2;go_ret;exact ⟨by first|rfl|(simp;done)|(simp [*];done),by repeat (first|exact qc.refl _|apply qc.step)⟩
mutual
def Bb.j0:Nat→Bool→Bool→Bool→List Int→Int→Int→List (Wc)→Int→Int→Int→Int→Int→Option (Bool)
 | 0,_,_,_,_,_,_,_,_,_,_,_,_=>none
 | k + 1,x5,x6,x7,ye,Ee,De,Vb,uh,Aj,fk,Ii,bh=>if uh=0 then (if x5=true then (some x7) else (some false)) else (if uh=1 then (Bb.j1 k x5 x6 x7 uh (uh == 1) ye Ee De Vb uh Aj fk Ii bh) else (Bb.j1 k x5 x6 x7 uh (uh == 2) ye Ee De Vb uh Aj fk Ii bh))
def Bb.j1:Nat→Bool→Bool→Bool→Int→Bool→List Int→Int→Int→List (Wc)→Int→Int→Int→Int→Int→Option (Bool)
 | 0,_,_,_,_,_,_,_,_,_,_,_,_,_,_=>none
 | k + 1,x5,x6,x7,Wv,uN,ye,Ee,De,Vb,uh,Aj,fk,Ii,bh=>if uN=true then (if x5=true then (if x7=true then ((Eb.f bh 0 (wrap64 (De - 1))).bind fun t105=>(some t105)) else (some false)) else (some false)) else (if Wv=3 then (if x5=true then (if x6=true then ((Eb.f Ii 0 15).bind fun t106=>(if t106=true then ((Eb.f bh 0 5).bind fun t107=>(some t107)) else (some false))) else (some false)) else (some false)) else (if Wv=4 then (Bb.j2 k x5 x6 x7 Wv (Wv == 4) ye Ee De Vb uh Aj fk Ii bh) else (Bb.j2 k x5 x6 x7 Wv (Wv == 5) ye Ee De Vb uh Aj fk Ii bh)))
def Bb.j2:Nat→Bool→Bool→Bool→Int→Bool→List Int→Int→Int→List (Wc)→Int→Int→Int→Int→Int→Option (Bool)
 | 0,_,_,_,_,_,_,_,_,_,_,_,_,_,_=>none
 | k + 1,x5,x6,x7,Wv,tN,ye,Ee,De,Vb,uh,Aj,fk,Ii,bh=>if tN=true then (if x5=true then (if x6=true then (if Ii=0 then ((Eb.f bh 0 (wrap64 ((ye.length:Int) - 1))).bind fun t108=>(some t108)) else (some false)) else (some false)) else (some false)) else (if Wv=11 then (if x5=true then (if x6=true then (if Ii=0 then (some (bh == 0)) else (some false)) else (some false)) else (some false)) else (if Wv=6 then (Bb.j3 k x5 x7 Wv (Wv == 6) ye Ee De Vb uh Aj fk Ii bh) else (if Wv=7 then (Bb.j3 k x5 x7 Wv (Wv == 7) ye Ee De Vb uh Aj fk Ii bh) else (Bb.j3 k x5 x7 Wv (Wv == 10) ye Ee De Vb uh Aj fk Ii bh))))
def Bb.j3:Nat→Bool→Bool→Int→Bool→List Int→Int→Int→List (Wc)→Int→Int→Int→Int→Int→Option (Bool)
 | 0,_,_,_,_,_,_,_,_,_,_,_,_,_=>none
 | k + 1,x5,x7,Wv,sN,ye,Ee,De,Vb,uh,Aj,fk,Ii,bh=>if sN=true then (if x5=true then (if x7=true then (some (bh == 0)) else (some false)) else (some false)) else (if Wv=8 then (if Aj=0 then (if x7=true then ((Eb.f bh 0 (wrap64 ((Vb.length:Int) - 1))).bind fun t109=>(some t109)) else (some false)) else (some false)) else (if Wv=9 then (if x5=true then (if x7=true then ((Eb.f bh 0 (wrap64 ((Vb.length:Int) - 1))).bind fun t110=>(some t110)) else (some false)) else (some false)) else (some false)))
end
def Bb.f (k:Nat) (Sa:List Int) (Qa:Int) (Ra:Int) (Ca:List (Wc)) (Qc:Int) (Sd:Int) (Jd:Int) (xe:Int) (ue:Int):Option (Bool):=(Eb.f Sd 0 15).bind fun t103=>((Eb.f Jd 0 15).bind fun t104=>(if Jd=0 then (Bb.j0 k t103 t104 (xe == 0) Sa Qa Ra Ca Qc Sd Jd xe ue) else (Bb.j0 k t103 t104 false Sa Qa Ra Ca Qc Sd Jd xe ue)))
theorem Bb.calls (k:Nat) (zb:Option Addr) (yb:Nat) (Sa:List Int) (Qa:Int) (Ra:Int) (Kb:Option Addr) (Ab:Nat) (Ca:List (Wc)) (Qc:Int) (Sd:Int) (Jd:Int) (xe:Int) (ue:Int) (r:Bool) (w:World) (Ef:Kd.C (Kd.int .i64) w zb Sa.length Sa) (uf:Sa.length ≤ yb) (Df:Kd.C bg w Kb Ca.length Ca) (tf:Ca.length ≤ Ab) (h:Bb.f k Sa Qa Ra Ca Qc Sd Jd xe ue=some r) :
  Calls Try.prog 91 #[.agg #[.slice zb Sa.length yb,.int .i64 Qa,.int .i64 Ra,.slice Kb Ca.length Ab],.agg #[.int .i64 Qc,.int .i64 Sd,.int .i64 Jd,.int .i64 xe,.int .i64 ue]] w fun e w'=>e = .returned (.bool r)∧Below w.heap.size w w':=by
 have su:=Try.underlying30;have dz:=Try.underlying67;have Ff:=aa.mk Ef;have Xf:=aa.mk uf;clear Ef uf;have Je:=aa.mk Df;have Pg:=aa.mk tf;clear Df tf;have HB:=aa.mk (Below.refl w.heap.size w);have H:((Eb.f Sd 0 15).bind fun t103=>((Eb.f Jd 0 15).bind fun t104=>(if Jd=0 then (Bb.j0 k t103 t104 (xe == 0) Sa Qa Ra Ca Qc Sd Jd xe ue) else (Bb.j0 k t103 t104 false Sa Qa Ra Ca Qc Sd Jd xe ue))))=some r:=h;clear h;replace H:=Option.bind_eq_some_iff.mp H;obtain ⟨t103,Vu,H⟩:=H;replace H:((Eb.f Jd 0 15).bind fun t104=>(if Jd=0 then (Bb.j0 k t103 t104 (xe == 0) Sa Qa Ra Ca Qc Sd Jd xe ue) else (Bb.j0 k t103 t104 false Sa Qa Ra Ca Qc Sd Jd xe ue)))=some r:=H;have A3:=aa.mk Vu;clear Vu;replace H:=Option.bind_eq_some_iff.mp H;obtain ⟨t104,ZU,H⟩:=H;replace H:(if Jd=0 then (Bb.j0 k t103 t104 (xe == 0) Sa Qa Ra Ca Qc Sd Jd xe ue) else (Bb.j0 k t103 t104 false Sa Qa Ra Ca Qc Sd Jd xe ue))=some r:=H;have A4:=aa.mk ZU;clear ZU;have V6:=aa.mk H;clear H;go_enter Try.func91,Try.ntmps91
 go_upto_region 3 with (first|((with_reducible refine Rb (N:=2) rfl ?_);(try (refine Bu (by rfl) ?_;dsimp only));refine Pb ?hg (N:=2) ?hd (cs:=#[.slice zb Sa.length yb,.int .i64 Qa,.int .i64 Ra,.slice Kb Ca.length Ab]) (t:=30) ?hr ?_;(case hd=>rfl);(case hg=>rfl);(case hr=>first|(go_simp;done)|(go_simp;rfl));intro Fa hg w6 ec hb;have Ub:=aa.mk (Va (by repeat (first|(with_reducible first|exact HB.out|apply ua|apply ga|apply Aa)|exact HB.out)) hb);have Wb:=aa.mk (ec);have ic:=aa.mk ((by rw [hg];exact (Ka (by repeat (first|(with_reducible first|exact HB.out|apply ua|apply ga|apply Aa)|exact HB.out))):w.heap.size ≤ Fa));have mc:=aa.mk ((by rw [hg];exact (Ka (by repeat (first|(with_reducible first|exact HB.out|apply ua|apply ga|apply Aa)|exact HB.out))):w.heap.size ≤ Fa));clear HB;have HB:=Ub;have Ba:=Wb;have qg:=ic;have Ua:=mc;clear Ub Wb ic mc hb ec hg)|((with_reducible refine Rb (N:=3) rfl ?_);(try (refine Bu (by rfl) ?_;dsimp only));refine Pb ?hg (N:=3) ?hd (cs:=#[.int .i64 Qc,.int .i64 Sd,.int .i64 Jd,.int .i64 xe,.int .i64 ue]) (t:=67) ?hr ?_;(case hd=>rfl);(case hg=>rfl);(case hr=>first|(go_simp;done)|(go_simp;rfl));intro Ma hg w7 ec hb;have Ub:=aa.mk (Oa (g:=Fa) (o:=.cells #[.slice zb Sa.length yb,.int .i64 Qa,.int .i64 Ra,.slice Kb Ca.length Ab] 30 (0,0)) (by (with_reducible repeat (first|refine oa ?_ _|refine za ?_|refine qa ?_ _));exact Ba.out) hb);have Wb:=aa.mk (Va (by repeat (first|(with_reducible first|exact HB.out|apply ua|apply ga|apply Aa|refine ja ?_ Ua.out)|exact HB.out)) hb);have ic:=aa.mk (ec);have mc:=aa.mk ((by rw [hg];exact (Ka (by repeat (first|(with_reducible first|exact HB.out|apply ua|apply ga|apply Aa|refine ja ?_ Ua.out)|exact HB.out))):w.heap.size ≤ Ma));have Xc:=aa.mk ((by rw [hg];exact (Ka (by repeat (first|(with_reducible first|exact HB.out|apply ua|apply ga|apply Aa|refine ja ?_ Ua.out)|exact HB.out))):w.heap.size ≤ Ma));have yd:=aa.mk ((by rw [hg];exact Nat.ne_of_lt (Nb (g:=Fa) (o:=.cells #[.slice zb Sa.length yb,.int .i64 Qa,.int .i64 Ra,.slice Kb Ca.length Ab] 30 (0,0)) (by (with_reducible repeat (first|refine oa ?_ _|refine za ?_|refine qa ?_ _));exact Ba.out)):Fa ≠ Ma));have Gd:=aa.mk ((by rw [hg];exact Nat.ne_of_gt (Nb (g:=Fa) (o:=.cells #[.slice zb Sa.length yb,.int .i64 Qa,.int .i64 Ra,.slice Kb Ca.length Ab] 30 (0,0)) (by (with_reducible repeat (first|refine oa ?_ _|refine za ?_|refine qa ?_ _));exact Ba.out)):Ma ≠ Fa));clear Ba HB;have Ba:=Ub;have HB:=Wb;have Ia:=ic;have Yj:=mc;have Ib:=Xc;have Tb:=yd;have Sb:=Gd;clear Ub Wb ic mc Xc yd Gd hb ec hg;have eO:=Sb.out;have dO:=Tb.out;have fo:w7.cell? ⟨Ma,0,none⟩=some (.int .i64 Qc):=(ya Ia.out 0).trans rfl;have eo:w7.cell? ⟨Ma,1,none⟩=some (.int .i64 Sd):=(ya Ia.out 1).trans rfl;have Zn:w7.cell? ⟨Ma,2,none⟩=some (.int .i64 Jd):=(ya Ia.out 2).trans rfl;have Yn:w7.cell? ⟨Ma,3,none⟩=some (.int .i64 xe):=(ya Ia.out 3).trans rfl;have xu:w7.cell? ⟨Ma,4,none⟩=some (.int .i64 ue):=(ya Ia.out 4).trans rfl;have Xn:=ia Ia.out 0;have Wn:=ia Ia.out 1;have Vn:=ia Ia.out 2;have Un:=ia Ia.out 3;have vu:=ia Ia.out 4)|((with_reducible refine Xb (f:=81) rfl ?_);refine je (some 10) rfl rfl Try.func81 (by kernel_rfl) rfl #[.int .i64 Sd,.int .i64 0,.int .i64 15] rfl (by (try simp only [List.map_toArray,List.map_cons,List.map_nil]);first|done|rfl|(simp only [List.length_drop,List.length_take];rfl)) ?_;(with_reducible refine (Eb.calls Sd 0 15 t103 _ A3.out).mono ?_);rintro e w' ⟨rfl,⟨nd,rfl⟩⟩;refine ⟨_,rfl,?_⟩)|((with_reducible refine Xb (f:=81) rfl ?_);refine je (some 13) rfl rfl Try.func81 (by kernel_rfl) rfl #[.int .i64 Jd,.int .i64 0,.int .i64 15] rfl (by (try simp only [List.map_toArray,List.map_cons,List.map_nil]);first|done|rfl|(simp only [List.length_drop,List.length_take];rfl)) ?_;(with_reducible refine (Eb.calls Jd 0 15 t104 _ A4.out).mono ?_);rintro e w' ⟨rfl,⟨nd,rfl⟩⟩;refine ⟨_,rfl,?_⟩))
 (try simp only [Act.put,List.setIfInBounds_toArray,List.set_cons_zero,List.set_cons_succ])
 go_cut [7] (fun v7 wc=>∃ (kq:Nat) (Cl:Bool),v7 = .bool Cl∧aa (Bb.j0 kq t103 t104 Cl Sa Qa Ra Ca Qc Sd Jd xe ue=some r)∧aa (kq ≤ k)∧aa (wc.heap[Fa]? = some (.cells #[(.slice zb Sa.length yb),.int .i64 Qa,.int .i64 Ra,(.slice Kb Ca.length Ab)] 30 (0,0)))∧aa (wc.heap[Ma]? = some (.cells #[.int .i64 Qc,.int .i64 Sd,.int .i64 Jd,.int .i64 xe,.int .i64 ue] 67 (0,0)))∧aa (Below w.heap.size w wc))
 case first =>
  have H:=V6.out;clear V6
  by_cases qy:Jd=0
  ·rw [if_pos qy] at H;have sr:(Jd == 0)=true:=beq_iff_eq.mpr qy;have vz:(Jd != 0)=false:=bne_eq_false_iff_eq.mpr qy;clear qy;(first|rw [sr]|(simp only [He,Pe];rw [sr])|skip);have H':=aa.mk H;clear H;have wR:=Sb.out;have fR:=Tb.out;have zl:w7.cell? ⟨Ma,0,none⟩=some (.int .i64 Qc):=(ya Ia.out 0).trans rfl;have yl:w7.cell? ⟨Ma,1,none⟩=some (.int .i64 Sd):=(ya Ia.out 1).trans rfl;have xl:w7.cell? ⟨Ma,2,none⟩=some (.int .i64 Jd):=(ya Ia.out 2).trans rfl;have vl:w7.cell? ⟨Ma,3,none⟩=some (.int .i64 xe):=(ya Ia.out 3).trans rfl;have dr:w7.cell? ⟨Ma,4,none⟩=some (.int .i64 ue):=(ya Ia.out 4).trans rfl;have ql:=ia Ia.out 0;have jl:=ia Ia.out 1;have gl:=ia Ia.out 2;have fl:=ia Ia.out 3;have Pq:=ia Ia.out 4;go_wp2
   go_meet
   case rel=>exact ⟨_,((xe == 0)),(by first|rfl|(simp;done)|(simp [*];done)),H',⟨by first|omega|exact Nat.le_refl _⟩,⟨by (with_reducible repeat (first|refine oa ?_ _|refine za ?_|refine qa ?_ _));exact Ba.out⟩,⟨by (with_reducible repeat (first|refine oa ?_ _|refine za ?_|refine qa ?_ _));exact Ia.out⟩,⟨by repeat (first|(with_reducible first|exact HB.out|apply ua|apply ga|apply Aa|refine ja ?_ Ua.out|refine ja ?_ Ib.out)|exact HB.out)⟩⟩
  ·rw [if_neg qy] at H;have sr:(Jd == 0)=false:=beq_eq_false_iff_ne.mpr qy;have vz:(Jd != 0)=true:=bne_iff_ne.mpr qy;(first|rw [sr]|(simp only [He,Pe];rw [sr])|skip);have H':=aa.mk H;clear H;have r_:=Sb.out;have y9:=Tb.out;have Oo:w7.cell? ⟨Ma,0,none⟩=some (.int .i64 Qc):=(ya Ia.out 0).trans rfl;have Mo:w7.cell? ⟨Ma,1,none⟩=some (.int .i64 Sd):=(ya Ia.out 1).trans rfl;have Lo:w7.cell? ⟨Ma,2,none⟩=some (.int .i64 Jd):=(ya Ia.out 2).trans rfl;have Ko:w7.cell? ⟨Ma,3,none⟩=some (.int .i64 xe):=(ya Ia.out 3).trans rfl;have Tt:w7.cell? ⟨Ma,4,none⟩=some (.int .i64 ue):=(ya Ia.out 4).trans rfl;have Jo:=ia Ia.out 0;have Io:=ia Ia.out 1;have Ho:=ia Ia.out 2;have Fo:=ia Ia.out 3;have Et:=ia Ia.out 4;go_wp2
   go_meet
   case rel=>exact ⟨_,(false),(by first|rfl|(simp;done)|(simp [*];done)),H',⟨by first|omega|exact Nat.le_refl _⟩,⟨by (with_reducible repeat (first|refine oa ?_ _|refine za ?_|refine qa ?_ _));exact Ba.out⟩,⟨by (with_reducible repeat (first|refine oa ?_ _|refine za ?_|refine qa ?_ _));exact Ia.out⟩,⟨by repeat (first|(with_reducible first|exact HB.out|apply ua|apply ga|apply Aa|refine ja ?_ Ua.out|refine ja ?_ Ib.out)|exact HB.out)⟩⟩
 case rest =>
  clear V6
  try clear c1
  try clear p2
  try clear c8
  try clear c9
  try clear qy
  try clear sr
  try clear vz
  try clear IZ
  try clear G6
  try clear zl
  try clear yl
  try clear xl
  try clear vl
  try clear dr
  try clear Oo
  try clear Mo
  try clear Lo
  try clear Ko
  try clear Tt
  try clear fo
  try clear eo
  try clear Zn
  try clear Yn
  try clear xu
  try clear ql
  try clear jl
  try clear gl
  try clear fl
  try clear Pq
  try clear Jo
  try clear Io
  try clear Ho
  try clear Fo
  try clear Et
  try clear Xn
  try clear Wn
  try clear Vn
  try clear Un
  try clear vu
  obtain ⟨kq,Cl,rfl,HA,uP,Ba,Ia,HB⟩:=hcut;cases kq with
  | zero=>exact absurd HA.out (by simp [Bb.j0])
  | succ kj4 =>
   have H:=HA.out;clear HA;simp only [Bb.j0] at H
   by_cases Yr:Qc=0
   ·rw [if_pos Yr] at H;have Nv:(Qc == 0)=true:=beq_iff_eq.mpr Yr;have Mv:(Qc != 0)=false:=bne_eq_false_iff_eq.mpr Yr;clear Yr
    by_cases Wx:t103=true
    ·subst Wx;have H1:(some Cl)=some r:=by rw [if_pos rfl] at H;exact H
     clear H;have H:=H1;clear H1;obtain rfl:=Option.some.inj H;have tR:=Sb.out;have bR:=Tb.out;have Vi:wc.cell? ⟨Ma,0,none⟩=some (.int .i64 Qc):=(ya Ia.out 0).trans rfl;have Ui:wc.cell? ⟨Ma,1,none⟩=some (.int .i64 Sd):=(ya Ia.out 1).trans rfl;have Ti:wc.cell? ⟨Ma,2,none⟩=some (.int .i64 Jd):=(ya Ia.out 2).trans rfl;have Si:wc.cell? ⟨Ma,3,none⟩=some (.int .i64 xe):=(ya Ia.out 3).trans rfl;have Jx:wc.cell? ⟨Ma,4,none⟩=some (.int .i64 ue):=(ya Ia.out 4).trans rfl;have Ri:=ia Ia.out 0;have Qi:=ia Ia.out 1;have Oi:=ia Ia.out 2;have Ni:=ia Ia.out 3;have Vw:=ia Ia.out 4;go_wp2;go_ret;exact ⟨by first|rfl|(simp [Xa,Wa] <;> rfl)|(simp [*,Xa,Wa] <;> rfl),by repeat (first|(with_reducible first|exact HB.out|apply ua|apply ga|apply Aa|refine ja ?_ Ua.out|refine ja ?_ Ib.out)|exact HB.out)⟩
    ·replace Wx:=Bool.eq_false_iff.mpr Wx;subst Wx;have H1:(some false)=some r:=by rw [if_neg (show ¬ (false=true) by decide)] at H;exact H
     clear H;have H:=H1;clear H1;obtain rfl:=Option.some.inj H;have o_:=Sb.out;have o9:=Tb.out;have Uj:wc.cell? ⟨Ma,0,none⟩=some (.int .i64 Qc):=(ya Ia.out 0).trans rfl;have Tj:wc.cell? ⟨Ma,1,none⟩=some (.int .i64 Sd):=(ya Ia.out 1).trans rfl;have Sj:wc.cell? ⟨Ma,2,none⟩=some (.int .i64 Jd):=(ya Ia.out 2).trans rfl;have Rj:wc.cell? ⟨Ma,3,none⟩=some (.int .i64 xe):=(ya Ia.out 3).trans rfl;have Ix:wc.cell? ⟨Ma,4,none⟩=some (.int .i64 ue):=(ya Ia.out 4).trans rfl;have Qj:=ia Ia.out 0;have Pj:=ia Ia.out 1;have Oj:=ia Ia.out 2;have Nj:=ia Ia.out 3;have Uw:=ia Ia.out 4;go_wp2;go_ret;exact ⟨by first|rfl|(simp [Xa,Wa] <;> rfl)|(simp [*,Xa,Wa] <;> rfl),by repeat (first|(with_reducible first|exact HB.out|apply ua|apply ga|apply Aa|refine ja ?_ Ua.out|refine ja ?_ Ib.out)|exact HB.out)⟩
   ·rw [if_neg Yr] at H;have Nv:(Qc == 0)=false:=beq_eq_false_iff_ne.mpr Yr;have Mv:(Qc != 0)=true:=bne_iff_ne.mpr Yr;have xP:=aa.mk H;clear H;have sR:=Sb.out;have ZQ:=Tb.out;have Xq:wc.cell? ⟨Ma,0,none⟩=some (.int .i64 Qc):=(ya Ia.out 0).trans rfl;have Wq:wc.cell? ⟨Ma,1,none⟩=some (.int .i64 Sd):=(ya Ia.out 1).trans rfl;have Vq:wc.cell? ⟨Ma,2,none⟩=some (.int .i64 Jd):=(ya Ia.out 2).trans rfl;have Uq:wc.cell? ⟨Ma,3,none⟩=some (.int .i64 xe):=(ya Ia.out 3).trans rfl;have Ot:wc.cell? ⟨Ma,4,none⟩=some (.int .i64 ue):=(ya Ia.out 4).trans rfl;have Jq:=ia Ia.out 0;have Iq:=ia Ia.out 1;have Hq:=ia Ia.out 2;have Gq:=ia Ia.out 3;have vt:=ia Ia.out 4
    go_upto_if 30 with (fail)
    go_cut [30] (fun v30 wc=>∃ (kq:Nat) (Vv:Bool),v30 = .bool Vv∧aa (Bb.j1 kq t103 t104 Cl Qc Vv Sa Qa Ra Ca Qc Sd Jd xe ue=some r)∧aa (kq ≤ kj4)∧aa (wc.heap[Fa]? = some (.cells #[(.slice zb Sa.length yb),.int .i64 Qa,.int .i64 Ra,(.slice Kb Ca.length Ab)] 30 (0,0)))∧aa (wc.heap[Ma]? = some (.cells #[.int .i64 Qc,.int .i64 Sd,.int .i64 Jd,.int .i64 xe,.int .i64 ue] 67 (0,0)))∧aa (Below w.heap.size w wc))
    case first =>
     have H:=xP.out;clear xP
     by_cases Xu:Qc=1
     ·rw [if_pos Xu] at H;have Bn:(Qc == 1)=true:=beq_iff_eq.mpr Xu;have LC:(Qc != 1)=false:=bne_eq_false_iff_eq.mpr Xu;clear Xu;(first|rw [Bn]|(simp only [He,Pe];rw [Bn])|skip);have H':=aa.mk H;clear H;go_wp2
      go_meet
      case rel=>exact ⟨_,((Qc == 1)),(by first|rfl|(simp;done)|(simp [*];done)),H',⟨by have:=uP.out;first|omega|exact Nat.le_refl _⟩,⟨by (with_reducible repeat (first|refine oa ?_ _|refine za ?_|refine qa ?_ _));exact Ba.out⟩,⟨by (with_reducible repeat (first|refine oa ?_ _|refine za ?_|refine qa ?_ _));exact Ia.out⟩,⟨by repeat (first|(with_reducible first|exact HB.out|apply ua|apply ga|apply Aa|refine ja ?_ Ua.out|refine ja ?_ Ib.out)|exact HB.out)⟩⟩
     ·rw [if_neg Xu] at H;have Bn:(Qc == 1)=false:=beq_eq_false_iff_ne.mpr Xu;have LC:(Qc != 1)=true:=bne_iff_ne.mpr Xu;(first|rw [Bn]|(simp only [He,Pe];rw [Bn])|skip);have H':=aa.mk H;clear H;go_wp2
      go_meet
      case rel=>exact ⟨_,((Qc == 2)),(by first|rfl|(simp;done)|(simp [*];done)),H',⟨by have:=uP.out;first|omega|exact Nat.le_refl _⟩,⟨by (with_reducible repeat (first|refine oa ?_ _|refine za ?_|refine qa ?_ _));exact Ba.out⟩,⟨by (with_reducible repeat (first|refine oa ?_ _|refine za ?_|refine qa ?_ _));exact Ia.out⟩,⟨by repeat (first|(with_reducible first|exact HB.out|apply ua|apply ga|apply Aa|refine ja ?_ Ua.out|refine ja ?_ Ib.out)|exact HB.out)⟩⟩
    case rest =>
     clear xP
     try clear c1
     try clear c2
     try clear p2
     try clear c8
     try clear c9
     try clear qy
     try clear sr
     try clear vz
     try clear IZ
     try clear G6
     try clear Yr
     try clear Nv
     try clear Mv
     try clear Wx
     try clear bP
     try clear ZO
     try clear Mz
     try clear Xu
     try clear Bn
     try clear LC
     try clear zl
     try clear yl
     try clear xl
     try clear vl
     try clear dr
     try clear Oo
     try clear Mo
     try clear Lo
     try clear Ko
     try clear Tt
     try clear Vi
     try clear Ui
     try clear Ti
     try clear Si
     try clear Jx
     try clear Uj
     try clear Tj
     try clear Sj
     try clear Rj
     try clear Ix
     try clear Xq
     try clear Wq
     try clear Vq
     try clear Uq
     try clear Ot
     try clear fo
     try clear eo
     try clear Zn
     try clear Yn
     try clear xu
     try clear ql
     try clear jl
     try clear gl
     try clear fl
     try clear Pq
     try clear Jo
     try clear Io
     try clear Ho
     try clear Fo
     try clear Et
     try clear Ri
     try clear Qi
     try clear Oi
     try clear Ni
     try clear Vw
     try clear Qj
     try clear Pj
     try clear Oj
     try clear Nj
     try clear Uw
     try clear Jq
     try clear Iq
     try clear Hq
     try clear Gq
     try clear vt
     try clear Xn
     try clear Wn
     try clear Vn
     try clear Un
     try clear vu
     try clear p2
     obtain ⟨kq,Vv,rfl,HA,EH,Ba,Ia,HB⟩:=hcut;cases kq with
     | zero=>exact absurd HA.out (by simp [Bb.j1])
     | succ NN =>
      have H:=HA.out;clear HA;simp only [Bb.j1] at H
      by_cases qH:Vv=true
      ·subst qH;have H1:(if t103=true then (if Cl=true then ((Eb.f ue 0 (wrap64 (Ra - 1))).bind fun t105=>(some t105)) else (some false)) else (some false))=some r:=by rw [if_pos rfl] at H;exact H
       clear H;have H:=H1;clear H1
       by_cases JD:t103=true
       ·subst JD;have H1:(if Cl=true then ((Eb.f ue 0 (wrap64 (Ra - 1))).bind fun t105=>(some t105)) else (some false))=some r:=by rw [if_pos rfl] at H;exact H
        clear H;have H:=H1;clear H1
        by_cases Mu:Cl=true
        ·subst Mu;have H1:((Eb.f ue 0 (wrap64 (Ra - 1))).bind fun t105=>(some t105))=some r:=by rw [if_pos rfl] at H;exact H
         clear H;have H:=H1;clear H1;replace H:=Option.bind_eq_some_iff.mp H;obtain ⟨t105,KH,H⟩:=H;replace H:(some t105)=some r:=H;have j7:=aa.mk KH;clear KH;obtain rfl:=Option.some.inj H;have f_:=Sb.out;have Z8:=Tb.out;have Dx:wc.cell? ⟨Ma,0,none⟩=some (.int .i64 Qc):=(ya Ia.out 0).trans rfl;have Cx:wc.cell? ⟨Ma,1,none⟩=some (.int .i64 Sd):=(ya Ia.out 1).trans rfl;have Bx:wc.cell? ⟨Ma,2,none⟩=some (.int .i64 Jd):=(ya Ia.out 2).trans rfl;have Ax:wc.cell? ⟨Ma,3,none⟩=some (.int .i64 xe):=(ya Ia.out 3).trans rfl;have yC:wc.cell? ⟨Ma,4,none⟩=some (.int .i64 ue):=(ya Ia.out 4).trans rfl;have Pw:=ia Ia.out 0;have Ow:=ia Ia.out 1;have Nw:=ia Ia.out 2;have Mw:=ia Ia.out 3;have PB:=ia Ia.out 4;have zx:wc.cell? ⟨Fa,0,none⟩=some (.slice zb Sa.length yb):=(ya Ba.out 0).trans rfl;have yx:wc.cell? ⟨Fa,1,none⟩=some (.int .i64 Qa):=(ya Ba.out 1).trans rfl;have xx:wc.cell? ⟨Fa,2,none⟩=some (.int .i64 Ra):=(ya Ba.out 2).trans rfl;have ux:wc.cell? ⟨Fa,3,none⟩=some (.slice Kb Ca.length Ab):=(ya Ba.out 3).trans rfl;have Lw:=ia Ba.out 0;have Kw:=ia Ba.out 1;have Jw:=ia Ba.out 2;have Iw:=ia Ba.out 3;go_wp2_with (first|(go_at_call 81;(with_reducible refine (Eb.calls ue 0 (wrap64 (Ra - 1)) t105 _ j7.out).mono ?_);rintro e w' ⟨rfl,⟨nd,rfl⟩⟩));go_ret;exact ⟨by first|rfl|(simp [Xa,Wa] <;> rfl)|(simp [*,Xa,Wa] <;> rfl),by repeat (first|(with_reducible first|exact HB.out|apply ua|apply ga|apply Aa|refine ja ?_ Ua.out|refine ja ?_ Ib.out)|exact HB.out)⟩
        ·replace Mu:=Bool.eq_false_iff.mpr Mu;subst Mu;have H1:(some false)=some r:=by rw [if_neg (show ¬ (false=true) by decide)] at H;exact H
         clear H;have H:=H1;clear H1;obtain rfl:=Option.some.inj H;go_wp2;go_ret;exact ⟨by first|rfl|(simp [Xa,Wa] <;> rfl)|(simp [*,Xa,Wa] <;> rfl),by repeat (first|(with_reducible first|exact HB.out|apply ua|apply ga|apply Aa|refine ja ?_ Ua.out|refine ja ?_ Ib.out)|exact HB.out)⟩
       ·replace JD:=Bool.eq_false_iff.mpr JD;subst JD;have H1:(some false)=some r:=by rw [if_neg (show ¬ (false=true) by decide)] at H;exact H
        clear H;have H:=H1;clear H1;obtain rfl:=Option.some.inj H;go_wp2;go_ret;exact ⟨by first|rfl|(simp [Xa,Wa] <;> rfl)|(simp [*,Xa,Wa] <;> rfl),by repeat (first|(with_reducible first|exact HB.out|apply ua|apply ga|apply Aa|refine ja ?_ Ua.out|refine ja ?_ Ib.out)|exact HB.out)⟩
      ·replace qH:=Bool.eq_false_iff.mpr qH;subst qH;have H1:(if Qc=3 then (if t103=true then (if t104=true then ((Eb.f xe 0 15).bind fun t106=>(if t106=true then ((Eb.f ue 0 5).bind fun t107=>(some t107)) else (some false))) else (some false)) else (some false)) else (if Qc=4 then (Bb.j2 NN t103 t104 Cl Qc (Qc == 4) Sa Qa Ra Ca Qc Sd Jd xe ue) else (Bb.j2 NN t103 t104 Cl Qc (Qc == 5) Sa Qa Ra Ca Qc Sd Jd xe ue)))=some r:=by rw [if_neg (show ¬ (false=true) by decide)] at H;exact H
       clear H;have H:=H1;clear H1
       by_cases yL:Qc=3
       ·rw [if_pos yL] at H;have nH:(Qc == 3)=true:=beq_iff_eq.mpr yL;have mH:(Qc != 3)=false:=bne_eq_false_iff_eq.mpr yL;clear yL
        by_cases lH:t103=true
        ·subst lH;have H1:(if t104=true then ((Eb.f xe 0 15).bind fun t106=>(if t106=true then ((Eb.f ue 0 5).bind fun t107=>(some t107)) else (some false))) else (some false))=some r:=by rw [if_pos rfl] at H;exact H
         clear H;have H:=H1;clear H1
         by_cases kH:t104=true
         ·subst kH;have H1:((Eb.f xe 0 15).bind fun t106=>(if t106=true then ((Eb.f ue 0 5).bind fun t107=>(some t107)) else (some false)))=some r:=by rw [if_pos rfl] at H;exact H
          clear H;have H:=H1;clear H1;replace H:=Option.bind_eq_some_iff.mp H;obtain ⟨t106,bV,H⟩:=H;replace H:(if t106=true then ((Eb.f ue 0 5).bind fun t107=>(some t107)) else (some false))=some r:=H;have A35:=aa.mk bV;clear bV
          by_cases NP:t106=true
          ·subst NP;have H1:((Eb.f ue 0 5).bind fun t107=>(some t107))=some r:=by rw [if_pos rfl] at H;exact H
           clear H;have H:=H1;clear H1;replace H:=Option.bind_eq_some_iff.mp H;obtain ⟨t107,aV,H⟩:=H;replace H:(some t107)=some r:=H;have A37:=aa.mk aV;clear aV;obtain rfl:=Option.some.inj H;have qR:=Sb.out;have XQ:=Tb.out;have Tq:wc.cell? ⟨Ma,0,none⟩=some (.int .i64 Qc):=(ya Ia.out 0).trans rfl;have Sq:wc.cell? ⟨Ma,1,none⟩=some (.int .i64 Sd):=(ya Ia.out 1).trans rfl;have Rq:wc.cell? ⟨Ma,2,none⟩=some (.int .i64 Jd):=(ya Ia.out 2).trans rfl;have Qq:wc.cell? ⟨Ma,3,none⟩=some (.int .i64 xe):=(ya Ia.out 3).trans rfl;have xC:wc.cell? ⟨Ma,4,none⟩=some (.int .i64 ue):=(ya Ia.out 4).trans rfl;have Fq:=ia Ia.out 0;have Dq:=ia Ia.out 1;have Cq:=ia Ia.out 2;have Bq:=ia Ia.out 3;have OB:=ia Ia.out 4;go_wp2_with (first|(go_at_call 81;(with_reducible refine (Eb.calls xe 0 15 true _ A35.out).mono ?_);rintro e w' ⟨rfl,⟨nd,rfl⟩⟩)|(go_at_call 81;(with_reducible refine (Eb.calls ue 0 5 t107 _ A37.out).mono ?_);rintro e w' ⟨rfl,⟨nd,rfl⟩⟩));go_ret;exact ⟨by first|rfl|(simp [Xa,Wa] <;> rfl)|(simp [*,Xa,Wa] <;> rfl),by repeat (first|(with_reducible first|exact HB.out|apply ua|apply ga|apply Aa|refine ja ?_ Ua.out|refine ja ?_ Ib.out)|exact HB.out)⟩
          ·replace NP:=Bool.eq_false_iff.mpr NP;subst NP;have H1:(some false)=some r:=by rw [if_neg (show ¬ (false=true) by decide)] at H;exact H
           clear H;have H:=H1;clear H1;obtain rfl:=Option.some.inj H;have X9:=Sb.out;have U8:=Tb.out;have wC:wc.cell? ⟨Ma,0,none⟩=some (.int .i64 Qc):=(ya Ia.out 0).trans rfl;have vC:wc.cell? ⟨Ma,1,none⟩=some (.int .i64 Sd):=(ya Ia.out 1).trans rfl;have uC:wc.cell? ⟨Ma,2,none⟩=some (.int .i64 Jd):=(ya Ia.out 2).trans rfl;have tC:wc.cell? ⟨Ma,3,none⟩=some (.int .i64 xe):=(ya Ia.out 3).trans rfl;have sC:wc.cell? ⟨Ma,4,none⟩=some (.int .i64 ue):=(ya Ia.out 4).trans rfl;have NB:=ia Ia.out 0;have MB:=ia Ia.out 1;have LB:=ia Ia.out 2;have KB:=ia Ia.out 3;have JB:=ia Ia.out 4;go_wp2_with (first|(go_at_call 81;(with_reducible refine (Eb.calls xe 0 15 false _ A35.out).mono ?_);rintro e w' ⟨rfl,⟨nd,rfl⟩⟩));go_ret;exact ⟨by first|rfl|(simp [Xa,Wa] <;> rfl)|(simp [*,Xa,Wa] <;> rfl),by repeat (first|(with_reducible first|exact HB.out|apply ua|apply ga|apply Aa|refine ja ?_ Ua.out|refine ja ?_ Ib.out)|exact HB.out)⟩
         ·replace kH:=Bool.eq_false_iff.mpr kH;subst kH;have H1:(some false)=some r:=by rw [if_neg (show ¬ (false=true) by decide)] at H;exact H
          clear H;have H:=H1;clear H1;obtain rfl:=Option.some.inj H;go_wp2;go_ret;exact ⟨by first|rfl|(simp [Xa,Wa] <;> rfl)|(simp [*,Xa,Wa] <;> rfl),by repeat (first|(with_reducible first|exact HB.out|apply ua|apply ga|apply Aa|refine ja ?_ Ua.out|refine ja ?_ Ib.out)|exact HB.out)⟩
        ·replace lH:=Bool.eq_false_iff.mpr lH;subst lH;have H1:(some false)=some r:=by rw [if_neg (show ¬ (false=true) by decide)] at H;exact H
         clear H;have H:=H1;clear H1;obtain rfl:=Option.some.inj H;go_wp2;go_ret;exact ⟨by first|rfl|(simp [Xa,Wa] <;> rfl)|(simp [*,Xa,Wa] <;> rfl),by repeat (first|(with_reducible first|exact HB.out|apply ua|apply ga|apply Aa|refine ja ?_ Ua.out|refine ja ?_ Ib.out)|exact HB.out)⟩
       ·rw [if_neg yL] at H;have nH:(Qc == 3)=false:=beq_eq_false_iff_ne.mpr yL;have mH:(Qc != 3)=true:=bne_iff_ne.mpr yL;have wP:=aa.mk H;clear H
        go_upto_if 61 with (fail)
        go_cut [61] (fun v61 wc=>∃ (kq:Nat) (Uv:Bool),v61 = .bool Uv∧aa (Bb.j2 kq t103 t104 Cl Qc Uv Sa Qa Ra Ca Qc Sd Jd xe ue=some r)∧aa (kq ≤ NN)∧aa (wc.heap[Fa]? = some (.cells #[(.slice zb Sa.length yb),.int .i64 Qa,.int .i64 Ra,(.slice Kb Ca.length Ab)] 30 (0,0)))∧aa (wc.heap[Ma]? = some (.cells #[.int .i64 Qc,.int .i64 Sd,.int .i64 Jd,.int .i64 xe,.int .i64 ue] 67 (0,0)))∧aa (Below w.heap.size w wc))
        case first =>
         have H:=wP.out;clear wP
         by_cases xL:Qc=4
         ·rw [if_pos xL] at H;have Ku:(Qc == 4)=true:=beq_iff_eq.mpr xL;have iH:(Qc != 4)=false:=bne_eq_false_iff_eq.mpr xL;clear xL;(first|rw [Ku]|(simp only [He,Pe];rw [Ku])|skip);have H':=aa.mk H;clear H;go_wp2
          go_meet
          case rel=>exact ⟨_,((Qc == 4)),(by first|rfl|(simp;done)|(simp [*];done)),H',⟨by have:=uP.out;have:=EH.out;first|omega|exact Nat.le_refl _⟩,⟨by (with_reducible repeat (first|refine oa ?_ _|refine za ?_|refine qa ?_ _));exact Ba.out⟩,⟨by (with_reducible repeat (first|refine oa ?_ _|refine za ?_|refine qa ?_ _));exact Ia.out⟩,⟨by repeat (first|(with_reducible first|exact HB.out|apply ua|apply ga|apply Aa|refine ja ?_ Ua.out|refine ja ?_ Ib.out)|exact HB.out)⟩⟩
         ·rw [if_neg xL] at H;have Ku:(Qc == 4)=false:=beq_eq_false_iff_ne.mpr xL;have iH:(Qc != 4)=true:=bne_iff_ne.mpr xL;(first|rw [Ku]|(simp only [He,Pe];rw [Ku])|skip);have H':=aa.mk H;clear H;go_wp2
          go_meet
          case rel=>exact ⟨_,((Qc == 5)),(by first|rfl|(simp;done)|(simp [*];done)),H',⟨by have:=uP.out;have:=EH.out;first|omega|exact Nat.le_refl _⟩,⟨by (with_reducible repeat (first|refine oa ?_ _|refine za ?_|refine qa ?_ _));exact Ba.out⟩,⟨by (with_reducible repeat (first|refine oa ?_ _|refine za ?_|refine qa ?_ _));exact Ia.out⟩,⟨by repeat (first|(with_reducible first|exact HB.out|apply ua|apply ga|apply Aa|refine ja ?_ Ua.out|refine ja ?_ Ib.out)|exact HB.out)⟩⟩
        case rest =>
         clear wP
         try clear c1
         try clear c2
         try clear p2
         try clear c3
         try clear c4
         try clear p6
         try clear c8
         try clear c9
         try clear qy
         try clear sr
         try clear vz
         try clear IZ
         try clear G6
         try clear Yr
         try clear Nv
         try clear Mv
         try clear Wx
         try clear bP
         try clear ZO
         try clear Mz
         try clear Xu
         try clear Bn
         try clear LC
         try clear qH
         try clear JD
         try clear Mu
         try clear OP
         try clear yL
         try clear nH
         try clear mH
         try clear lH
         try clear kH
         try clear NP
         try clear C6
         try clear c40
         try clear xL
         try clear Ku
         try clear iH
         try clear zl
         try clear yl
         try clear xl
         try clear vl
         try clear dr
         try clear Oo
         try clear Mo
         try clear Lo
         try clear Ko
         try clear Tt
         try clear Vi
         try clear Ui
         try clear Ti
         try clear Si
         try clear Jx
         try clear Uj
         try clear Tj
         try clear Sj
         try clear Rj
         try clear Ix
         try clear Xq
         try clear Wq
         try clear Vq
         try clear Uq
         try clear Ot
         try clear Dx
         try clear Cx
         try clear Bx
         try clear Ax
         try clear yC
         try clear zx
         try clear yx
         try clear xx
         try clear ux
         try clear Tq
         try clear Sq
         try clear Rq
         try clear Qq
         try clear xC
         try clear wC
         try clear vC
         try clear uC
         try clear tC
         try clear sC
         try clear fo
         try clear eo
         try clear Zn
         try clear Yn
         try clear xu
         try clear ql
         try clear jl
         try clear gl
         try clear fl
         try clear Pq
         try clear Jo
         try clear Io
         try clear Ho
         try clear Fo
         try clear Et
         try clear Ri
         try clear Qi
         try clear Oi
         try clear Ni
         try clear Vw
         try clear Qj
         try clear Pj
         try clear Oj
         try clear Nj
         try clear Uw
         try clear Jq
         try clear Iq
         try clear Hq
         try clear Gq
         try clear vt
         try clear Pw
         try clear Ow
         try clear Nw
         try clear Mw
         try clear PB
         try clear Lw
         try clear Kw
         try clear Jw
         try clear Iw
         try clear Fq
         try clear Dq
         try clear Cq
         try clear Bq
         try clear OB
         try clear NB
         try clear MB
         try clear LB
         try clear KB
         try clear JB
         try clear Xn
         try clear Wn
         try clear Vn
         try clear Un
         try clear vu
         try clear p2
         obtain ⟨kq,Uv,rfl,HA,tP,Ba,Ia,HB⟩:=hcut;cases kq with
         | zero=>exact absurd HA.out (by simp [Bb.j2])
         | succ lI =>
          have H:=HA.out;clear HA;simp only [Bb.j2] at H
          by_cases bU:Uv=true
          ·subst bU;have H1:(if t103=true then (if t104=true then (if xe=0 then ((Eb.f ue 0 (wrap64 ((Sa.length:Int) - 1))).bind fun t108=>(some t108)) else (some false)) else (some false)) else (some false))=some r:=by rw [if_pos rfl] at H;exact H
           clear H;have H:=H1;clear H1
           by_cases aU:t103=true
           ·subst aU;have H1:(if t104=true then (if xe=0 then ((Eb.f ue 0 (wrap64 ((Sa.length:Int) - 1))).bind fun t108=>(some t108)) else (some false)) else (some false))=some r:=by rw [if_pos rfl] at H;exact H
            clear H;have H:=H1;clear H1
            by_cases ZT:t104=true
            ·subst ZT;have H1:(if xe=0 then ((Eb.f ue 0 (wrap64 ((Sa.length:Int) - 1))).bind fun t108=>(some t108)) else (some false))=some r:=by rw [if_pos rfl] at H;exact H
             clear H;have H:=H1;clear H1
             by_cases SM:xe=0
             ·rw [if_pos SM] at H;have RM:(xe == 0)=true:=beq_iff_eq.mpr SM;have QM:(xe != 0)=false:=bne_eq_false_iff_eq.mpr SM;clear SM;replace H:=Option.bind_eq_some_iff.mp H;obtain ⟨t108,YU,H⟩:=H;replace H:(some t108)=some r:=H;have A48:=aa.mk YU;clear YU;obtain rfl:=Option.some.inj H;have oR:=Sb.out;have VQ:=Tb.out;have mC:wc.cell? ⟨Ma,0,none⟩=some (.int .i64 Qc):=(ya Ia.out 0).trans rfl;have lC:wc.cell? ⟨Ma,1,none⟩=some (.int .i64 Sd):=(ya Ia.out 1).trans rfl;have kC:wc.cell? ⟨Ma,2,none⟩=some (.int .i64 Jd):=(ya Ia.out 2).trans rfl;have jC:wc.cell? ⟨Ma,3,none⟩=some (.int .i64 xe):=(ya Ia.out 3).trans rfl;have UK:wc.cell? ⟨Ma,4,none⟩=some (.int .i64 ue):=(ya Ia.out 4).trans rfl;have CB:=ia Ia.out 0;have BB:=ia Ia.out 1;have AB:=ia Ia.out 2;have zB:=ia Ia.out 3;have xJ:=ia Ia.out 4;have TK:wc.cell? ⟨Fa,0,none⟩=some (.slice zb Sa.length yb):=(ya Ba.out 0).trans rfl;have SK:wc.cell? ⟨Fa,1,none⟩=some (.int .i64 Qa):=(ya Ba.out 1).trans rfl;have RK:wc.cell? ⟨Fa,2,none⟩=some (.int .i64 Ra):=(ya Ba.out 2).trans rfl;have QK:wc.cell? ⟨Fa,3,none⟩=some (.slice Kb Ca.length Ab):=(ya Ba.out 3).trans rfl;have wJ:=ia Ba.out 0;have vJ:=ia Ba.out 1;have uJ:=ia Ba.out 2;have tJ:=ia Ba.out 3;go_wp2_with (first|(go_at_call 81;(with_reducible refine (Eb.calls ue 0 (wrap64 ((Sa.length:Int) - 1)) t108 _ A48.out).mono ?_);rintro e w' ⟨rfl,⟨nd,rfl⟩⟩));go_ret;exact ⟨by first|rfl|(simp [Xa,Wa] <;> rfl)|(simp [*,Xa,Wa] <;> rfl),by repeat (first|(with_reducible first|exact HB.out|apply ua|apply ga|apply Aa|refine ja ?_ Ua.out|refine ja ?_ Ib.out)|exact HB.out)⟩
             ·rw [if_neg SM] at H;have RM:(xe == 0)=false:=beq_eq_false_iff_ne.mpr SM;have QM:(xe != 0)=true:=bne_iff_ne.mpr SM;obtain rfl:=Option.some.inj H;have U9:=Sb.out;have R8:=Tb.out;have PK:wc.cell? ⟨Ma,0,none⟩=some (.int .i64 Qc):=(ya Ia.out 0).trans rfl;have OK:wc.cell? ⟨Ma,1,none⟩=some (.int .i64 Sd):=(ya Ia.out 1).trans rfl;have NK:wc.cell? ⟨Ma,2,none⟩=some (.int .i64 Jd):=(ya Ia.out 2).trans rfl;have MK:wc.cell? ⟨Ma,3,none⟩=some (.int .i64 xe):=(ya Ia.out 3).trans rfl;have LK:wc.cell? ⟨Ma,4,none⟩=some (.int .i64 ue):=(ya Ia.out 4).trans rfl;have sJ:=ia Ia.out 0;have rJ:=ia Ia.out 1;have qJ:=ia Ia.out 2;have pJ:=ia Ia.out 3;have oJ:=ia Ia.out 4;go_wp2;go_ret;exact ⟨by first|rfl|(simp [Xa,Wa] <;> rfl)|(simp [*,Xa,Wa] <;> rfl),by repeat (first|(with_reducible first|exact HB.out|apply ua|apply ga|apply Aa|refine ja ?_ Ua.out|refine ja ?_ Ib.out)|exact HB.out)⟩
            ·replace ZT:=Bool.eq_false_iff.mpr ZT;subst ZT;have H1:(some false)=some r:=by rw [if_neg (show ¬ (false=true) by decide)] at H;exact H
             clear H;have H:=H1;clear H1;obtain rfl:=Option.some.inj H;go_wp2;go_ret;exact ⟨by first|rfl|(simp [Xa,Wa] <;> rfl)|(simp [*,Xa,Wa] <;> rfl),by repeat (first|(with_reducible first|exact HB.out|apply ua|apply ga|apply Aa|refine ja ?_ Ua.out|refine ja ?_ Ib.out)|exact HB.out)⟩
           ·replace aU:=Bool.eq_false_iff.mpr aU;subst aU;have H1:(some false)=some r:=by rw [if_neg (show ¬ (false=true) by decide)] at H;exact H
            clear H;have H:=H1;clear H1;obtain rfl:=Option.some.inj H;go_wp2;go_ret;exact ⟨by first|rfl|(simp [Xa,Wa] <;> rfl)|(simp [*,Xa,Wa] <;> rfl),by repeat (first|(with_reducible first|exact HB.out|apply ua|apply ga|apply Aa|refine ja ?_ Ua.out|refine ja ?_ Ib.out)|exact HB.out)⟩
          ·replace bU:=Bool.eq_false_iff.mpr bU;subst bU;have H1:(if Qc=11 then (if t103=true then (if t104=true then (if xe=0 then (some (ue == 0)) else (some false)) else (some false)) else (some false)) else (if Qc=6 then (Bb.j3 lI t103 Cl Qc (Qc == 6) Sa Qa Ra Ca Qc Sd Jd xe ue) else (if Qc=7 then (Bb.j3 lI t103 Cl Qc (Qc == 7) Sa Qa Ra Ca Qc Sd Jd xe ue) else (Bb.j3 lI t103 Cl Qc (Qc == 10) Sa Qa Ra Ca Qc Sd Jd xe ue))))=some r:=by rw [if_neg (show ¬ (false=true) by decide)] at H;exact H
           clear H;have H:=H1;clear H1
           by_cases LM:Qc=11
           ·rw [if_pos LM] at H;have KM:(Qc == 11)=true:=beq_iff_eq.mpr LM;have JM:(Qc != 11)=false:=bne_eq_false_iff_eq.mpr LM;clear LM
            by_cases gH:t103=true
            ·subst gH;have H1:(if t104=true then (if xe=0 then (some (ue == 0)) else (some false)) else (some false))=some r:=by rw [if_pos rfl] at H;exact H
             clear H;have H:=H1;clear H1
             by_cases fH:t104=true
             ·subst fH;have H1:(if xe=0 then (some (ue == 0)) else (some false))=some r:=by rw [if_pos rfl] at H;exact H
              clear H;have H:=H1;clear H1
              by_cases vL:xe=0
              ·rw [if_pos vL] at H;have IM:(xe == 0)=true:=beq_iff_eq.mpr vL;have HM:(xe != 0)=false:=bne_eq_false_iff_eq.mpr vL;clear vL;obtain rfl:=Option.some.inj H;have mR:=Sb.out;have TQ:=Tb.out;have sx:wc.cell? ⟨Ma,0,none⟩=some (.int .i64 Qc):=(ya Ia.out 0).trans rfl;have qx:wc.cell? ⟨Ma,1,none⟩=some (.int .i64 Sd):=(ya Ia.out 1).trans rfl;have ox:wc.cell? ⟨Ma,2,none⟩=some (.int .i64 Jd):=(ya Ia.out 2).trans rfl;have jx:wc.cell? ⟨Ma,3,none⟩=some (.int .i64 xe):=(ya Ia.out 3).trans rfl;have KK:wc.cell? ⟨Ma,4,none⟩=some (.int .i64 ue):=(ya Ia.out 4).trans rfl;have Hw:=ia Ia.out 0;have Gw:=ia Ia.out 1;have Fw:=ia Ia.out 2;have Ew:=ia Ia.out 3;have nJ:=ia Ia.out 4;go_wp2;go_ret;exact ⟨by first|rfl|(simp [Xa,Wa] <;> rfl)|(simp [*,Xa,Wa] <;> rfl),by repeat (first|(with_reducible first|exact HB.out|apply ua|apply ga|apply Aa|refine ja ?_ Ua.out|refine ja ?_ Ib.out)|exact HB.out)⟩
              ·rw [if_neg vL] at H;have IM:(xe == 0)=false:=beq_eq_false_iff_ne.mpr vL;have HM:(xe != 0)=true:=bne_iff_ne.mpr vL;obtain rfl:=Option.some.inj H;have R9:=Sb.out;have O8:=Tb.out;have JK:wc.cell? ⟨Ma,0,none⟩=some (.int .i64 Qc):=(ya Ia.out 0).trans rfl;have IK:wc.cell? ⟨Ma,1,none⟩=some (.int .i64 Sd):=(ya Ia.out 1).trans rfl;have GK:wc.cell? ⟨Ma,2,none⟩=some (.int .i64 Jd):=(ya Ia.out 2).trans rfl;have EK:wc.cell? ⟨Ma,3,none⟩=some (.int .i64 xe):=(ya Ia.out 3).trans rfl;have DK:wc.cell? ⟨Ma,4,none⟩=some (.int .i64 ue):=(ya Ia.out 4).trans rfl;have mJ:=ia Ia.out 0;have lJ:=ia Ia.out 1;have kJ:=ia Ia.out 2;have jJ:=ia Ia.out 3;have iJ:=ia Ia.out 4;go_wp2;go_ret;exact ⟨by first|rfl|(simp [Xa,Wa] <;> rfl)|(simp [*,Xa,Wa] <;> rfl),by repeat (first|(with_reducible first|exact HB.out|apply ua|apply ga|apply Aa|refine ja ?_ Ua.out|refine ja ?_ Ib.out)|exact HB.out)⟩
             ·replace fH:=Bool.eq_false_iff.mpr fH;subst fH;have H1:(some false)=some r:=by rw [if_neg (show ¬ (false=true) by decide)] at H;exact H
              clear H;have H:=H1;clear H1;obtain rfl:=Option.some.inj H;go_wp2;go_ret;exact ⟨by first|rfl|(simp [Xa,Wa] <;> rfl)|(simp [*,Xa,Wa] <;> rfl),by repeat (first|(with_reducible first|exact HB.out|apply ua|apply ga|apply Aa|refine ja ?_ Ua.out|refine ja ?_ Ib.out)|exact HB.out)⟩
            ·replace gH:=Bool.eq_false_iff.mpr gH;subst gH;have H1:(some false)=some r:=by rw [if_neg (show ¬ (false=true) by decide)] at H;exact H
             clear H;have H:=H1;clear H1;obtain rfl:=Option.some.inj H;go_wp2;go_ret;exact ⟨by first|rfl|(simp [Xa,Wa] <;> rfl)|(simp [*,Xa,Wa] <;> rfl),by repeat (first|(with_reducible first|exact HB.out|apply ua|apply ga|apply Aa|refine ja ?_ Ua.out|refine ja ?_ Ib.out)|exact HB.out)⟩
           ·rw [if_neg LM] at H;have KM:(Qc == 11)=false:=beq_eq_false_iff_ne.mpr LM;have JM:(Qc != 11)=true:=bne_iff_ne.mpr LM;have vP:=aa.mk H;clear H
            go_upto_if 98 with (fail)
            go_cut [98] (fun v98 wc=>∃ (kq:Nat) (Tv:Bool),v98 = .bool Tv∧aa (Bb.j3 kq t103 Cl Qc Tv Sa Qa Ra Ca Qc Sd Jd xe ue=some r)∧aa (kq ≤ lI)∧aa (wc.heap[Fa]? = some (.cells #[(.slice zb Sa.length yb),.int .i64 Qa,.int .i64 Ra,(.slice Kb Ca.length Ab)] 30 (0,0)))∧aa (wc.heap[Ma]? = some (.cells #[.int .i64 Qc,.int .i64 Sd,.int .i64 Jd,.int .i64 xe,.int .i64 ue] 67 (0,0)))∧aa (Below w.heap.size w wc))
            case first =>
             have H:=vP.out;clear vP
             by_cases uL:Qc=6
             ·rw [if_pos uL] at H;have Kv:(Qc == 6)=true:=beq_iff_eq.mpr uL;have GM:(Qc != 6)=false:=bne_eq_false_iff_eq.mpr uL;clear uL;(first|rw [Kv]|(simp only [He,Pe];rw [Kv])|skip);have H':=aa.mk H;clear H;go_wp2
              go_meet
              case rel=>exact ⟨_,((Qc == 6)),(by first|rfl|(simp;done)|(simp [*];done)),H',⟨by have:=uP.out;have:=EH.out;have:=tP.out;first|omega|exact Nat.le_refl _⟩,⟨by (with_reducible repeat (first|refine oa ?_ _|refine za ?_|refine qa ?_ _));exact Ba.out⟩,⟨by (with_reducible repeat (first|refine oa ?_ _|refine za ?_|refine qa ?_ _));exact Ia.out⟩,⟨by repeat (first|(with_reducible first|exact HB.out|apply ua|apply ga|apply Aa|refine ja ?_ Ua.out|refine ja ?_ Ib.out)|exact HB.out)⟩⟩
             ·rw [if_neg uL] at H;have Kv:(Qc == 6)=false:=beq_eq_false_iff_ne.mpr uL;have GM:(Qc != 6)=true:=bne_iff_ne.mpr uL;(first|rw [Kv]|(simp only [He,Pe];rw [Kv])|skip)
              by_cases FM:Qc=7
              ·rw [if_pos FM] at H;have EM:(Qc == 7)=true:=beq_iff_eq.mpr FM;have DM:(Qc != 7)=false:=bne_eq_false_iff_eq.mpr FM;clear FM;have H':=aa.mk H;clear H;go_wp2
               go_meet
               case rel=>exact ⟨_,((Qc == 7)),(by first|rfl|(simp;done)|(simp [*];done)),H',⟨by have:=uP.out;have:=EH.out;have:=tP.out;first|omega|exact Nat.le_refl _⟩,⟨by (with_reducible repeat (first|refine oa ?_ _|refine za ?_|refine qa ?_ _));exact Ba.out⟩,⟨by (with_reducible repeat (first|refine oa ?_ _|refine za ?_|refine qa ?_ _));exact Ia.out⟩,⟨by repeat (first|(with_reducible first|exact HB.out|apply ua|apply ga|apply Aa|refine ja ?_ Ua.out|refine ja ?_ Ib.out)|exact HB.out)⟩⟩
              ·rw [if_neg FM] at H;have EM:(Qc == 7)=false:=beq_eq_false_iff_ne.mpr FM;have DM:(Qc != 7)=true:=bne_iff_ne.mpr FM;have H':=aa.mk H;clear H;go_wp2
               go_meet
               case rel=>exact ⟨_,((Qc == 10)),(by first|rfl|(simp;done)|(simp [*];done)),H',⟨by have:=uP.out;have:=EH.out;have:=tP.out;first|omega|exact Nat.le_refl _⟩,⟨by (with_reducible repeat (first|refine oa ?_ _|refine za ?_|refine qa ?_ _));exact Ba.out⟩,⟨by (with_reducible repeat (first|refine oa ?_ _|refine za ?_|refine qa ?_ _));exact Ia.out⟩,⟨by repeat (first|(with_reducible first|exact HB.out|apply ua|apply ga|apply Aa|refine ja ?_ Ua.out|refine ja ?_ Ib.out)|exact HB.out)⟩⟩
            case rest =>
             clear vP
             try clear c1
             try clear c2
             try clear p2
             try clear c3
             try clear c4
             try clear c5
             try clear c6
             try clear p6
             try clear c8
             try clear c9
             try clear qy
             try clear sr
             try clear vz
             try clear IZ
             try clear G6
             try clear Yr
             try clear Nv
             try clear Mv
             try clear Wx
             try clear bP
             try clear ZO
             try clear Mz
             try clear Xu
             try clear Bn
             try clear LC
             try clear qH
             try clear JD
             try clear Mu
             try clear OP
             try clear yL
             try clear nH
             try clear mH
             try clear lH
             try clear kH
             try clear NP
             try clear C6
             try clear c40
             try clear xL
             try clear Ku
             try clear iH
             try clear bU
             try clear aU
             try clear ZT
             try clear SM
             try clear RM
             try clear QM
             try clear MP
             try clear wL
             try clear LM
             try clear KM
             try clear JM
             try clear gH
             try clear fH
             try clear vL
             try clear IM
             try clear HM
             try clear c58
             try clear c60
             try clear uL
             try clear Kv
             try clear GM
             try clear FM
             try clear EM
             try clear DM
             try clear p64
             try clear zl
             try clear yl
             try clear xl
             try clear vl
             try clear dr
             try clear Oo
             try clear Mo
             try clear Lo
             try clear Ko
             try clear Tt
             try clear Vi
             try clear Ui
             try clear Ti
             try clear Si
             try clear Jx
             try clear Uj
             try clear Tj
             try clear Sj
             try clear Rj
             try clear Ix
             try clear Xq
             try clear Wq
             try clear Vq
             try clear Uq
             try clear Ot
             try clear Dx
             try clear Cx
             try clear Bx
             try clear Ax
             try clear yC
             try clear zx
             try clear yx
             try clear xx
             try clear ux
             try clear Tq
             try clear Sq
             try clear Rq
             try clear Qq
             try clear xC
             try clear wC
             try clear vC
             try clear uC
             try clear tC
             try clear sC
             try clear mC
             try clear lC
             try clear kC
             try clear jC
             try clear UK
             try clear TK
             try clear SK
             try clear RK
             try clear QK
             try clear PK
             try clear OK
             try clear NK
             try clear MK
             try clear LK
             try clear sx
             try clear qx
             try clear ox
             try clear jx
             try clear KK
             try clear JK
             try clear IK
             try clear GK
             try clear EK
             try clear DK
             try clear fo
             try clear eo
             try clear Zn
             try clear Yn
             try clear xu
             try clear ql
             try clear jl
             try clear gl
             try clear fl
             try clear Pq
             try clear Jo
             try clear Io
             try clear Ho
             try clear Fo
             try clear Et
             try clear Ri
             try clear Qi
             try clear Oi
             try clear Ni
             try clear Vw
             try clear Qj
             try clear Pj
             try clear Oj
             try clear Nj
             try clear Uw
             try clear Jq
             try clear Iq
             try clear Hq
             try clear Gq
             try clear vt
             try clear Pw
             try clear Ow
             try clear Nw
             try clear Mw
             try clear PB
             try clear Lw
             try clear Kw
             try clear Jw
             try clear Iw
             try clear Fq
             try clear Dq
             try clear Cq
             try clear Bq
             try clear OB
             try clear NB
             try clear MB
             try clear LB
             try clear KB
             try clear JB
             try clear CB
             try clear BB
             try clear AB
             try clear zB
             try clear xJ
             try clear wJ
             try clear vJ
             try clear uJ
             try clear tJ
             try clear sJ
             try clear rJ
             try clear qJ
             try clear pJ
             try clear oJ
             try clear Hw
             try clear Gw
             try clear Fw
             try clear Ew
             try clear nJ
             try clear mJ
             try clear lJ
             try clear kJ
             try clear jJ
             try clear iJ
             try clear Xn
             try clear Wn
             try clear Vn
             try clear Un
             try clear vu
             try clear p2
             try clear p6
             obtain ⟨kq,Tv,rfl,HA,Xac,Ba,Ia,HB⟩:=hcut;cases kq with
             | zero=>exact absurd HA.out (by simp [Bb.j3])
             | succ Iab =>
              have H:=HA.out;clear HA;simp only [Bb.j3] at H
              by_cases GZ:Tv=true
              ·subst GZ;have H1:(if t103=true then (if Cl=true then (some (ue == 0)) else (some false)) else (some false))=some r:=by rw [if_pos rfl] at H;exact H
               clear H;have H:=H1;clear H1
               by_cases FZ:t103=true
               ·subst FZ;have H1:(if Cl=true then (some (ue == 0)) else (some false))=some r:=by rw [if_pos rfl] at H;exact H
                clear H;have H:=H1;clear H1
                by_cases EZ:Cl=true
                ·subst EZ;have H1:(some (ue == 0))=some r:=by rw [if_pos rfl] at H;exact H
                 clear H;have H:=H1;clear H1;obtain rfl:=Option.some.inj H;have N9:=Sb.out;have K8:=Tb.out;have wK:wc.cell? ⟨Ma,0,none⟩=some (.int .i64 Qc):=(ya Ia.out 0).trans rfl;have vK:wc.cell? ⟨Ma,1,none⟩=some (.int .i64 Sd):=(ya Ia.out 1).trans rfl;have uK:wc.cell? ⟨Ma,2,none⟩=some (.int .i64 Jd):=(ya Ia.out 2).trans rfl;have tK:wc.cell? ⟨Ma,3,none⟩=some (.int .i64 xe):=(ya Ia.out 3).trans rfl;have rY:wc.cell? ⟨Ma,4,none⟩=some (.int .i64 ue):=(ya Ia.out 4).trans rfl;have ZI:=ia Ia.out 0;have YI:=ia Ia.out 1;have XI:=ia Ia.out 2;have WI:=ia Ia.out 3;have qW:=ia Ia.out 4;go_wp2;go_ret;exact ⟨by first|rfl|(simp [Xa,Wa] <;> rfl)|(simp [*,Xa,Wa] <;> rfl),by repeat (first|(with_reducible first|exact HB.out|apply ua|apply ga|apply Aa|refine ja ?_ Ua.out|refine ja ?_ Ib.out)|exact HB.out)⟩
                ·replace EZ:=Bool.eq_false_iff.mpr EZ;subst EZ;have H1:(some false)=some r:=by rw [if_neg (show ¬ (false=true) by decide)] at H;exact H
                 clear H;have H:=H1;clear H1;obtain rfl:=Option.some.inj H;go_wp2;go_ret;exact ⟨by first|rfl|(simp [Xa,Wa] <;> rfl)|(simp [*,Xa,Wa] <;> rfl),by repeat (first|(with_reducible first|exact HB.out|apply ua|apply ga|apply Aa|refine ja ?_ Ua.out|refine ja ?_ Ib.out)|exact HB.out)⟩
               ·replace FZ:=Bool.eq_false_iff.mpr FZ;subst FZ;have H1:(some false)=some r:=by rw [if_neg (show ¬ (false=true) by decide)] at H;exact H
                clear H;have H:=H1;clear H1;obtain rfl:=Option.some.inj H;go_wp2;go_ret;exact ⟨by first|rfl|(simp [Xa,Wa] <;> rfl)|(simp [*,Xa,Wa] <;> rfl),by repeat (first|(with_reducible first|exact HB.out|apply ua|apply ga|apply Aa|refine ja ?_ Ua.out|refine ja ?_ Ib.out)|exact HB.out)⟩
              ·replace GZ:=Bool.eq_false_iff.mpr GZ;subst GZ;have H1:(if Qc=8 then (if Sd=0 then (if Cl=true then ((Eb.f ue 0 (wrap64 ((Ca.length:Int) - 1))).bind fun t109=>(some t109)) else (some false)) else (some false)) else (if Qc=9 then (if t103=true then (if Cl=true then ((Eb.f ue 0 (wrap64 ((Ca.length:Int) - 1))).bind fun t110=>(some t110)) else (some false)) else (some false)) else (some false)))=some r:=by rw [if_neg (show ¬ (false=true) by decide)] at H;exact H
               clear H;have H:=H1;clear H1
               by_cases UO:Qc=8
               ·rw [if_pos UO] at H;have UT:(Qc == 8)=true:=beq_iff_eq.mpr UO;have TT:(Qc != 8)=false:=bne_eq_false_iff_eq.mpr UO;clear UO
                by_cases ID:Sd=0
                ·rw [if_pos ID] at H;have eH:(Sd == 0)=true:=beq_iff_eq.mpr ID;have RT:(Sd != 0)=false:=bne_eq_false_iff_eq.mpr ID;clear ID
                 by_cases UH:Cl=true
                 ·subst UH;have H1:((Eb.f ue 0 (wrap64 ((Ca.length:Int) - 1))).bind fun t109=>(some t109))=some r:=by rw [if_pos rfl] at H;exact H
                  clear H;have H:=H1;clear H1;replace H:=Option.bind_eq_some_iff.mp H;obtain ⟨t109,XU,H⟩:=H;replace H:(some t109)=some r:=H;have A73:=aa.mk XU;clear XU;obtain rfl:=Option.some.inj H;have lR:=Sb.out;have SQ:=Tb.out;have eY:wc.cell? ⟨Ma,0,none⟩=some (.int .i64 Qc):=(ya Ia.out 0).trans rfl;have dY:wc.cell? ⟨Ma,1,none⟩=some (.int .i64 Sd):=(ya Ia.out 1).trans rfl;have cY:wc.cell? ⟨Ma,2,none⟩=some (.int .i64 Jd):=(ya Ia.out 2).trans rfl;have bY:wc.cell? ⟨Ma,3,none⟩=some (.int .i64 xe):=(ya Ia.out 3).trans rfl;have aY:wc.cell? ⟨Ma,4,none⟩=some (.int .i64 ue):=(ya Ia.out 4).trans rfl;have cW:=ia Ia.out 0;have bW:=ia Ia.out 1;have aW:=ia Ia.out 2;have ZV:=ia Ia.out 3;have YV:=ia Ia.out 4;have gx:wc.cell? ⟨Fa,0,none⟩=some (.slice zb Sa.length yb):=(ya Ba.out 0).trans rfl;have dx:wc.cell? ⟨Fa,1,none⟩=some (.int .i64 Qa):=(ya Ba.out 1).trans rfl;have cx:wc.cell? ⟨Fa,2,none⟩=some (.int .i64 Ra):=(ya Ba.out 2).trans rfl;have bx:wc.cell? ⟨Fa,3,none⟩=some (.slice Kb Ca.length Ab):=(ya Ba.out 3).trans rfl;have Dw:=ia Ba.out 0;have Cw:=ia Ba.out 1;have Bw:=ia Ba.out 2;have Aw:=ia Ba.out 3;go_wp2_with (first|(go_at_call 81;(with_reducible refine (Eb.calls ue 0 (wrap64 ((Ca.length:Int) - 1)) t109 _ A73.out).mono ?_);rintro e w' ⟨rfl,⟨nd,rfl⟩⟩));go_ret;exact ⟨by first|rfl|(simp [Xa,Wa] <;> rfl)|(simp [*,Xa,Wa] <;> rfl),by repeat (first|(with_reducible first|exact HB.out|apply ua|apply ga|apply Aa|refine ja ?_ Ua.out|refine ja ?_ Ib.out)|exact HB.out)⟩
                 ·replace UH:=Bool.eq_false_iff.mpr UH;subst UH;have H1:(some false)=some r:=by rw [if_neg (show ¬ (false=true) by decide)] at H;exact H
                  clear H;have H:=H1;clear H1;obtain rfl:=Option.some.inj H;have L9:=Sb.out;have I8:=Tb.out;have ZX:wc.cell? ⟨Ma,0,none⟩=some (.int .i64 Qc):=(ya Ia.out 0).trans rfl;have YX:wc.cell? ⟨Ma,1,none⟩=some (.int .i64 Sd):=(ya Ia.out 1).trans rfl;have XX:wc.cell? ⟨Ma,2,none⟩=some (.int .i64 Jd):=(ya Ia.out 2).trans rfl;have WX:wc.cell? ⟨Ma,3,none⟩=some (.int .i64 xe):=(ya Ia.out 3).trans rfl;have VX:wc.cell? ⟨Ma,4,none⟩=some (.int .i64 ue):=(ya Ia.out 4).trans rfl;have XV:=ia Ia.out 0;have WV:=ia Ia.out 1;have VV:=ia Ia.out 2;have TV:=ia Ia.out 3;have SV:=ia Ia.out 4;go_wp2;go_ret;exact ⟨by first|rfl|(simp [Xa,Wa] <;> rfl)|(simp [*,Xa,Wa] <;> rfl),by repeat (first|(with_reducible first|exact HB.out|apply ua|apply ga|apply Aa|refine ja ?_ Ua.out|refine ja ?_ Ib.out)|exact HB.out)⟩
                ·rw [if_neg ID] at H;have eH:(Sd == 0)=false:=beq_eq_false_iff_ne.mpr ID;have RT:(Sd != 0)=true:=bne_iff_ne.mpr ID;obtain rfl:=Option.some.inj H;have kR:=Sb.out;have RQ:=Tb.out;have UX:wc.cell? ⟨Ma,0,none⟩=some (.int .i64 Qc):=(ya Ia.out 0).trans rfl;have TX:wc.cell? ⟨Ma,1,none⟩=some (.int .i64 Sd):=(ya Ia.out 1).trans rfl;have SX:wc.cell? ⟨Ma,2,none⟩=some (.int .i64 Jd):=(ya Ia.out 2).trans rfl;have RX:wc.cell? ⟨Ma,3,none⟩=some (.int .i64 xe):=(ya Ia.out 3).trans rfl;have QX:wc.cell? ⟨Ma,4,none⟩=some (.int .i64 ue):=(ya Ia.out 4).trans rfl;have RV:=ia Ia.out 0;have QV:=ia Ia.out 1;have PV:=ia Ia.out 2;have OV:=ia Ia.out 3;have NV:=ia Ia.out 4;go_wp2;go_ret;exact ⟨by first|rfl|(simp [Xa,Wa] <;> rfl)|(simp [*,Xa,Wa] <;> rfl),by repeat (first|(with_reducible first|exact HB.out|apply ua|apply ga|apply Aa|refine ja ?_ Ua.out|refine ja ?_ Ib.out)|exact HB.out)⟩
               ·rw [if_neg UO] at H;have UT:(Qc == 8)=false:=beq_eq_false_iff_ne.mpr UO;have TT:(Qc != 8)=true:=bne_iff_ne.mpr UO
                by_cases RO:Qc=9
                ·rw [if_pos RO] at H;have PT:(Qc == 9)=true:=beq_iff_eq.mpr RO;have OT:(Qc != 9)=false:=bne_eq_false_iff_eq.mpr RO;clear RO
                 by_cases DZ:t103=true
                 ·subst DZ;have H1:(if Cl=true then ((Eb.f ue 0 (wrap64 ((Ca.length:Int) - 1))).bind fun t110=>(some t110)) else (some false))=some r:=by rw [if_pos rfl] at H;exact H
                  clear H;have H:=H1;clear H1
                  by_cases CZ:Cl=true
                  ·subst CZ;have H1:((Eb.f ue 0 (wrap64 ((Ca.length:Int) - 1))).bind fun t110=>(some t110))=some r:=by rw [if_pos rfl] at H;exact H
                   clear H;have H:=H1;clear H1;replace H:=Option.bind_eq_some_iff.mp H;obtain ⟨t110,VU,H⟩:=H;replace H:(some t110)=some r:=H;have A84:=aa.mk VU;clear VU;obtain rfl:=Option.some.inj H;have jR:=Sb.out;have OQ:=Tb.out;have bC:wc.cell? ⟨Ma,0,none⟩=some (.int .i64 Qc):=(ya Ia.out 0).trans rfl;have aC:wc.cell? ⟨Ma,1,none⟩=some (.int .i64 Sd):=(ya Ia.out 1).trans rfl;have ZB:wc.cell? ⟨Ma,2,none⟩=some (.int .i64 Jd):=(ya Ia.out 2).trans rfl;have YB:wc.cell? ⟨Ma,3,none⟩=some (.int .i64 xe):=(ya Ia.out 3).trans rfl;have PX:wc.cell? ⟨Ma,4,none⟩=some (.int .i64 ue):=(ya Ia.out 4).trans rfl;have uB:=ia Ia.out 0;have tB:=ia Ia.out 1;have sB:=ia Ia.out 2;have rB:=ia Ia.out 3;have MV:=ia Ia.out 4;have iK:wc.cell? ⟨Fa,0,none⟩=some (.slice zb Sa.length yb):=(ya Ba.out 0).trans rfl;have gK:wc.cell? ⟨Fa,1,none⟩=some (.int .i64 Qa):=(ya Ba.out 1).trans rfl;have fK:wc.cell? ⟨Fa,2,none⟩=some (.int .i64 Ra):=(ya Ba.out 2).trans rfl;have dK:wc.cell? ⟨Fa,3,none⟩=some (.slice Kb Ca.length Ab):=(ya Ba.out 3).trans rfl;have LI:=ia Ba.out 0;have KI:=ia Ba.out 1;have JI:=ia Ba.out 2;have II:=ia Ba.out 3;go_wp2_with (first|(go_at_call 81;(with_reducible refine (Eb.calls ue 0 (wrap64 ((Ca.length:Int) - 1)) t110 _ A84.out).mono ?_);rintro e w' ⟨rfl,⟨nd,rfl⟩⟩));go_ret;exact ⟨by first|rfl|(simp [Xa,Wa] <;> rfl)|(simp [*,Xa,Wa] <;> rfl),by repeat (first|(with_reducible first|exact HB.out|apply ua|apply ga|apply Aa|refine ja ?_ Ua.out|refine ja ?_ Ib.out)|exact HB.out)⟩
                  ·replace CZ:=Bool.eq_false_iff.mpr CZ;subst CZ;have H1:(some false)=some r:=by rw [if_neg (show ¬ (false=true) by decide)] at H;exact H
                   clear H;have H:=H1;clear H1;obtain rfl:=Option.some.inj H;go_wp2;go_ret;exact ⟨by first|rfl|(simp [Xa,Wa] <;> rfl)|(simp [*,Xa,Wa] <;> rfl),by repeat (first|(with_reducible first|exact HB.out|apply ua|apply ga|apply Aa|refine ja ?_ Ua.out|refine ja ?_ Ib.out)|exact HB.out)⟩
                 ·replace DZ:=Bool.eq_false_iff.mpr DZ;subst DZ;have H1:(some false)=some r:=by rw [if_neg (show ¬ (false=true) by decide)] at H;exact H
                  clear H;have H:=H1;clear H1;obtain rfl:=Option.some.inj H;go_wp2;go_ret;exact ⟨by first|rfl|(simp [Xa,Wa] <;> rfl)|(simp [*,Xa,Wa] <;> rfl),by repeat (first|(with_reducible first|exact HB.out|apply ua|apply ga|apply Aa|refine ja ?_ Ua.out|refine ja ?_ Ib.out)|exact HB.out)⟩
                ·rw [if_neg RO] at H;have PT:(Qc == 9)=false:=beq_eq_false_iff_ne.mpr RO;have OT:(Qc != 9)=true:=bne_iff_ne.mpr RO;obtain rfl:=Option.some.inj H;go_wp2;go_ret;exact ⟨by first|rfl|(simp [Xa,Wa] <;> rfl)|(simp [*,Xa,Wa] <;> rfl),by repeat (first|(with_reducible first|exact HB.out|apply ua|apply ga|apply Aa|refine ja ?_ Ua.out|refine ja ?_ Ib.out)|exact HB.out)⟩
end Go.Proofs.Ytoomcmaifgkkfaa.P
end
