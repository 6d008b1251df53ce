import Derived.Test.YtgflknmbnblpaaaDoorProg
import Derived.Below
import Derived.Deep.Draws
import Derived.Deep.AppendLies
import Derived.Maps.AppendAt
import Derived.OwnWalk
import Derived.Laws.BytesArg
import Derived.Laws.MakeOwn
import Derived.Laws.OwnMore
import Derived.Deep.OwnRows
import Derived.Tactics
import Derived.Lib.ConvBytes
import Derived.Laws.Slices
import Derived.WalkKit
import Derived.KernelRfl
import Derived.RowKit3
import Derived.Deep.LoopGhost
import Derived.Deep.QuietTactic
import Derived.BigQuiet
import Derived.WideLaws
import Derived.Deep.DeepCutAuto
import Derived.Deep.CutBlock
import Derived.Deep.RegionHeld3
import Derived.Laws.Rows
import Derived.Lib.AppendStr
import Derived.ArgAppend
import Derived.Laws.IdiomCopy
import Derived.OrdersHeld
import Derived.Laws.BitsLemmas
import Derived.RowKit
import Derived.Test.YtgflknmbnblpaaaDoorQFactTextW1
import Derived.Deep.Slices
import Derived.ChangeArms
import Derived.OpenShut
import Derived.WideShapes
import Derived.Shelf.Strings.Builder1
import Derived.Shelf.Strings.Builder2
import Derived.Shelf.Strings.OnBuilder
import Derived.Shelf.Strings.BuilderF
import Derived.Shelf.Strings.BuilderK
import Derived.Shelf.Strings.Builder2Cap
import Derived.Shelf.Strconv.Itoa0
import Derived.Shelf.Strconv.Itoa1
import Derived.Shelf.LaysM
import Derived.Shelf.Strconv.Itoa2
import Derived.Shelf.Strconv.Itoa3
import Derived.Shelf.Strings.BuilderCap
import Derived.Shelf.Slices.Turned
import Derived.Shelf.Abstract
import Derived.Outline
import Derived.Lib.LaidTab
import Derived.Lib.SmallJoins
import Derived.Lib.Join
set_option maxHeartbeats 8000000
set_option maxRecDepth 100000
section
namespace Go.Proofs.YtgflknmbnblpaaaDoor.P
open Go.RowKit Go.Proofs.aa.Aa Go.Proofs.aa.Db Go.Proofs.aa.Dd
set_option linter.unusedVariables false
set_option linter.unusedSimpArgs false
attribute [local go_sem] Qf Nf Ag zg Te Re Pf Mf
def cm:Option Int→Value
 | none=>.nilIface
 | some c=>.iface 0 (.int .i64 c)
theorem Na:cm none = .nilIface:=rfl
theorem Ma (c:Int):cm (some c) = .iface 0 (.int .i64 c):=rfl
theorem Nl:(Tryd.prog.info? 9).map (fun i=>(i.zero,i.size,i.bytes))=some (some (.string ⟨#[]⟩),1,16):=by kernel_rfl
theorem Nk:(Tryd.prog.info? 43).map (fun i=>(i.zero,i.size,i.bytes))=some (some (.agg #[(.int .i64 0),(.int .i64 0)]),2,16):=by kernel_rfl
structure Lg where
 f0:Int
 f1:Int
def xp:Lg:=⟨(0:Int),(0:Int)⟩
def Mk:Kd Lg:=Kd.Un (Kd.pair (Kd.int .i64) (Kd.int .i64)) (fun x:Lg=>(x.f0,x.f1))
theorem Yi {w:World} {x:Lg} {cs:List Value} (h:Mk.K w x cs):cs=[.int .i64 x.f0,.int .i64 x.f1]:=by
 obtain ⟨_,_,rfl,rfl,rfl⟩:=h;exact rfl
def td (xs:List Lg) (i:Int):Lg:=xs.getD i.toNat xp
theorem zl {w:World} {A:Option Addr} {n:Nat} {xs:List Lg} (h:Kd.C Mk w A n xs) (i:Int) (h0:0 ≤ i) (h1:i < n):∃ ad , A=some ad∧w.cell? (ad.add (i.toNat * 2))=some (.int .i64 (td xs i).f0)∧w.cell? ⟨(ad.add (i.toNat * 2)).block,(ad.add (i.toNat * 2)).off + 1,none⟩=some (.int .i64 (td xs i).f1):=by
 obtain ⟨ad,c,e,_,hK,hc0⟩:=Kd.Bk h xp i h0 h1;have hc:∀ j u,c[j]? = some u→w.cell? (ad.add (i.toNat * 2 + j))=some u:=hc0;obtain rfl:=Yi hK;exact ⟨ad,e,hc 0 _ rfl,by rw [← sg _ _ 1 (by omega)];exact hc 1 _ rfl⟩
structure Yc where
 f0:Int
 f1:Int
def Mh:Yc:=⟨(0:Int),(0:Int)⟩
def Tg:Kd Yc:=Kd.Un (Kd.pair (Kd.int .i64) (Kd.int .i64)) (fun x:Yc=>(x.f0,x.f1))
theorem Zi {w:World} {x:Yc} {cs:List Value} (h:Tg.K w x cs):cs=[.int .i64 x.f0,.int .i64 x.f1]:=by
 obtain ⟨_,_,rfl,rfl,rfl⟩:=h;exact rfl
theorem mg {w:World} {base:Nat} {ok:Nat→Prop} {x:Yc} {cs:List Value} (h:Tg.M w base ok x cs):cs=[.int .i64 x.f0,.int .i64 x.f1]:=by
 obtain ⟨_,_,rfl,rfl,rfl⟩:=h;exact rfl
theorem Th (w:World) (base:Nat) (ok:Nat→Prop) (x:Yc)  : Tg.M w base ok x [.int .i64 x.f0,.int .i64 x.f1]:=⟨[.int .i64 x.f0],[.int .i64 x.f1],rfl,rfl,rfl⟩
def Ba (xs:List Yc) (i:Int):Yc:=xs.getD i.toNat Mh
theorem Bc {w:World} {A:Option Addr} {n:Nat} {xs:List Yc} (h:Kd.C Tg w A n xs) (i:Int) (h0:0 ≤ i) (h1:i < n):∃ ad , A=some ad∧w.cell? (ad.add (i.toNat * 2))=some (.int .i64 (Ba xs i).f0)∧w.cell? ⟨(ad.add (i.toNat * 2)).block,(ad.add (i.toNat * 2)).off + 1,none⟩=some (.int .i64 (Ba xs i).f1):=by
 obtain ⟨ad,c,e,_,hK,hc0⟩:=Kd.Bk h Mh i h0 h1;have hc:∀ j u,c[j]? = some u→w.cell? (ad.add (i.toNat * 2 + j))=some u:=hc0;obtain rfl:=Zi hK;exact ⟨ad,e,hc 0 _ rfl,by rw [← sg _ _ 1 (by omega)];exact hc 1 _ rfl⟩
structure rq where
 f0:Int
 f1:Int
 f2:Int
 f3:Int
 f4:Int
structure ur where
 f0:(List Int)
 f1:Int
 f2:Int
 f3:(List rq)
def z31:ur:=⟨([]:List Int),(0:Int),(0:Int),([]:List rq)⟩
structure Yo where
 f0:Int
 f1:Int
 f2:Int
 f3:Int
 f4:Int
def z53:Yo:=⟨(0:Int),(0:Int),(0:Int),(0:Int),(0:Int)⟩
structure tr where
 f0:(List Int)
 f1:Int
 f2:Int
 f3:(List Yo)
def z37:tr:=⟨([]:List Int),(0:Int),(0:Int),([]:List Yo)⟩
structure Km where
 f0:Int
 f1:Int
 f2:Int
 f3:ByteArray
 f4:(List Km)
structure Nn where
 f0:Int
 f1:Int
 f2:Int
 f3:(List Km)
 f4:(List Nn)
 f5:(List Nn)
structure nr where
 f0:(List Int)
 f1:Int
 f2:Int
 f3:(List Nn)
def z75:nr:=⟨([]:List Int),(0:Int),(0:Int),([]:List Nn)⟩
def Gd (P:Program) (t:TypeId) {α:Type} (d:Kd α) (fit:α→Prop):Prop :=
 ∀ {H:Type} {enc:TypeId × Value→H} {w:World} {base:Nat} {spare:Nat→Bool} {held:Bool} {fuel:Nat} {cs:List Value} {x:DataW H × List MemPlace},
  DataW.trod enc P w base spare held fuel t cs=some x→∃ a:α,d.K w a cs∧fit a
theorem Ci {P:Program} {t:TypeId} {k:IntKind} (ht:P.underlying t=some (.int k)):Gd P t (Kd.int k) (fun n=>(Lit.int k n).wf=true):=by
 intro H enc w base spare held fuel cs x h;obtain ⟨n,rfl,_,hw⟩:=DataW.trod_int ht h;exact ⟨n,rfl,hw⟩
def ij (n:Int):Prop:=-9223372036854775808 ≤ n∧n ≤ 9223372036854775807
theorem wf_i64 {n:Int} (h:(Lit.int .i64 n).wf=true):ij n:=by
 simp [Lit.wf,IntKind.min,IntKind.max,IntKind.signed,IntKind.bits] at h;unfold ij;omega
theorem jg {P:Program} {t:TypeId} (ht:P.underlying t=some (.int .i64)):Gd P t (Kd.int .i64) ij:=by
 intro H enc w base spare held fuel cs x h;obtain ⟨n,h1,h2⟩:=Ci ht h;exact ⟨n,h1,wf_i64 h2⟩
theorem ef {α:Type} {p:Nat→α→Prop}:∀ n,(∀ i,i < n→∃ a,p i a)→∃ xs:List α,xs.length=n∧∀ (i:Nat) (a:α),xs[i]? = some a→p i a
 | 0,_=>⟨[],rfl,fun i a h=>by simp at h⟩
 | n + 1,h=>by
  obtain ⟨xs,hl,hx⟩:=ef n (fun i hi=>h i (by omega));obtain ⟨a,ha⟩:=h n (by omega);refine ⟨xs ++ [a],by simp [hl],fun i b hb=>?_⟩
  rcases Nat.lt_or_ge i xs.length with hi|hi
  ·rw [List.getElem?_append_left hi] at hb;exact hx i b hb
  ·have:i=n:=by
    have:=(List.getElem?_eq_some_iff.1 hb).1;simp [hl] at this;omega
   subst this;rw [List.getElem?_append_right hi,hl] at hb;simp at hb;exact hb ▸ ha
theorem Pg {P:Program} {t e e':TypeId} {α:Type} {d:Kd α} {fit:α→Prop} (ht:P.underlying t=some (.slice e)) (hs:P.cellsOf e=d.sz) (h:Gd P e d fit):Gd P t (Kd.slice e' d) (fun l=>l.length ≤ 9223372036854775807∧∀ a ∈ l,fit a):=by
 intro H enc w base spare held fuel cs x hx
 rcases Go.Deep.open_slice ht hx with ⟨rfl,_⟩|⟨a,len,cap,m,n,D,Pl,rfl,hb,hl,hm,hmm,_,hel⟩
 ·exact ⟨[],⟨none,0,rfl,Nat.le_refl _,rfl,by simp,fun hp=>absurd hp (by simp)⟩,by simp,by simp⟩
 ·have hle:len ≤ m:=by rw [hmm];split <;> omega
  have Jr:len ≤ 9223372036854775807:=by simp only [maxLen] at hm;omega
  obtain ⟨xs,hxl,hxs⟩:=ef (α:=α) (p:=fun i y=>∃ c,c.length=d.sz∧d.K w y c∧(∀ j u,c[j]? = some u→w.cell? (a.add (i * d.sz + j))=some u)∧fit y) len (fun i hi=>by
   obtain ⟨cs',h1,h2⟩:=hel i (by omega);obtain ⟨y,hy,hf⟩:=h h2;obtain ⟨_,hcl,Co⟩:=World.cells?_some h1;refine ⟨y,cs',by rw [hcl,hs],hy,fun j u hu=>?_,hf⟩;have hj:j < P.cellsOf e:=by rw [← hcl];exact (List.getElem?_eq_some_iff.1 hu).1
   rw [← hs,← Go.Deep.add_add,Co j hj]
   exact hu)
  refine ⟨xs,⟨some a,cap,by rw [hxl],by omega,rfl,by omega,fun _=>⟨a,rfl,fun j p hj=>?_⟩⟩,by omega,fun y hy=>?_⟩
  ·obtain ⟨c,h1,h2,h3,_⟩:=hxs j p hj;exact ⟨c,h1,h2,h3⟩
  ·obtain ⟨i,hi,rfl⟩:=List.getElem_of_mem hy;obtain ⟨c,_,_,_,h4⟩:=hxs i _ (List.getElem?_eq_getElem hi);exact h4
def Jg (P:Program) (fs:List Field) (off:Nat) {α:Type} (d:Kd α) (fit:α→Prop):Prop :=
 ∀ {H:Type} {enc:TypeId × Value→H} {w:World} {base:Nat} {spare:Nat→Bool} {held:Bool} {n:Nat} {cs:List Value},
  (∀ f ∈ fs,∃ y,DataW.trod enc P w base spare held n f.type ((cs.drop f.offset).take (P.cellsOf f.type))=some y)→cs.length=off + d.sz→∃ a:α,d.K w a (cs.drop off)∧fit a
theorem wh {P:Program} {f:Field} {off:Nat} {α:Type} {d:Kd α} {fit:α→Prop} (ho:f.offset=off) (hs:P.cellsOf f.type=d.sz) (h:Gd P f.type d fit):Jg P [f] off d fit:=by
 intro H enc w base spare held n cs hf hl;obtain ⟨y,hy⟩:=hf f (by simp);rw [ho,hs,List.take_of_length_le (by rw [List.length_drop];omega)] at hy;exact h hy
theorem Qg {P:Program} {f:Field} {fs:List Field} {off off2:Nat} {α β:Type} {d:Kd α} {d2:Kd β} {fit:α→Prop} {Zl:β→Prop} (ho:f.offset=off) (hs:P.cellsOf f.type=d.sz) (Zn:off2=off + d.sz) (h:Gd P f.type d fit) (h2:Jg P fs off2 d2 Zl):Jg P (f :: fs) off (Kd.pair d d2) (fun p=>fit p.1∧Zl p.2):=by
 intro H enc w base spare held n cs hf hl;have hl':cs.length=off + (d.sz + d2.sz):=hl;obtain ⟨y,hy⟩:=hf f (by simp);rw [ho,hs] at hy;obtain ⟨a,ha,fa⟩:=h hy;obtain ⟨b,hb,fb⟩:=h2 (fun g hg=>hf g (List.mem_cons_of_mem _ hg)) (by omega);refine ⟨(a,b),⟨(cs.drop off).take d.sz,cs.drop off2,?_,ha,hb⟩,fa,fb⟩;rw [Zn,← List.drop_drop,List.take_append_drop]
theorem yg {P:Program} {t:TypeId} {fs:Array Field} {α:Type} {d:Kd α} {fit:α→Prop} (ht:P.underlying t=some (.struct fs)) (hs:P.cellsOf t=d.sz) (h:Jg P fs.toList 0 d fit):Gd P t d fit:=by
 intro H enc w base spare held fuel cs x hx;obtain ⟨xs,n,_,_,hl,hxl,hf⟩:=DataW.trod_struct ht hx
 have:=h (w:=w) (enc:=enc) (base:=base) (spare:=spare) (held:=held) (n:=n) (cs:=cs) (fun f Rq=>by
  obtain ⟨i,hi,rfl⟩:=List.getElem_of_mem Rq;have hi':i < fs.size:=by simpa using hi
  have h1:=hf i (fs.toList[i]) (by simp [hi']);rw [List.getElem?_eq_getElem (by omega)] at h1
  exact ⟨_,h1⟩) (by omega)
 simpa using this
theorem Bi {P:Program} {t:TypeId} {α β:Type} {d:Kd α} {fit:α→Prop} {g:β→α} (gi:α→β) (hg:∀ a,g (gi a)=a) (h:Gd P t d fit):Gd P t (Kd.Un d g) (fun b=>fit (g b)):=by
 intro H enc w base spare held fuel cs x hx;obtain ⟨a,ha,hf⟩:=h hx;refine ⟨gi a,?_,?_⟩
 ·show d.K w (g (gi a)) cs
  rw [hg];exact ha
 ·show fit (g (gi a))
  rw [hg];exact hf
theorem Lj {P:Program} {t e':TypeId} {α:Type} {d:Kd α} {fit:List α→Prop} {H:Type} {enc:TypeId × Value→H} {w:World} {base:Nat} {spare:Nat→Bool} {held:Bool} {A:Option Addr} {n c:Nat} {dt:DataW H} {p:List MemPlace}
  (h:Gd P t (Kd.slice e' d) fit) (hd:DataW.Trod enc P w base spare held t (.slice A n c) dt p) :
  ∃ l:List α,n=l.length∧l.length ≤ c∧d.C w A l.length l∧fit l:=by
 obtain ⟨fuel,hf⟩:=hd;obtain ⟨l,⟨A',c',he,hl,hc⟩,hfl⟩:=h hf;simp only [Value.cells,List.cons.injEq,Value.slice.injEq,and_true] at he;obtain ⟨rfl,rfl,rfl⟩:=he;exact ⟨l,rfl,hl,hc,hfl⟩
def jj (x:Lg):Prop:=ij x.f0∧ij x.f1
theorem Jj:Gd Tryd.prog 45 Mk jj:=Bi (fun p=>⟨p.1,p.2⟩) (fun _=>rfl) (yg Tryd.underlying45 (by kernel_rfl) (Qg rfl (by kernel_rfl) (by kernel_rfl) (jg Tryd.underlying3) (wh rfl (by kernel_rfl) (jg Tryd.underlying3))))
theorem Kj:Gd Tryd.prog 22 (Kd.slice 45 Mk) (fun l=>l.length ≤ 9223372036854775807∧∀ a ∈ l,jj a):=Pg Tryd.underlying22 (by kernel_rfl) Jj
end Go.Proofs.YtgflknmbnblpaaaDoor.P
end
section
namespace Go.Proofs.YtgflknmbnblpaaaDoor.P
open Go.RowKit Go.Proofs.aa.Aa Go.Proofs.aa.Db Go.Proofs.aa.Dd
set_option linter.unusedVariables false
set_option linter.unusedSimpArgs false
open Go.Shelf
def jd:Go.Shelf.Ren:=⟨fun | 156=>19 | 165=>30 | 166=>31 | 169=>32 | 240=>43 | 241=>44 | 276=>54 | 277=>55|n=>n,fun | 31=>46 | 9=>9 | 3=>3 | 4=>4 | 0=>0 | 20=>20 | 72=>61 | 76=>65 | 70=>58 | 37=>59 | 75=>64 | 127=>80 | 164=>92 | 5=>5 | 80=>67|n=>n,fun|n=>n⟩
theorem Zd:Go.Proofs.Lays.n156 Tryd.prog jd:={
 mixed:=by kernel_rfl
 f156:=Tryd.func19.trans (congrArg some (by kernel_rfl))
 f165:=Tryd.func30.trans (congrArg some (by kernel_rfl))
 f166:=Tryd.func31.trans (congrArg some (by kernel_rfl))
 f169:=Tryd.func32.trans (congrArg some (by kernel_rfl))
 f240:=Tryd.func43.trans (congrArg some (by kernel_rfl))
 f241:=Tryd.func44.trans (congrArg some (by kernel_rfl))
 f276:=Tryd.func54.trans (congrArg some (by kernel_rfl))
 f277:=Tryd.func55.trans (congrArg some (by kernel_rfl))
 t0:=Tryd.underlying0
 a0:=Tryd.isAgg0
 z0:=Tryd.sizeOf0
 v0:=Tryd.zeroValue0
 t3:=Tryd.underlying3
 a3:=Tryd.isAgg3
 z3:=Tryd.sizeOf3
 v3:=Tryd.zeroValue3
 t4:=Tryd.underlying4
 a4:=Tryd.isAgg4
 z4:=Tryd.sizeOf4
 v4:=Tryd.zeroValue4
 t9:=Tryd.underlying9
 a9:=Tryd.isAgg9
 z9:=Tryd.sizeOf9
 v9:=Tryd.zeroValue9
 t20:=Tryd.underlying20
 a20:=Tryd.isAgg20
 z20:=Tryd.sizeOf20
 v20:=Tryd.zeroValue20
 t31:=Tryd.underlying46
 a31:=Tryd.isAgg46
 z31:=Tryd.sizeOf46
 v31:=Tryd.zeroValue46
 t37:=Tryd.underlying59
 a37:=Tryd.isAgg59
 z37:=Tryd.sizeOf59
 v37:=Tryd.zeroValue59
 t70:=Tryd.underlying58
 a70:=Tryd.isAgg58
 z70:=Tryd.sizeOf58
 v70:=Tryd.zeroValue58
 t72:=Tryd.underlying61
 a72:=Tryd.isAgg61
 z72:=Tryd.sizeOf61
 v72:=Tryd.zeroValue61
 t75:=Tryd.underlying64
 a75:=Tryd.isAgg64
 z75:=Tryd.sizeOf64
 v75:=Tryd.zeroValue64
 t76:=Tryd.underlying65
 a76:=Tryd.isAgg65
 z76:=Tryd.sizeOf65
 v76:=Tryd.zeroValue65
 t127:=Tryd.underlying80
 a127:=Tryd.isAgg80
 z127:=Tryd.sizeOf80
 v127:=Tryd.zeroValue80
 t164:=Tryd.underlying92
 a164:=Tryd.isAgg92
 z164:=Tryd.sizeOf92
 v164:=Tryd.zeroValue92 }
theorem mc:Builder.Extra Tryd.prog jd:={
 sizeBuilder:=by kernel_rfl
 liesBuilder:=by kernel_rfl
 t5:=Tryd.underlying5
 a5:=Tryd.isAgg5
 z5:=Tryd.sizeOf5
 v5:=Tryd.zeroValue5
 infoByte:=by kernel_rfl
 cellsByte:=by kernel_rfl
 sizeByte:=by kernel_rfl
 neB5:=by decide }
open Go.RowKit in
theorem Bd (a:Option Addr) (c:Nat) (sep:ByteArray) (w:World) :
  Calls Tryd.prog 19 #[.slice a 0 c,.string sep] w fun e w'=>e = .returned (.string ⟨#[]⟩)∧w' = w:=Any.strings_Join_none Zd mc a c sep w
open Go.RowKit in
theorem ke (bk o c:Nat) (xs:List ByteArray) (sep:ByteArray) (w:World) (hcells:∀ (j:Nat) x,xs[j]? = some x→w.cell? ⟨bk,o + j,none⟩=some (.string x)) (hbk:bk < w.heap.size) (hN:xs.length ≤ 140737488355328) (hcap:xs.length ≤ c) (hlen:(Lib.join (xs.map (·.data.toList)) sep.data.toList).length ≤ 140737488355328) :
  Calls Tryd.prog 19 #[.slice (some ⟨bk,o,none⟩) xs.length c,.string sep] w fun e w'=>e = .returned (.string ⟨(Lib.join (xs.map (·.data.toList)) sep.data.toList).toArray⟩)∧Below w.heap.size w w':=Any.strings_Join Zd mc bk o c xs sep w hcells hbk hN hcap hlen
def qe:Go.Shelf.Ren:=⟨fun | 171=>18 | 243=>29 | 246=>42 | 283=>50 | 284=>51 | 285=>52 | 286=>53 | 129=>62 | 317=>61 | 318=>63 | 319=>64 | 320=>65 | 337=>69 | 338=>70|n=>n,fun | 3=>3 | 9=>9 | 2=>2 | 4=>4 | 171=>86 | 0=>0 | 53=>87 | 37=>59 | 5=>5 | 173=>90 | 212=>107 | 51=>108 | 20=>20 | 213=>109 | 46=>110 | 232=>116 | 233=>117|n=>n,fun | 17=>0 | 18=>2 | 19=>3|n=>n⟩
theorem Cf:Go.Proofs.LaysM.n171 Tryd.prog qe:={
 mixed:=by kernel_rfl
 f129:=Tryd.func62.trans (congrArg some (by kernel_rfl))
 f171:=Tryd.func18.trans (congrArg some (by kernel_rfl))
 f243:=Tryd.func29.trans (congrArg some (by kernel_rfl))
 f246:=Tryd.func42.trans (congrArg some (by kernel_rfl))
 f283:=Tryd.func50.trans (congrArg some (by kernel_rfl))
 f284:=Tryd.func51.trans (congrArg some (by kernel_rfl))
 f285:=Tryd.func52.trans (congrArg some (by kernel_rfl))
 f286:=Tryd.func53.trans (congrArg some (by kernel_rfl))
 f317:=Tryd.func61.trans (congrArg some (by kernel_rfl))
 f318:=Tryd.func63.trans (congrArg some (by kernel_rfl))
 f319:=Tryd.func64.trans (congrArg some (by kernel_rfl))
 f320:=Tryd.func65.trans (congrArg some (by kernel_rfl))
 f337:=Tryd.func69.trans (congrArg some (by kernel_rfl))
 f338:=Tryd.func70.trans (congrArg some (by kernel_rfl))
 t0:=Tryd.underlying0
 a0:=Tryd.isAgg0
 z0:=Tryd.sizeOf0
 v0:=Tryd.zeroValue0
 t2:=Tryd.underlying2
 a2:=Tryd.isAgg2
 z2:=Tryd.sizeOf2
 v2:=Tryd.zeroValue2
 t3:=Tryd.underlying3
 a3:=Tryd.isAgg3
 z3:=Tryd.sizeOf3
 v3:=Tryd.zeroValue3
 t4:=Tryd.underlying4
 a4:=Tryd.isAgg4
 z4:=Tryd.sizeOf4
 v4:=Tryd.zeroValue4
 t5:=Tryd.underlying5
 a5:=Tryd.isAgg5
 z5:=Tryd.sizeOf5
 v5:=Tryd.zeroValue5
 t9:=Tryd.underlying9
 a9:=Tryd.isAgg9
 z9:=Tryd.sizeOf9
 v9:=Tryd.zeroValue9
 t20:=Tryd.underlying20
 a20:=Tryd.isAgg20
 z20:=Tryd.sizeOf20
 v20:=Tryd.zeroValue20
 t37:=Tryd.underlying59
 a37:=Tryd.isAgg59
 z37:=Tryd.sizeOf59
 v37:=Tryd.zeroValue59
 t46:=Tryd.underlying110
 a46:=Tryd.isAgg110
 z46:=Tryd.sizeOf110
 v46:=Tryd.zeroValue110
 t51:=Tryd.underlying108
 a51:=Tryd.isAgg108
 z51:=Tryd.sizeOf108
 v51:=Tryd.zeroValue108
 t53:=Tryd.underlying87
 a53:=Tryd.isAgg87
 z53:=Tryd.sizeOf87
 v53:=Tryd.zeroValue87
 t171:=Tryd.underlying86
 a171:=Tryd.isAgg86
 z171:=Tryd.sizeOf86
 v171:=Tryd.zeroValue86
 t173:=Tryd.underlying90
 a173:=Tryd.isAgg90
 z173:=Tryd.sizeOf90
 v173:=Tryd.zeroValue90
 t212:=Tryd.underlying107
 a212:=Tryd.isAgg107
 z212:=Tryd.sizeOf107
 v212:=Tryd.zeroValue107
 t213:=Tryd.underlying109
 a213:=Tryd.isAgg109
 z213:=Tryd.sizeOf109
 t232:=Tryd.underlying116
 a232:=Tryd.isAgg116
 z232:=Tryd.sizeOf116
 v232:=Tryd.zeroValue116
 t233:=Tryd.underlying117
 a233:=Tryd.isAgg117
 z233:=Tryd.sizeOf117
 v233:=Tryd.zeroValue117
 g17:=by kernel_rfl
 g18:=by kernel_rfl
 g19:=by kernel_rfl
 i0:=by kernel_rfl
 i2:=by kernel_rfl
 i3:=by kernel_rfl
 i4:=by kernel_rfl
 i5:=by kernel_rfl
 i9:=by kernel_rfl
 i20:=by kernel_rfl
 i37:=by kernel_rfl
 i46:=by kernel_rfl
 i51:=by kernel_rfl
 i53:=by kernel_rfl
 i171:=by kernel_rfl
 i173:=by kernel_rfl
 i212:=by kernel_rfl
 i232:=by kernel_rfl
 i233:=by kernel_rfl
 m17:=by kernel_rfl
 m18:=by kernel_rfl
 m19:=by kernel_rfl }
open Go.RowKit Go.Sort Go.Lib in
theorem me (n:Int) (h0:-9223372036854775808 ≤ n) (h1:n ≤ 9223372036854775807) (w:World) (htab:Lib.TabIs Tryd.prog w "internal/strconv.uint64pow10" .u64 Lib.pow10Tab) :
  Calls Tryd.prog 18 #[.int .i64 n] w fun e w'=>e = .returned (.string ⟨(Lib.itoa n).toArray⟩)∧∃ k os,w' = grow (w.drewN k) os:=Any.strconv_Itoa Cf n h0 h1 w htab
end Go.Proofs.YtgflknmbnblpaaaDoor.P
end
section
namespace Go.Proofs.YtgflknmbnblpaaaDoor.P
open Go.RowKit Go.Proofs.aa.Aa Go.Proofs.aa.Db Go.Proofs.aa.Dd
set_option linter.unusedVariables false
set_option linter.unusedSimpArgs false
def We (w:World):Prop:=Lib.TabIs Tryd.prog w "internal/strconv.uint64pow10" .u64 Lib.pow10Tab
theorem We.stays {w w':World} {B:Nat} (h:We w) (hb:Below B w w') (hB:w.heap.size ≤ B):We w':=by
 unfold We at h ⊢
 obtain ⟨g,hg⟩:∃ g,Tryd.prog.globalNamed "internal/strconv.uint64pow10" = some g:=by
  unfold Lib.TabIs World.var? at h;cases hg:Tryd.prog.globalNamed "internal/strconv.uint64pow10" with
  | none=>rw [hg] at h;cases h
  | some g=>exact ⟨g,rfl⟩
 exact Go.Joins.tab_stays hg h hb hB
def Sa.f (a0:Int):Option ByteArray:=if -9223372036854775808 ≤ a0∧a0 ≤ 9223372036854775807 then some ⟨(Lib.itoa a0).toArray⟩ else none
theorem Sa.calls (a0:Int) (r:ByteArray) (w:World) (h:Sa.f a0=some r) (htab:We w:=by exact We.stays Qi.out (by repeat (first|(with_reducible first|exact HB.out|apply ja|apply ga|apply oa|refine Ca ?_ (ia.out (by assumption)))|exact HB.out)) (Nat.le_refl _)) :
  Calls Tryd.prog 18 #[.int .i64 a0] w fun e w'=>e = .returned (.string r)∧Below w.heap.size w w':=by
 unfold Sa.f at h
 by_cases hb:-9223372036854775808 ≤ a0∧a0 ≤ 9223372036854775807
 case neg=>rw [if_neg hb] at h;cases h
 rw [if_pos hb] at h;cases h;refine (me a0 hb.1 hb.2 w htab).mono ?_;rintro e w' ⟨rfl,k,os,rfl⟩;refine ⟨rfl,?_⟩;have h1:=ga (Below.refl w.heap.size w) k;refine ⟨h1.os,h1.tape,h1.output,?_,fun i hi=>?_⟩
 ·have:=h1.size;rw [Go.Sort.size_grow];omega
 ·rw [Go.Sort.heap_grow_old _ _ (Nat.lt_of_lt_of_le hi h1.size)];exact h1.block i hi
attribute [local go_sem] Qf Nf Ag zg Te Re Pf Mf
def Sc.f (a0:Int):Option (ByteArray):=(Sa.f a0).bind fun t101=>(if 1 + t101.size ≤ 9223372036854775807 then (some ((⟨#[115]⟩:ByteArray) ++ t101)) else (none))
theorem Sc.calls (a0:Int) (r:ByteArray) (w:World) (h:Sc.f a0=some r) (htab:We w:=by exact We.stays Qi.out (by repeat (first|(with_reducible first|exact HB.out|apply ja|apply ga|apply oa|refine Ca ?_ (ia.out (by assumption)))|exact HB.out)) (Nat.le_refl _)) :
  Calls Tryd.prog 17 #[.int .i64 a0] w fun e w'=>e = .returned (.string r)∧Below w.heap.size w w':=by
 have Qi:=ia.mk htab;clear htab;have HB:=ia.mk (Below.refl w.heap.size w);have H:((Sa.f a0).bind fun t101=>(if 1 + t101.size ≤ 9223372036854775807 then (some ((⟨#[115]⟩:ByteArray) ++ t101)) else (none)))=some r:=h;clear h;replace H:=Option.bind_eq_some_iff.mp H;obtain ⟨t101,Ym,H⟩:=H;replace H:(if 1 + t101.size ≤ 9223372036854775807 then (some ((⟨#[115]⟩:ByteArray) ++ t101)) else (none))=some r:=H;have A2:=ia.mk Ym;clear Ym
 by_cases c3:1 + t101.size ≤ 9223372036854775807
 ·rw [if_pos c3] at H;have we:=eq_true c3;have Hg:decide (1 + t101.size ≤ 9223372036854775807)=true:=decide_eq_true c3
  try have yl:(9223372036854775807 < 1 + t101.size)=False:=eq_false (Nat.not_lt.2 c3)
  obtain rfl:=Option.some.inj H;go_enter Tryd.func17,Tryd.ntmps17;go_wp2_with (first|((with_reducible refine qb (f:=18) rfl ?_);refine Uc (some 4) rfl rfl Tryd.func18 (by kernel_rfl) rfl #[.int .i64 a0] rfl (by (try simp only [List.map_toArray,List.map_cons,List.map_nil]);first|done|rfl|(simp only [List.length_drop,List.length_take];rfl)) ?_;(with_reducible refine (Sa.calls a0 t101 _ A2.out).mono ?_);rintro e w4 ⟨rfl,hb⟩;refine ⟨_,rfl,?_⟩;have Eb:=ia.mk (Ka (by repeat (first|(with_reducible first|exact HB.out|apply ja|apply ga|apply oa)|exact HB.out)) hb);clear HB;have HB:=Eb;clear Eb;(try clear hb);(try clear hb2);(try clear hk);(try clear hi)));go_ret;exact ⟨by first|rfl|(simp [Na,Ma] <;> rfl)|(simp [*,Na,Ma] <;> rfl),by repeat (first|(with_reducible first|exact HB.out|apply ja|apply ga|apply oa)|exact HB.out)⟩
 ·rw [if_neg c3] at H;exact absurd H (by simp)
def jb.f (l0:List (Lg)) (a1:Int):Option (Int):=if (wrap64 (a1 - (l0.length:Int))) < 0 then (some (-1)) else (some (wrap64 (a1 - (l0.length:Int))))
theorem jb.calls (A0:Option Addr) (c0:Nat) (l0:List (Lg)) (a1:Int) (r:Int) (w:World) (Bg:Kd.C Mk w A0 l0.length l0) (hc0:l0.length ≤ c0) (h:jb.f l0 a1=some r) :
  Calls Tryd.prog 5 #[.slice A0 l0.length c0,.int .i64 a1] w fun e w'=>e = .returned (.int .i64 r)∧Ra w w':=by
 have Yf:=ia.mk Bg;have Hj:=ia.mk hc0;clear Bg hc0;have H:(if (wrap64 (a1 - (l0.length:Int))) < 0 then (some (-1)) else (some (wrap64 (a1 - (l0.length:Int)))))=some r:=h;clear h
 by_cases c3:(wrap64 (a1 - (l0.length:Int))) < 0
 ·rw [if_pos c3] at H;have we:decide ((wrap64 (a1 - (l0.length:Int))) < 0)=true:=decide_eq_true c3;clear c3;obtain rfl:=Option.some.inj H;go_enter Tryd.func5,Tryd.ntmps5;go_wp2;go_ret;exact ⟨by first|rfl|(simp;done)|(simp [*];done),by repeat (first|exact Ra.refl _|apply Ra.step)⟩
 ·rw [if_neg c3] at H;have we:decide ((wrap64 (a1 - (l0.length:Int))) < 0)=false:=decide_eq_false c3;clear c3;obtain rfl:=Option.some.inj H;go_enter Tryd.func5,Tryd.ntmps5;go_wp2;go_ret;exact ⟨by first|rfl|(simp;done)|(simp [*];done),by repeat (first|exact Ra.refl _|apply Ra.step)⟩
def qa.l0:Nat→Int→ByteArray→Int→Option (ByteArray)
 | 0,_,_,_=>none
 | k + 1,x0,x3,x4=>if x4=0 then (if x0 < 0 then (if 1 + x3.size ≤ 9223372036854775807 then (some ((⟨#[45]⟩:ByteArray) ++ x3)) else (none)) else (some x3)) else (if (Int.tmod x4 10) < 0 then (if 0 ≤ (wrap64 (-(Int.tmod x4 10))) then (if (wrap64 (-(Int.tmod x4 10))) ≤ (wrap64 ((wrap64 (-(Int.tmod x4 10))) + 1)) then (if (wrap64 ((wrap64 (-(Int.tmod x4 10))) + 1)) ≤ 10 then (if ((⟨#[48,49,50,51,52,53,54,55,56,57]⟩:ByteArray).extract ((wrap64 (-(Int.tmod x4 10))):Int).toNat ((wrap64 ((wrap64 (-(Int.tmod x4 10))) + 1)):Int).toNat).size + x3.size ≤ 9223372036854775807 then (qa.l0 k x0 (((⟨#[48,49,50,51,52,53,54,55,56,57]⟩:ByteArray).extract ((wrap64 (-(Int.tmod x4 10))):Int).toNat ((wrap64 ((wrap64 (-(Int.tmod x4 10))) + 1)):Int).toNat) ++ x3) (wrap64 (Int.tdiv x4 10))) else (none)) else (none)) else (none)) else (none)) else (if 0 ≤ (Int.tmod x4 10) then (if (Int.tmod x4 10) ≤ (wrap64 ((Int.tmod x4 10) + 1)) then (if (wrap64 ((Int.tmod x4 10) + 1)) ≤ 10 then (if ((⟨#[48,49,50,51,52,53,54,55,56,57]⟩:ByteArray).extract ((Int.tmod x4 10):Int).toNat ((wrap64 ((Int.tmod x4 10) + 1)):Int).toNat).size + x3.size ≤ 9223372036854775807 then (qa.l0 k x0 (((⟨#[48,49,50,51,52,53,54,55,56,57]⟩:ByteArray).extract ((Int.tmod x4 10):Int).toNat ((wrap64 ((Int.tmod x4 10) + 1)):Int).toNat) ++ x3) (wrap64 (Int.tdiv x4 10))) else (none)) else (none)) else (none)) else (none)))
def qa.f (k:Nat) (a0:Int):Option (ByteArray):=if a0=0 then (some (⟨#[48]⟩:ByteArray)) else (qa.l0 k a0 (⟨#[]⟩:ByteArray) a0)
theorem qa.calls (k:Nat) (a0:Int) (r:ByteArray) (w:World) (h:qa.f k a0=some r) :
  Calls Tryd.prog 15 #[.int .i64 a0] w fun e w'=>e = .returned (.string r)∧Ra w w':=by
 have H:(if a0=0 then (some (⟨#[48]⟩:ByteArray)) else (qa.l0 k a0 (⟨#[]⟩:ByteArray) a0))=some r:=h;clear h
 by_cases c2:a0=0
 ·rw [if_pos c2] at H;have Ki:(a0 == 0)=true:=beq_iff_eq.mpr c2;have Vj:(a0 != 0)=false:=bne_eq_false_iff_eq.mpr c2;clear c2;obtain rfl:=Option.some.inj H;go_enter Tryd.func15,Tryd.ntmps15;go_wp2;go_ret;exact ⟨by first|rfl|(simp;done)|(simp [*];done),by repeat (first|exact Ra.refl _|apply Ra.step)⟩
 ·rw [if_neg c2] at H;have Ki:(a0 == 0)=false:=beq_eq_false_iff_ne.mpr c2;have Vj:(a0 != 0)=true:=bne_iff_ne.mpr c2;have H':=ia.mk H;clear H;go_enter Tryd.func15,Tryd.ntmps15;go_wp2
  go_loopg [3,4] k (fun kq v3 v4 w'=>∃ (Ga:ByteArray) (Ea:Int),v3 = .string Ga∧v4 = .int .i64 Ea∧ia (qa.l0 kq a0 Ga Ea=some r)∧ia (kq ≤ k)∧Ra w w')
  case atStart=>exact ⟨((⟨#[]⟩:ByteArray)),(a0),(by first|rfl|(simp;done)|(simp [*];done)),(by first|rfl|(simp;done)|(simp [*];done)),H',⟨Nat.le_refl _⟩,by repeat (first|exact Ra.refl _|apply Ra.step)⟩
  case round =>
   clear H'
   try clear c1
   try clear c2
   try clear Ki
   try clear Vj
   try clear p2
   (try clear HA);(try clear Xf);obtain ⟨Ga,Ea,rfl,rfl,HA,Xf,⟨m1,rfl⟩⟩:=hrel;cases gk with
   | zero=>exact absurd HA.out (by simp [qa.l0])
   | succ k1 =>
    have H:=HA.out;clear HA;simp only [qa.l0] at H
    by_cases c3:Ea=0
    ·rw [if_pos c3] at H;have we:(Ea == 0)=true:=beq_iff_eq.mpr c3;have Hg:(Ea != 0)=false:=bne_eq_false_iff_eq.mpr c3;clear c3
     by_cases c4:a0 < 0
     ·rw [if_pos c4] at H;have Xg:decide (a0 < 0)=true:=decide_eq_true c4;clear c4
      by_cases c5:1 + Ga.size ≤ 9223372036854775807
      ·rw [if_pos c5] at H;have vl:=eq_true c5;have Xo:decide (1 + Ga.size ≤ 9223372036854775807)=true:=decide_eq_true c5
       try have Wo:(9223372036854775807 < 1 + Ga.size)=False:=eq_false (Nat.not_lt.2 c5)
       obtain rfl:=Option.some.inj H;go_wp2;go_ret;exact ⟨by first|rfl|(simp;done)|(simp [*];done),by repeat (first|exact Ra.refl _|apply Ra.step)⟩
      ·rw [if_neg c5] at H;exact absurd H (by simp)
     ·rw [if_neg c4] at H;have Xg:decide (a0 < 0)=false:=decide_eq_false c4;clear c4;obtain rfl:=Option.some.inj H;go_wp2;go_ret;exact ⟨by first|rfl|(simp;done)|(simp [*];done),by repeat (first|exact Ra.refl _|apply Ra.step)⟩
    ·rw [if_neg c3] at H;have we:(Ea == 0)=false:=beq_eq_false_iff_ne.mpr c3;have Hg:(Ea != 0)=true:=bne_iff_ne.mpr c3
     by_cases c6:(Int.tmod Ea 10) < 0
     ·rw [if_pos c6] at H;have Eh:decide ((Int.tmod Ea 10) < 0)=true:=decide_eq_true c6;clear c6;obtain ⟨lf,Oj⟩:∃ j_:Int,(wrap64 (-(Int.tmod Ea 10)))=j_:=⟨_,rfl⟩;replace H:(if 0 ≤ (lf) then (if (lf) ≤ (wrap64 ((lf) + 1)) then (if (wrap64 ((lf) + 1)) ≤ 10 then (if ((⟨#[48,49,50,51,52,53,54,55,56,57]⟩:ByteArray).extract ((lf):Int).toNat ((wrap64 ((lf) + 1)):Int).toNat).size + Ga.size ≤ 9223372036854775807 then (qa.l0 k1 a0 (((⟨#[48,49,50,51,52,53,54,55,56,57]⟩:ByteArray).extract ((lf):Int).toNat ((wrap64 ((lf) + 1)):Int).toNat) ++ Ga) (wrap64 (Int.tdiv Ea 10))) else (none)) else (none)) else (none)) else (none))=some r:=by first|(rw [Oj] at H;exact H)|(simp only [Oj] at H ⊢;exact H)
      have Qp:(IntKind.i64.wrap (-(Int.tmod Ea 10)))=lf:=(yb _).trans Oj
      by_cases c8:0 ≤ (lf)
      ·rw [if_pos c8] at H;have ql:=eq_true c8;have jl:decide (0 ≤ (lf))=true:=decide_eq_true c8;clear c8
       by_cases c9:(lf) ≤ (wrap64 ((lf) + 1))
       ·rw [if_pos c9] at H;have qm:=eq_true c9;have Uo:decide ((lf) ≤ (wrap64 ((lf) + 1)))=true:=decide_eq_true c9
        by_cases c10:(wrap64 ((lf) + 1)) ≤ 10
        ·rw [if_pos c10] at H;have Fm:=eq_true c10;have Em:decide ((wrap64 ((lf) + 1)) ≤ 10)=true:=decide_eq_true c10
         by_cases c11:((⟨#[48,49,50,51,52,53,54,55,56,57]⟩:ByteArray).extract ((lf):Int).toNat ((wrap64 ((lf) + 1)):Int).toNat).size + Ga.size ≤ 9223372036854775807
         ·rw [if_pos c11] at H;have Dm:=eq_true c11;have Cm:decide (((⟨#[48,49,50,51,52,53,54,55,56,57]⟩:ByteArray).extract ((lf):Int).toNat ((wrap64 ((lf) + 1)):Int).toNat).size + Ga.size ≤ 9223372036854775807)=true:=decide_eq_true c11
          try have Bm:(9223372036854775807 < ((⟨#[48,49,50,51,52,53,54,55,56,57]⟩:ByteArray).extract ((lf):Int).toNat ((wrap64 ((lf) + 1)):Int).toNat).size + Ga.size)=False:=eq_false (Nat.not_lt.2 c11)
          have H':=ia.mk H;clear H;go_wp2
          go_roundg k1
          case measure=>have:=Xf.out;omega
          case rel=>exact ⟨(((⟨#[48,49,50,51,52,53,54,55,56,57]⟩:ByteArray).extract ((lf):Int).toNat ((wrap64 ((lf) + 1)):Int).toNat) ++ Ga),(wrap64 (Int.tdiv Ea 10)),(by first|rfl|(simp;done)|(simp only [← Oj] <;> (first|rfl|simp))|(simp [*];done)),(by first|rfl|(simp;done)|(simp [*];done)),H',⟨by have:=Xf.out;omega⟩,by repeat (first|exact Ra.refl _|apply Ra.step)⟩
         ·rw [if_neg c11] at H;exact absurd H (by simp)
        ·rw [if_neg c10] at H;exact absurd H (by simp)
       ·rw [if_neg c9] at H;exact absurd H (by simp)
      ·rw [if_neg c8] at H;exact absurd H (by simp)
     ·rw [if_neg c6] at H;have Eh:decide ((Int.tmod Ea 10) < 0)=false:=decide_eq_false c6;clear c6;obtain ⟨Pc,Zh⟩:∃ j_:Int,(Int.tmod Ea 10)=j_:=⟨_,rfl⟩;replace H:(if 0 ≤ (Pc) then (if (Pc) ≤ (wrap64 ((Pc) + 1)) then (if (wrap64 ((Pc) + 1)) ≤ 10 then (if ((⟨#[48,49,50,51,52,53,54,55,56,57]⟩:ByteArray).extract ((Pc):Int).toNat ((wrap64 ((Pc) + 1)):Int).toNat).size + Ga.size ≤ 9223372036854775807 then (qa.l0 k1 a0 (((⟨#[48,49,50,51,52,53,54,55,56,57]⟩:ByteArray).extract ((Pc):Int).toNat ((wrap64 ((Pc) + 1)):Int).toNat) ++ Ga) (wrap64 (Int.tdiv Ea 10))) else (none)) else (none)) else (none)) else (none))=some r:=by first|(rw [Zh] at H;exact H)|(simp only [Zh] at H ⊢;exact H)
      (try rw [Zh] at Eh)
      by_cases c13:0 ≤ (Pc)
      ·rw [if_pos c13] at H;have Am:=eq_true c13;have gq:decide (0 ≤ (Pc))=true:=decide_eq_true c13;clear c13
       by_cases c14:(Pc) ≤ (wrap64 ((Pc) + 1))
       ·rw [if_pos c14] at H;have fq:=eq_true c14;have cq:decide ((Pc) ≤ (wrap64 ((Pc) + 1)))=true:=decide_eq_true c14
        by_cases c15:(wrap64 ((Pc) + 1)) ≤ 10
        ·rw [if_pos c15] at H;have zm:=eq_true c15;have ym:decide ((wrap64 ((Pc) + 1)) ≤ 10)=true:=decide_eq_true c15
         by_cases c16:((⟨#[48,49,50,51,52,53,54,55,56,57]⟩:ByteArray).extract ((Pc):Int).toNat ((wrap64 ((Pc) + 1)):Int).toNat).size + Ga.size ≤ 9223372036854775807
         ·rw [if_pos c16] at H;have xm:=eq_true c16;have wm:decide (((⟨#[48,49,50,51,52,53,54,55,56,57]⟩:ByteArray).extract ((Pc):Int).toNat ((wrap64 ((Pc) + 1)):Int).toNat).size + Ga.size ≤ 9223372036854775807)=true:=decide_eq_true c16
          try have vm:(9223372036854775807 < ((⟨#[48,49,50,51,52,53,54,55,56,57]⟩:ByteArray).extract ((Pc):Int).toNat ((wrap64 ((Pc) + 1)):Int).toNat).size + Ga.size)=False:=eq_false (Nat.not_lt.2 c16)
          have H':=ia.mk H;clear H;go_wp2
          go_roundg k1
          case measure=>have:=Xf.out;omega
          case rel=>exact ⟨(((⟨#[48,49,50,51,52,53,54,55,56,57]⟩:ByteArray).extract ((Pc):Int).toNat ((wrap64 ((Pc) + 1)):Int).toNat) ++ Ga),(wrap64 (Int.tdiv Ea 10)),(by first|rfl|(simp;done)|(simp only [← Zh] <;> (first|rfl|simp))|(simp [*];done)),(by first|rfl|(simp;done)|(simp [*];done)),H',⟨by have:=Xf.out;omega⟩,by repeat (first|exact Ra.refl _|apply Ra.step)⟩
         ·rw [if_neg c16] at H;exact absurd H (by simp)
        ·rw [if_neg c15] at H;exact absurd H (by simp)
       ·rw [if_neg c14] at H;exact absurd H (by simp)
      ·rw [if_neg c13] at H;exact absurd H (by simp)
def Da.l0:Nat→List (Yc)→ByteArray→Int→Option (ByteArray)
 | 0,_,_,_=>none
 | k + 1,x0,x3,x4=>if x4 < (x0.length:Int) then (if x4 > 0 then (if x3.size + 1 ≤ 9223372036854775807 then (if (x3 ++ (⟨#[32]⟩:ByteArray)).size + 1 ≤ 9223372036854775807 then (if 0 ≤ x4 then ((qa.f k ((Ba x0 x4).f0)).bind fun t102=>(if ((x3 ++ (⟨#[32]⟩:ByteArray)) ++ (⟨#[115]⟩:ByteArray)).size + t102.size ≤ 9223372036854775807 then (if (((x3 ++ (⟨#[32]⟩:ByteArray)) ++ (⟨#[115]⟩:ByteArray)) ++ t102).size + 1 ≤ 9223372036854775807 then ((qa.f k ((Ba x0 x4).f1)).bind fun t104=>(if ((((x3 ++ (⟨#[32]⟩:ByteArray)) ++ (⟨#[115]⟩:ByteArray)) ++ t102) ++ (⟨#[61]⟩:ByteArray)).size + t104.size ≤ 9223372036854775807 then (Da.l0 k x0 (((((x3 ++ (⟨#[32]⟩:ByteArray)) ++ (⟨#[115]⟩:ByteArray)) ++ t102) ++ (⟨#[61]⟩:ByteArray)) ++ t104) (wrap64 (x4 + 1))) else (none))) else (none)) else (none))) else (none)) else (none)) else (none)) else (if x3.size + 1 ≤ 9223372036854775807 then (if 0 ≤ x4 then ((qa.f k ((Ba x0 x4).f0)).bind fun t106=>(if (x3 ++ (⟨#[115]⟩:ByteArray)).size + t106.size ≤ 9223372036854775807 then (if ((x3 ++ (⟨#[115]⟩:ByteArray)) ++ t106).size + 1 ≤ 9223372036854775807 then ((qa.f k ((Ba x0 x4).f1)).bind fun t108=>(if (((x3 ++ (⟨#[115]⟩:ByteArray)) ++ t106) ++ (⟨#[61]⟩:ByteArray)).size + t108.size ≤ 9223372036854775807 then (Da.l0 k x0 ((((x3 ++ (⟨#[115]⟩:ByteArray)) ++ t106) ++ (⟨#[61]⟩:ByteArray)) ++ t108) (wrap64 (x4 + 1))) else (none))) else (none)) else (none))) else (none)) else (none))) else (if (x0.length:Int)=0 then (some (⟨#[45]⟩:ByteArray)) else (some x3))
def Da.f (k:Nat) (l0:List (Yc)):Option (ByteArray):=Da.l0 k l0 (⟨#[]⟩:ByteArray) 0
theorem Da.calls (k:Nat) (A0:Option Addr) (c0:Nat) (l0:List (Yc)) (r:ByteArray) (w:World) (Bg:Kd.C Tg w A0 l0.length l0) (hc0:l0.length ≤ c0) (h:Da.f k l0=some r) :
  Calls Tryd.prog 6 #[.slice A0 l0.length c0] w fun e w'=>e = .returned (.string r)∧Ra w w':=by
 have Yf:=ia.mk Bg;have Hj:=ia.mk hc0;clear Bg hc0;have H:(Da.l0 k l0 (⟨#[]⟩:ByteArray) 0)=some r:=h;clear h;have H':=ia.mk H;clear H;go_enter Tryd.func6,Tryd.ntmps6;go_wp2
 repeat (go_quiet (fail);try go_wp2)
 go_loopg [3,4] k (fun kq v3 v4 w'=>∃ (Ga:ByteArray) (Ea:Int),v3 = .string Ga∧v4 = .int .i64 Ea∧ia (Da.l0 kq l0 Ga Ea=some r)∧ia (kq ≤ k)∧Ra w w')
 case atStart=>exact ⟨((⟨#[]⟩:ByteArray)),(0),(by first|rfl|(simp;done)|(simp [*];done)),(by first|rfl|(simp;done)|(simp [*];done)),H',⟨Nat.le_refl _⟩,by repeat (first|exact Ra.refl _|apply Ra.step)⟩
 case round =>
  clear H';(try clear HA);(try clear Xf);obtain ⟨Ga,Ea,rfl,rfl,HA,Xf,⟨m1,rfl⟩⟩:=hrel;cases gk with
  | zero=>exact absurd HA.out (by simp [Da.l0])
  | succ k1 =>
   have H:=HA.out;clear HA;simp only [Da.l0] at H
   by_cases c2:Ea < (l0.length:Int)
   ·rw [if_pos c2] at H;have Ki:decide (Ea < (l0.length:Int))=true:=decide_eq_true c2;clear c2
    by_cases c3:Ea > 0
    ·rw [if_pos c3] at H;have we:decide (0 < Ea)=true:=decide_eq_true c3;clear c3
     by_cases c4:Ga.size + 1 ≤ 9223372036854775807
     ·rw [if_pos c4] at H;have Xg:=eq_true c4;have rm:decide (Ga.size + 1 ≤ 9223372036854775807)=true:=decide_eq_true c4
      try have kr:(9223372036854775807 < Ga.size + 1)=False:=eq_false (Nat.not_lt.2 c4)
      by_cases c5:(Ga ++ (⟨#[32]⟩:ByteArray)).size + 1 ≤ 9223372036854775807
      ·rw [if_pos c5] at H;have vl:=eq_true c5;have Xo:decide ((Ga ++ (⟨#[32]⟩:ByteArray)).size + 1 ≤ 9223372036854775807)=true:=decide_eq_true c5
       try have Wo:(9223372036854775807 < (Ga ++ (⟨#[32]⟩:ByteArray)).size + 1)=False:=eq_false (Nat.not_lt.2 c5)
       try have jr:(9223372036854775807 < (Ga.size + 1) + 1)=False:=by have h_:=c5;simp only [ByteArray.size_append] at h_;exact eq_false (Nat.not_lt.2 h_)
       by_cases c6:0 ≤ Ea
       ·rw [if_pos c6] at H;have Eh:decide (0 ≤ Ea)=true:=decide_eq_true c6;clear c6;replace H:=Option.bind_eq_some_iff.mp H;obtain ⟨t102,Fj,H⟩:=H;replace H:(if ((Ga ++ (⟨#[32]⟩:ByteArray)) ++ (⟨#[115]⟩:ByteArray)).size + t102.size ≤ 9223372036854775807 then (if (((Ga ++ (⟨#[32]⟩:ByteArray)) ++ (⟨#[115]⟩:ByteArray)) ++ t102).size + 1 ≤ 9223372036854775807 then ((qa.f k1 ((Ba l0 Ea).f1)).bind fun t104=>(if ((((Ga ++ (⟨#[32]⟩:ByteArray)) ++ (⟨#[115]⟩:ByteArray)) ++ t102) ++ (⟨#[61]⟩:ByteArray)).size + t104.size ≤ 9223372036854775807 then (Da.l0 k1 l0 (((((Ga ++ (⟨#[32]⟩:ByteArray)) ++ (⟨#[115]⟩:ByteArray)) ++ t102) ++ (⟨#[61]⟩:ByteArray)) ++ t104) (wrap64 (Ea + 1))) else (none))) else (none)) else (none))=some r:=H;have A7:=ia.mk Fj;clear Fj
        by_cases c8:((Ga ++ (⟨#[32]⟩:ByteArray)) ++ (⟨#[115]⟩:ByteArray)).size + t102.size ≤ 9223372036854775807
        ·rw [if_pos c8] at H;have ql:=eq_true c8;have jl:decide (((Ga ++ (⟨#[32]⟩:ByteArray)) ++ (⟨#[115]⟩:ByteArray)).size + t102.size ≤ 9223372036854775807)=true:=decide_eq_true c8
         try have Vo:(9223372036854775807 < ((Ga ++ (⟨#[32]⟩:ByteArray)) ++ (⟨#[115]⟩:ByteArray)).size + t102.size)=False:=eq_false (Nat.not_lt.2 c8)
         try have gr:(9223372036854775807 < ((Ga.size + 1) + 1) + t102.size)=False:=by have h_:=c8;simp only [ByteArray.size_append] at h_;exact eq_false (Nat.not_lt.2 h_)
         by_cases c9:(((Ga ++ (⟨#[32]⟩:ByteArray)) ++ (⟨#[115]⟩:ByteArray)) ++ t102).size + 1 ≤ 9223372036854775807
         ·rw [if_pos c9] at H;have qm:=eq_true c9;have Uo:decide ((((Ga ++ (⟨#[32]⟩:ByteArray)) ++ (⟨#[115]⟩:ByteArray)) ++ t102).size + 1 ≤ 9223372036854775807)=true:=decide_eq_true c9
          try have cr:(9223372036854775807 < (((Ga ++ (⟨#[32]⟩:ByteArray)) ++ (⟨#[115]⟩:ByteArray)) ++ t102).size + 1)=False:=eq_false (Nat.not_lt.2 c9)
          try have br:(9223372036854775807 < (((Ga.size + 1) + 1) + t102.size) + 1)=False:=by have h_:=c9;simp only [ByteArray.size_append] at h_;exact eq_false (Nat.not_lt.2 h_)
          replace H:=Option.bind_eq_some_iff.mp H;obtain ⟨t104,Gj,H⟩:=H;replace H:(if ((((Ga ++ (⟨#[32]⟩:ByteArray)) ++ (⟨#[115]⟩:ByteArray)) ++ t102) ++ (⟨#[61]⟩:ByteArray)).size + t104.size ≤ 9223372036854775807 then (Da.l0 k1 l0 (((((Ga ++ (⟨#[32]⟩:ByteArray)) ++ (⟨#[115]⟩:ByteArray)) ++ t102) ++ (⟨#[61]⟩:ByteArray)) ++ t104) (wrap64 (Ea + 1))) else (none))=some r:=H;have cn:=ia.mk Gj;clear Gj
          by_cases c11:((((Ga ++ (⟨#[32]⟩:ByteArray)) ++ (⟨#[115]⟩:ByteArray)) ++ t102) ++ (⟨#[61]⟩:ByteArray)).size + t104.size ≤ 9223372036854775807
          ·rw [if_pos c11] at H;have Dm:=eq_true c11;have Cm:decide (((((Ga ++ (⟨#[32]⟩:ByteArray)) ++ (⟨#[115]⟩:ByteArray)) ++ t102) ++ (⟨#[61]⟩:ByteArray)).size + t104.size ≤ 9223372036854775807)=true:=decide_eq_true c11
           try have Bm:(9223372036854775807 < ((((Ga ++ (⟨#[32]⟩:ByteArray)) ++ (⟨#[115]⟩:ByteArray)) ++ t102) ++ (⟨#[61]⟩:ByteArray)).size + t104.size)=False:=eq_false (Nat.not_lt.2 c11)
           try have mq:(9223372036854775807 < ((((Ga.size + 1) + 1) + t102.size) + 1) + t104.size)=False:=by have h_:=c11;simp only [ByteArray.size_append] at h_;exact eq_false (Nat.not_lt.2 h_)
           have H':=ia.mk H;clear H;have Lf:0 ≤ (Ea:Int):=of_decide_eq_true (by first|(with_reducible assumption)|assumption);have Hf:Ea < (l0.length:Int):=of_decide_eq_true (by first|(with_reducible assumption)|assumption);obtain ⟨Nd,sj,Fc,Ec⟩:=Bc Yf.out Ea Lf Hf;cases sj;replace Lf:=eq_true Lf;replace Hf:=eq_true Hf;go_wp2_with (first|(go_at_call 15;(with_reducible refine (qa.calls k1 ((Ba l0 Ea).f0) t102 _ A7.out).mono ?_);rintro e w' ⟨rfl,⟨nd,rfl⟩⟩;(try first|exact ⟨rfl,_,World.drewN_drewN _ _ _⟩|exact ⟨rfl,_,Eq.trans (World.drewN_drewN _ _ _) (congrArg (World.drewN _) (Nat.add_assoc _ _ _))⟩);have Kf:0 ≤ (Ea:Int):=of_decide_eq_true (by first|(with_reducible assumption)|assumption);have Gf:Ea < (l0.length:Int):=of_decide_eq_true (by first|(with_reducible assumption)|assumption);obtain ⟨ah,qj,Yh,Xh⟩:=Bc Yf.out Ea Kf Gf;obtain rfl:Nd=ah:=(by injection qj);replace Kf:=eq_true Kf;replace Gf:=eq_true Gf)|(go_at_call 15;(with_reducible refine (qa.calls k1 ((Ba l0 Ea).f1) t104 _ cn.out).mono ?_);rintro e w' ⟨rfl,⟨nd,rfl⟩⟩;(try first|exact ⟨rfl,_,World.drewN_drewN _ _ _⟩|exact ⟨rfl,_,Eq.trans (World.drewN_drewN _ _ _) (congrArg (World.drewN _) (Nat.add_assoc _ _ _))⟩)))
           repeat (go_quiet (first|(go_at_call 15;(with_reducible refine (qa.calls k1 ((Ba l0 Ea).f0) t102 _ A7.out).mono ?_);rintro e w' ⟨rfl,⟨nd,rfl⟩⟩;(try first|exact ⟨rfl,_,World.drewN_drewN _ _ _⟩|exact ⟨rfl,_,Eq.trans (World.drewN_drewN _ _ _) (congrArg (World.drewN _) (Nat.add_assoc _ _ _))⟩);have Kf:0 ≤ (Ea:Int):=of_decide_eq_true (by first|(with_reducible assumption)|assumption);have Gf:Ea < (l0.length:Int):=of_decide_eq_true (by first|(with_reducible assumption)|assumption);obtain ⟨ah,qj,Yh,Xh⟩:=Bc Yf.out Ea Kf Gf;obtain rfl:Nd=ah:=(by injection qj);replace Kf:=eq_true Kf;replace Gf:=eq_true Gf)|(go_at_call 15;(with_reducible refine (qa.calls k1 ((Ba l0 Ea).f1) t104 _ cn.out).mono ?_);rintro e w' ⟨rfl,⟨nd,rfl⟩⟩;(try first|exact ⟨rfl,_,World.drewN_drewN _ _ _⟩|exact ⟨rfl,_,Eq.trans (World.drewN_drewN _ _ _) (congrArg (World.drewN _) (Nat.add_assoc _ _ _))⟩)));try go_wp2_with (first|(go_at_call 15;(with_reducible refine (qa.calls k1 ((Ba l0 Ea).f0) t102 _ A7.out).mono ?_);rintro e w' ⟨rfl,⟨nd,rfl⟩⟩;(try first|exact ⟨rfl,_,World.drewN_drewN _ _ _⟩|exact ⟨rfl,_,Eq.trans (World.drewN_drewN _ _ _) (congrArg (World.drewN _) (Nat.add_assoc _ _ _))⟩);have Kf:0 ≤ (Ea:Int):=of_decide_eq_true (by first|(with_reducible assumption)|assumption);have Gf:Ea < (l0.length:Int):=of_decide_eq_true (by first|(with_reducible assumption)|assumption);obtain ⟨ah,qj,Yh,Xh⟩:=Bc Yf.out Ea Kf Gf;obtain rfl:Nd=ah:=(by injection qj);replace Kf:=eq_true Kf;replace Gf:=eq_true Gf)|(go_at_call 15;(with_reducible refine (qa.calls k1 ((Ba l0 Ea).f1) t104 _ cn.out).mono ?_);rintro e w' ⟨rfl,⟨nd,rfl⟩⟩;(try first|exact ⟨rfl,_,World.drewN_drewN _ _ _⟩|exact ⟨rfl,_,Eq.trans (World.drewN_drewN _ _ _) (congrArg (World.drewN _) (Nat.add_assoc _ _ _))⟩))))
           go_roundg k1
           case measure=>have:=Xf.out;omega
           case rel=>exact ⟨(((((Ga ++ (⟨#[32]⟩:ByteArray)) ++ (⟨#[115]⟩:ByteArray)) ++ t102) ++ (⟨#[61]⟩:ByteArray)) ++ t104),(wrap64 (Ea + 1)),(by first|rfl|(simp;done)|(simp [*];done)),(by first|rfl|(simp;done)|(simp [*];done)),H',⟨by have:=Xf.out;omega⟩,by repeat (first|exact Ra.refl _|apply Ra.step)⟩
          ·rw [if_neg c11] at H;exact absurd H (by simp)
         ·rw [if_neg c9] at H;exact absurd H (by simp)
        ·rw [if_neg c8] at H;exact absurd H (by simp)
       ·rw [if_neg c6] at H;exact absurd H (by simp)
      ·rw [if_neg c5] at H;exact absurd H (by simp)
     ·rw [if_neg c4] at H;exact absurd H (by simp)
    ·rw [if_neg c3] at H;have we:decide (0 < Ea)=false:=decide_eq_false c3;clear c3
     by_cases c12:Ga.size + 1 ≤ 9223372036854775807
     ·rw [if_pos c12] at H;have lq:=eq_true c12;have jq:decide (Ga.size + 1 ≤ 9223372036854775807)=true:=decide_eq_true c12
      try have iq:(9223372036854775807 < Ga.size + 1)=False:=eq_false (Nat.not_lt.2 c12)
      by_cases c13:0 ≤ Ea
      ·rw [if_pos c13] at H;have Am:decide (0 ≤ Ea)=true:=decide_eq_true c13;clear c13;replace H:=Option.bind_eq_some_iff.mp H;obtain ⟨t106,bn,H⟩:=H;replace H:(if (Ga ++ (⟨#[115]⟩:ByteArray)).size + t106.size ≤ 9223372036854775807 then (if ((Ga ++ (⟨#[115]⟩:ByteArray)) ++ t106).size + 1 ≤ 9223372036854775807 then ((qa.f k1 ((Ba l0 Ea).f1)).bind fun t108=>(if (((Ga ++ (⟨#[115]⟩:ByteArray)) ++ t106) ++ (⟨#[61]⟩:ByteArray)).size + t108.size ≤ 9223372036854775807 then (Da.l0 k1 l0 ((((Ga ++ (⟨#[115]⟩:ByteArray)) ++ t106) ++ (⟨#[61]⟩:ByteArray)) ++ t108) (wrap64 (Ea + 1))) else (none))) else (none)) else (none))=some r:=H;have vp:=ia.mk bn;clear bn
       by_cases c15:(Ga ++ (⟨#[115]⟩:ByteArray)).size + t106.size ≤ 9223372036854775807
       ·rw [if_pos c15] at H;have zm:=eq_true c15;have ym:decide ((Ga ++ (⟨#[115]⟩:ByteArray)).size + t106.size ≤ 9223372036854775807)=true:=decide_eq_true c15
        try have bq:(9223372036854775807 < (Ga ++ (⟨#[115]⟩:ByteArray)).size + t106.size)=False:=eq_false (Nat.not_lt.2 c15)
        try have aq:(9223372036854775807 < (Ga.size + 1) + t106.size)=False:=by have h_:=c15;simp only [ByteArray.size_append] at h_;exact eq_false (Nat.not_lt.2 h_)
        by_cases c16:((Ga ++ (⟨#[115]⟩:ByteArray)) ++ t106).size + 1 ≤ 9223372036854775807
        ·rw [if_pos c16] at H;have xm:=eq_true c16;have wm:decide (((Ga ++ (⟨#[115]⟩:ByteArray)) ++ t106).size + 1 ≤ 9223372036854775807)=true:=decide_eq_true c16
         try have vm:(9223372036854775807 < ((Ga ++ (⟨#[115]⟩:ByteArray)) ++ t106).size + 1)=False:=eq_false (Nat.not_lt.2 c16)
         try have Zp:(9223372036854775807 < ((Ga.size + 1) + t106.size) + 1)=False:=by have h_:=c16;simp only [ByteArray.size_append] at h_;exact eq_false (Nat.not_lt.2 h_)
         replace H:=Option.bind_eq_some_iff.mp H;obtain ⟨t108,Zm,H⟩:=H;replace H:(if (((Ga ++ (⟨#[115]⟩:ByteArray)) ++ t106) ++ (⟨#[61]⟩:ByteArray)).size + t108.size ≤ 9223372036854775807 then (Da.l0 k1 l0 ((((Ga ++ (⟨#[115]⟩:ByteArray)) ++ t106) ++ (⟨#[61]⟩:ByteArray)) ++ t108) (wrap64 (Ea + 1))) else (none))=some r:=H;have qp:=ia.mk Zm;clear Zm
         by_cases Gl:(((Ga ++ (⟨#[115]⟩:ByteArray)) ++ t106) ++ (⟨#[61]⟩:ByteArray)).size + t108.size ≤ 9223372036854775807
         ·rw [if_pos Gl] at H;have Yp:=eq_true Gl;have Xp:decide ((((Ga ++ (⟨#[115]⟩:ByteArray)) ++ t106) ++ (⟨#[61]⟩:ByteArray)).size + t108.size ≤ 9223372036854775807)=true:=decide_eq_true Gl
          try have Wp:(9223372036854775807 < (((Ga ++ (⟨#[115]⟩:ByteArray)) ++ t106) ++ (⟨#[61]⟩:ByteArray)).size + t108.size)=False:=eq_false (Nat.not_lt.2 Gl)
          try have Vp:(9223372036854775807 < (((Ga.size + 1) + t106.size) + 1) + t108.size)=False:=by have h_:=Gl;simp only [ByteArray.size_append] at h_;exact eq_false (Nat.not_lt.2 h_)
          have H':=ia.mk H;clear H;have Ik:0 ≤ (Ea:Int):=of_decide_eq_true (by first|(with_reducible assumption)|assumption);have Gk:Ea < (l0.length:Int):=of_decide_eq_true (by first|(with_reducible assumption)|assumption);obtain ⟨yj,Oo,en,dn⟩:=Bc Yf.out Ea Ik Gk;cases Oo;replace Ik:=eq_true Ik;replace Gk:=eq_true Gk;go_wp2_with (first|(go_at_call 15;(with_reducible refine (qa.calls k1 ((Ba l0 Ea).f0) t106 _ vp.out).mono ?_);rintro e w' ⟨rfl,⟨nd,rfl⟩⟩;(try first|exact ⟨rfl,_,World.drewN_drewN _ _ _⟩|exact ⟨rfl,_,Eq.trans (World.drewN_drewN _ _ _) (congrArg (World.drewN _) (Nat.add_assoc _ _ _))⟩);have Jf:0 ≤ (Ea:Int):=of_decide_eq_true (by first|(with_reducible assumption)|assumption);have Ff:Ea < (l0.length:Int):=of_decide_eq_true (by first|(with_reducible assumption)|assumption);obtain ⟨Zg,nj,Wh,Vh⟩:=Bc Yf.out Ea Jf Ff;obtain rfl:yj=Zg:=(by injection nj);replace Jf:=eq_true Jf;replace Ff:=eq_true Ff)|(go_at_call 15;(with_reducible refine (qa.calls k1 ((Ba l0 Ea).f1) t108 _ qp.out).mono ?_);rintro e w' ⟨rfl,⟨nd,rfl⟩⟩;(try first|exact ⟨rfl,_,World.drewN_drewN _ _ _⟩|exact ⟨rfl,_,Eq.trans (World.drewN_drewN _ _ _) (congrArg (World.drewN _) (Nat.add_assoc _ _ _))⟩)))
          repeat (go_quiet (first|(go_at_call 15;(with_reducible refine (qa.calls k1 ((Ba l0 Ea).f0) t106 _ vp.out).mono ?_);rintro e w' ⟨rfl,⟨nd,rfl⟩⟩;(try first|exact ⟨rfl,_,World.drewN_drewN _ _ _⟩|exact ⟨rfl,_,Eq.trans (World.drewN_drewN _ _ _) (congrArg (World.drewN _) (Nat.add_assoc _ _ _))⟩);have Jf:0 ≤ (Ea:Int):=of_decide_eq_true (by first|(with_reducible assumption)|assumption);have Ff:Ea < (l0.length:Int):=of_decide_eq_true (by first|(with_reducible assumption)|assumption);obtain ⟨Zg,nj,Wh,Vh⟩:=Bc Yf.out Ea Jf Ff;obtain rfl:yj=Zg:=(by injection nj);replace Jf:=eq_true Jf;replace Ff:=eq_true Ff)|(go_at_call 15;(with_reducible refine (qa.calls k1 ((Ba l0 Ea).f1) t108 _ qp.out).mono ?_);rintro e w' ⟨rfl,⟨nd,rfl⟩⟩;(try first|exact ⟨rfl,_,World.drewN_drewN _ _ _⟩|exact ⟨rfl,_,Eq.trans (World.drewN_drewN _ _ _) (congrArg (World.drewN _) (Nat.add_assoc _ _ _))⟩)));try go_wp2_with (first|(go_at_call 15;(with_reducible refine (qa.calls k1 ((Ba l0 Ea).f0) t106 _ vp.out).mono ?_);rintro e w' ⟨rfl,⟨nd,rfl⟩⟩;(try first|exact ⟨rfl,_,World.drewN_drewN _ _ _⟩|exact ⟨rfl,_,Eq.trans (World.drewN_drewN _ _ _) (congrArg (World.drewN _) (Nat.add_assoc _ _ _))⟩);have Jf:0 ≤ (Ea:Int):=of_decide_eq_true (by first|(with_reducible assumption)|assumption);have Ff:Ea < (l0.length:Int):=of_decide_eq_true (by first|(with_reducible assumption)|assumption);obtain ⟨Zg,nj,Wh,Vh⟩:=Bc Yf.out Ea Jf Ff;obtain rfl:yj=Zg:=(by injection nj);replace Jf:=eq_true Jf;replace Ff:=eq_true Ff)|(go_at_call 15;(with_reducible refine (qa.calls k1 ((Ba l0 Ea).f1) t108 _ qp.out).mono ?_);rintro e w' ⟨rfl,⟨nd,rfl⟩⟩;(try first|exact ⟨rfl,_,World.drewN_drewN _ _ _⟩|exact ⟨rfl,_,Eq.trans (World.drewN_drewN _ _ _) (congrArg (World.drewN _) (Nat.add_assoc _ _ _))⟩))))
          go_roundg k1
          case measure=>have:=Xf.out;omega
          case rel=>exact ⟨((((Ga ++ (⟨#[115]⟩:ByteArray)) ++ t106) ++ (⟨#[61]⟩:ByteArray)) ++ t108),(wrap64 (Ea + 1)),(by first|rfl|(simp;done)|(simp [*];done)),(by first|rfl|(simp;done)|(simp [*];done)),H',⟨by have:=Xf.out;omega⟩,by repeat (first|exact Ra.refl _|apply Ra.step)⟩
         ·rw [if_neg Gl] at H;exact absurd H (by simp)
        ·rw [if_neg c16] at H;exact absurd H (by simp)
       ·rw [if_neg c15] at H;exact absurd H (by simp)
      ·rw [if_neg c13] at H;exact absurd H (by simp)
     ·rw [if_neg c12] at H;exact absurd H (by simp)
   ·rw [if_neg c2] at H;have Ki:decide (Ea < (l0.length:Int))=false:=decide_eq_false c2;clear c2
    by_cases Yg:(l0.length:Int)=0
    ·rw [if_pos Yg] at H;have xj:((l0.length:Int) == 0)=true:=beq_iff_eq.mpr Yg;have wj:((l0.length:Int) != 0)=false:=bne_eq_false_iff_eq.mpr Yg;clear Yg;obtain rfl:=Option.some.inj H;go_wp2
     repeat (go_quiet (fail);try go_wp2)
     go_ret;exact ⟨by first|rfl|(simp;done)|(simp [*];done),by repeat (first|exact Ra.refl _|apply Ra.step)⟩
    ·rw [if_neg Yg] at H;have xj:((l0.length:Int) == 0)=false:=beq_eq_false_iff_ne.mpr Yg;have wj:((l0.length:Int) != 0)=true:=bne_iff_ne.mpr Yg;have um:¬ (l0=[]):=fun h_=>Yg (by rw [h_];rfl)
     obtain rfl:=Option.some.inj H;go_wp2
     repeat (go_quiet (fail);try go_wp2)
     go_ret;exact ⟨by first|rfl|(simp;done)|(simp [*];done),by repeat (first|exact Ra.refl _|apply Ra.step)⟩
def Mc.f (Kb:Int) (Mb:Int):Option (Int × Int):=some (Kb,Mb)
theorem Mc.calls (Kb:Int) (Mb:Int) (r1:Int) (r2:Int) (w:World) (h:Mc.f Kb Mb=some (r1,r2)) :
  Calls Tryd.prog 16 #[.agg #[.int .i64 Kb,.int .i64 Mb]] w fun e w'=>e = .returned (.agg #[.int .i64 r1,.int .i64 r2])∧Below w.heap.size w w':=by
 have Xn:=Tryd.underlying45;have Nj:=Tryd.underlying43;have HB:=ia.mk (Below.refl w.heap.size w);have H:(some (Kb,Mb))=some (r1,r2):=h;clear h;simp only [Option.some.injEq,Prod.mk.injEq] at H;obtain ⟨rfl,rfl⟩:=H;go_enter Tryd.func16,Tryd.ntmps16;go_wp2_with (first|((with_reducible refine Ob (N:=1) rfl ?_);refine Qb ?hg (N:=1) ?hd (cs:=#[.int .i64 Kb,.int .i64 Mb]) (t:=45) ?hr ?_;(case hd=>rfl);(case hg=>rfl);(case hr=>first|(go_simp;done)|(go_simp;rfl));intro Ua hg w2 yc hb;have Eb:=ia.mk (Ka (by repeat (first|(with_reducible first|exact HB.out|apply ja|apply ga|apply oa)|exact HB.out)) hb);have Rb:=ia.mk (yc);have Ac:=ia.mk ((by rw [hg];exact (Ia (by repeat (first|(with_reducible first|exact HB.out|apply ja|apply ga|apply oa)|exact HB.out))):w.heap.size ≤ Ua));have Ld:=ia.mk ((by rw [hg];exact (Ia (by repeat (first|(with_reducible first|exact HB.out|apply ja|apply ga|apply oa)|exact HB.out))):w.heap.size ≤ Ua));clear HB;have HB:=Eb;have Va:=Rb;have Ej:=Ac;have Yb:=Ld;clear Eb Rb Ac Ld hb yc hg)|((with_reducible refine Ob (N:=2) rfl ?_);refine Qb ?hg (N:=2) ?hd (cs:=#[.int .i64 0,.int .i64 0]) (t:=43) ?hr ?_;(case hd=>rfl);(case hg=>rfl);(case hr=>first|(go_simp;done)|(go_simp;rfl));intro zb hg w3 yc hb;have Eb:=ia.mk (tc (g:=Ua) (o:=.cells #[.int .i64 Kb,.int .i64 Mb] 45 (0,0)) (by (with_reducible repeat (first|refine Ja ?_ _|refine Oa ?_|refine Fa ?_ _));exact Va.out) hb);have Rb:=ia.mk (Ka (by repeat (first|(with_reducible first|exact HB.out|apply ja|apply ga|apply oa|refine Ca ?_ Yb.out)|exact HB.out)) hb);have Ac:=ia.mk (yc);have Ld:=ia.mk ((by rw [hg];exact (Ia (by repeat (first|(with_reducible first|exact HB.out|apply ja|apply ga|apply oa|refine Ca ?_ Yb.out)|exact HB.out))):w.heap.size ≤ zb));have Sg:=ia.mk ((by rw [hg];exact (Ia (by repeat (first|(with_reducible first|exact HB.out|apply ja|apply ga|apply oa|refine Ca ?_ Yb.out)|exact HB.out))):w.heap.size ≤ zb));have Qh:=ia.mk ((by rw [hg];exact Nat.ne_of_lt (Zb (g:=Ua) (o:=.cells #[.int .i64 Kb,.int .i64 Mb] 45 (0,0)) (by (with_reducible repeat (first|refine Ja ?_ _|refine Oa ?_|refine Fa ?_ _));exact Va.out)):Ua ≠ zb));have Ph:=ia.mk ((by rw [hg];exact Nat.ne_of_gt (Zb (g:=Ua) (o:=.cells #[.int .i64 Kb,.int .i64 Mb] 45 (0,0)) (by (with_reducible repeat (first|refine Ja ?_ _|refine Oa ?_|refine Fa ?_ _));exact Va.out)):zb ≠ Ua));clear Va HB;have Va:=Eb;have HB:=Rb;have Pb:=Ac;have Dj:=Ld;have je:=Sg;have Dc:=Qh;have Cc:=Ph;clear Eb Rb Ac Ld Sg Qh Ph hb yc hg)|((with_reducible refine Ob (N:=3) rfl ?_);refine Qb ?hg (N:=3) ?hd (cs:=#[.int .i64 0,.int .i64 0]) (t:=43) ?hr ?_;(case hd=>rfl);(case hg=>rfl);(case hr=>first|(go_simp;done)|(go_simp;rfl));intro bf hg w4 yc hb;have Eb:=ia.mk (tc (g:=Ua) (o:=.cells #[.int .i64 Kb,.int .i64 Mb] 45 (0,0)) (by (with_reducible repeat (first|refine Ja ?_ _|refine Oa ?_|refine Fa ?_ _));exact Va.out) hb);have Rb:=ia.mk (tc (g:=zb) (o:=.cells #[.int .i64 0,.int .i64 0] 43 (0,0)) (by (with_reducible repeat (first|refine Ja ?_ _|refine Oa ?_|refine Fa ?_ _));exact Pb.out) hb);have Ac:=ia.mk (Ka (by repeat (first|(with_reducible first|exact HB.out|apply ja|apply ga|apply oa|refine Ca ?_ Yb.out|refine Ca ?_ je.out)|exact HB.out)) hb);have Ld:=ia.mk (yc);have Sg:=ia.mk ((by rw [hg];exact (Ia (by repeat (first|(with_reducible first|exact HB.out|apply ja|apply ga|apply oa|refine Ca ?_ Yb.out|refine Ca ?_ je.out)|exact HB.out))):w.heap.size ≤ bf));have Qh:=ia.mk ((by rw [hg];exact (Ia (by repeat (first|(with_reducible first|exact HB.out|apply ja|apply ga|apply oa|refine Ca ?_ Yb.out|refine Ca ?_ je.out)|exact HB.out))):w.heap.size ≤ bf));have Ph:=ia.mk ((by rw [hg];exact Nat.ne_of_lt (Zb (g:=Ua) (o:=.cells #[.int .i64 Kb,.int .i64 Mb] 45 (0,0)) (by (with_reducible repeat (first|refine Ja ?_ _|refine Oa ?_|refine Fa ?_ _));exact Va.out)):Ua ≠ bf));have Fp:=ia.mk ((by rw [hg];exact Nat.ne_of_gt (Zb (g:=Ua) (o:=.cells #[.int .i64 Kb,.int .i64 Mb] 45 (0,0)) (by (with_reducible repeat (first|refine Ja ?_ _|refine Oa ?_|refine Fa ?_ _));exact Va.out)):bf ≠ Ua));have Ep:=ia.mk ((by rw [hg];exact Nat.ne_of_lt (Zb (g:=zb) (o:=.cells #[.int .i64 0,.int .i64 0] 43 (0,0)) (by (with_reducible repeat (first|refine Ja ?_ _|refine Oa ?_|refine Fa ?_ _));exact Pb.out)):zb ≠ bf));have Dp:=ia.mk ((by rw [hg];exact Nat.ne_of_gt (Zb (g:=zb) (o:=.cells #[.int .i64 0,.int .i64 0] 43 (0,0)) (by (with_reducible repeat (first|refine Ja ?_ _|refine Oa ?_|refine Fa ?_ _));exact Pb.out)):bf ≠ zb));clear Va Pb HB;have Va:=Eb;have Pb:=Rb;have HB:=Ac;have si:=Ld;have uq:=Sg;have Tm:=Qh;have Oi:=Ph;have Ni:=Fp;have Ye:=Ep;have Mi:=Dp;clear Eb Rb Ac Ld Sg Qh Ph Fp Ep Dp hb yc hg;have Oq:=Dc.out;have Jq:=Cc.out;have Nq:=Oi.out;have Iq:=Ni.out;have Ao:w4.cell? ⟨Ua,0,none⟩=some (.int .i64 Kb):=(Pa Va.out 0).trans rfl;have zo:w4.cell? ⟨Ua,1,none⟩=some (.int .i64 Mb):=(Pa Va.out 1).trans rfl;have qo:=Qa Va.out 0;have oo:=Qa Va.out 1;have Lq:=Mi.out;have Gq:=Ye.out;have Yk:w4.cell? ⟨bf,0,none⟩=some (.int .i64 0):=(Pa si.out 0).trans rfl;have Xk:w4.cell? ⟨bf,1,none⟩=some (.int .i64 0):=(Pa si.out 1).trans rfl;have Tk:=Qa si.out 0;have Sk:=Qa si.out 1;have Ln:w4.cell? ⟨zb,0,none⟩=some (.int .i64 0):=(Pa Pb.out 0).trans rfl;have Kn:w4.cell? ⟨zb,1,none⟩=some (.int .i64 0):=(Pa Pb.out 1).trans rfl;have zn:=Qa Pb.out 0;have vn:=Qa Pb.out 1));refine bodyPost_ret (results_cell_row rfl _ _ zb 43 #[.int .i64 Kb,.int .i64 Mb] (0,0) _ rfl (by (with_reducible repeat (first|refine Ja ?_ _|refine Oa ?_|refine Fa ?_ _));refine yf (cs:=#[.int .i64 Kb,.int .i64 0]) ?_ 1 _ rfl;(with_reducible repeat (first|refine Ja ?_ _|refine Oa ?_|refine Fa ?_ _));refine yf (cs:=#[.int .i64 0,.int .i64 0]) ?_ 0 _ rfl;(with_reducible repeat (first|refine Ja ?_ _|refine Oa ?_|refine Fa ?_ _));refine qi ?_ Ye.out _;(with_reducible repeat (first|refine Ja ?_ _|refine Oa ?_|refine Fa ?_ _));refine qi ?_ Ye.out _;(with_reducible repeat (first|refine Ja ?_ _|refine Oa ?_|refine Fa ?_ _));exact Pb.out) Tryd.underlying43 rfl (by kernel_rfl)) rfl ?_;exact ⟨by first|rfl|(simp [Na,Ma] <;> rfl)|(simp [*,Na,Ma] <;> rfl),by repeat (first|(with_reducible first|exact HB.out|apply ja|apply ga|apply oa|refine Ca ?_ Yb.out|refine Ca ?_ je.out|refine Ca ?_ Tm.out)|exact HB.out)⟩
def za.l0:Nat→List (Lg)→List (Yc)→Int→Option ((List (Yc)))
 | 0,_,_,_=>none
 | k + 1,x0,x3,x4=>if x4 < (x0.length:Int) then (if 0 ≤ x4 then ((Mc.f ((td x0 x4).f0) ((td x0 x4).f1)).bind fun vk=>(if x4 < (x3.length:Int) then (za.l0 k x0 (x3.set (x4:Int).toNat (⟨vk.1,vk.2⟩:Yc)) (wrap64 (x4 + 1))) else (none))) else (none)) else (some x3)
def za.f (k:Nat) (l0:List (Lg)):Option ((List (Yc))):=if 0 ≤ (l0.length:Int) then (if ((l0.length:Int):Int).toNat ≤ 17592186044416 then (za.l0 k l0 (List.replicate ((l0.length:Int):Int).toNat Mh) 0) else (none)) else (none)
theorem za.calls (k:Nat) (A0:Option Addr) (c0:Nat) (l0:List (Lg)) (r:List (Yc)) (w:World) (Bg:Kd.C Mk w A0 l0.length l0) (hc0:l0.length ≤ c0) (h:za.f k l0=some r) :
  Calls Tryd.prog 7 #[.slice A0 l0.length c0] w fun e w'=>∃ Ap:Value,e = .returned (Ap)∧Kd.R Tg 43 w' w.heap.size (fun _=>True) Ap r∧Below w.heap.size w w':=by
 have Xn:=Tryd.underlying45;have Nj:=Tryd.underlying43;have Yf:=ia.mk Bg;have Hj:=ia.mk hc0;clear Bg hc0;have HB:=ia.mk (Below.refl w.heap.size w);have H:(if 0 ≤ (l0.length:Int) then (if ((l0.length:Int):Int).toNat ≤ 17592186044416 then (za.l0 k l0 (List.replicate ((l0.length:Int):Int).toNat Mh) 0) else (none)) else (none))=some r:=h;clear h
 by_cases c2:0 ≤ (l0.length:Int)
 ·rw [if_pos c2] at H;have Ki:=eq_true c2;have Vj:decide (0 ≤ (l0.length:Int))=true:=decide_eq_true c2;clear c2
  by_cases c3:((l0.length:Int):Int).toNat ≤ 17592186044416
  ·rw [if_pos c3] at H;have we:=eq_true c3;have Hg:decide (((l0.length:Int):Int).toNat ≤ 17592186044416)=true:=decide_eq_true c3;clear c3;obtain ⟨Ri,Md⟩:∃ y_:List (Yc),y_=(List.replicate ((l0.length:Int):Int).toNat Mh):=⟨_,rfl⟩;replace H:(za.l0 k l0 Ri 0)=some r:=by first|(rw [Md];with_reducible exact H)|(have Lh:=(Option.bind_some _ _).symm.trans H;rw [Md];with_reducible exact Lh)|(have Lh:=(Option.bind_some _ _).symm.trans H;with_reducible exact Lh)|with_reducible exact H|(rw [Md];exact H)|exact H
   have bh:=ia.mk Md;clear Md;have H':=ia.mk H;clear H;go_enter Tryd.func7,Tryd.ntmps7;go_wp2_with (first|((with_reducible refine Ob (N:=7) rfl ?_);refine Kd.Al Tg _ 43 rfl (N:=7) rfl 25 _ _ rfl (l0.length:Int) rfl rfl Tryd.underlying25 (.agg #[(.int .i64 0),(.int .i64 0)]) 16 Nk rfl (by decide) (by omega) Mh (ok:=fun _=>True) (qf:=fun _=>True) (Th _ _ _ Mh ) (fun _ hk=>hk) trivial (of_decide_eq_true (by first|(with_reducible assumption)|assumption)) (Nat.le_trans (Nat.mul_le_mul_right _ (of_decide_eq_true (by first|(with_reducible assumption)|assumption):(l0.length:Int).toNat ≤ 17592186044416)) (by omega)) (Below.refl _ _) (Nat.le_refl _) ?_;intro Il w4 Ql hb jo cj;clear jo cj;(first|rw [← bh.out] at Ql|(simp only [Int.reduceToNat] at Ql;rw [← bh.out] at Ql));have Eb:=ia.mk (Kd.Ud Ql (Ia (by repeat (first|(with_reducible first|exact HB.out|apply ja|apply ga|apply oa)|exact HB.out))));have Rb:=ia.mk (Ka (by repeat (first|(with_reducible first|exact HB.out|apply ja|apply ga|apply oa)|exact HB.out)) hb);clear HB;have Cj:=Eb;have HB:=Rb;clear Eb Rb hb Ql))
   go_loopg [4] k (fun kq v4 w'=>∃ (Ga:List (Yc)) (Ea:Int),v4 = .int .i64 Ea∧ia (za.l0 kq l0 Ga Ea=some r)∧ia (kq ≤ k)∧ia (Kd.R Tg 43 w' w.heap.size (fun _=>True) Il Ga)∧ia (Below w.heap.size w w'))
   case atStart=>exact ⟨(Ri),(0),(by first|rfl|(simp;done)|(simp [*];done)),H',⟨Nat.le_refl _⟩,⟨by (with_reducible repeat (first|apply Kd.Ya|apply Kd.Xa|apply Kd.xb));exact Cj.out⟩,⟨by repeat (first|(with_reducible first|exact HB.out|apply ja|apply ga|apply oa)|exact HB.out)⟩⟩
   case round =>
    clear H'
    try clear c2
    try clear Ki
    try clear Vj
    try clear p2
    try clear c3
    try clear we
    try clear Hg
    (try clear HA);(try clear Xf);(try clear Lb);(try clear HB);obtain ⟨Ga,Ea,rfl,HA,Xf,Lb,HB⟩:=hrel;cases gk with
    | zero=>exact absurd HA.out (by simp [za.l0])
    | succ k1 =>
     have H:=HA.out;clear HA;simp only [za.l0] at H
     by_cases c6:Ea < (l0.length:Int)
     ·rw [if_pos c6] at H;have Eh:decide (Ea < (l0.length:Int))=true:=decide_eq_true c6;clear c6
      by_cases c7:0 ≤ Ea
      ·rw [if_pos c7] at H;have ir:decide (0 ≤ Ea)=true:=decide_eq_true c7;clear c7;replace H:=Option.bind_eq_some_iff.mp H;obtain ⟨⟨t105,t106⟩,vq,H⟩:=H;replace H:(if Ea < (Ga.length:Int) then (za.l0 k1 l0 (Ga.set (Ea:Int).toNat (⟨t105,t106⟩:Yc)) (wrap64 (Ea + 1))) else (none))=some r:=H;have A8:=ia.mk vq;clear vq
       by_cases c9:Ea < (Ga.length:Int)
       ·rw [if_pos c9] at H;have qm:decide (Ea < (Ga.length:Int))=true:=decide_eq_true c9;clear c9;obtain ⟨Ck,Vg⟩:∃ y_:List (Yc),y_=(Ga.set (Ea:Int).toNat (⟨t105,t106⟩:Yc)):=⟨_,rfl⟩;replace H:(za.l0 k1 l0 Ck (wrap64 (Ea + 1)))=some r:=by first|(rw [Vg];with_reducible exact H)|(have Lh:=(Option.bind_some _ _).symm.trans H;rw [Vg];with_reducible exact Lh)|(have Lh:=(Option.bind_some _ _).symm.trans H;with_reducible exact Lh)|with_reducible exact H|(rw [Vg];exact H)|exact H
        have Om:=ia.mk Vg;clear Vg;have H':=ia.mk H;clear H;have oh:0 ≤ (Ea:Int):=of_decide_eq_true (by first|(with_reducible assumption)|assumption);have mh:Ea < (l0.length:Int):=of_decide_eq_true (by first|(with_reducible assumption)|assumption);obtain ⟨Jm,cl,Ee,De⟩:=zl Yf.out Ea oh mh;cases cl;replace Ee:=Ta HB.out Ee;replace De:=Ta HB.out De;replace oh:=eq_true oh;replace mh:=eq_true mh;go_wp2_with (first|((with_reducible refine qb (f:=16) rfl ?_);refine Uc (some 20) rfl rfl Tryd.func16 (by kernel_rfl) rfl #[.agg #[.int .i64 ((td l0 Ea).f0),.int .i64 ((td l0 Ea).f1)]] rfl (by (try simp only [List.map_toArray,List.map_cons,List.map_nil]);first|done|rfl|(simp only [List.length_drop,List.length_take];rfl)) ?_;(with_reducible refine (Mc.calls ((td l0 Ea).f0) ((td l0 Ea).f1) t105 t106 _ A8.out).mono ?_);rintro e zi ⟨rfl,hb⟩;refine ⟨_,rfl,?_⟩;have Eb:=ia.mk (Kd.Xb (by (with_reducible repeat (first|apply Kd.Ya|apply Kd.Xa|apply Kd.xb));exact Lb.out) hb);have Rb:=ia.mk (Ka (by repeat (first|(with_reducible first|exact HB.out|apply ja|apply ga|apply oa)|exact HB.out)) hb);clear Lb HB;have Lb:=Eb;have HB:=Rb;clear Eb Rb;(try clear hb);(try clear hb2);(try clear hk);(try clear hi);have Tn:0 ≤ (Ea:Int):=of_decide_eq_true (by first|(with_reducible assumption)|assumption);have Sn:(Ea:Int) < ((Ga.length:Int):Int):=of_decide_eq_true (by first|(with_reducible assumption)|assumption);obtain ⟨Cg,jm,dm,Yl,Fo,Xq,Sm⟩:=Kd.Cl Lb.out (by omega);(first|cases dm|(injection dm with Mn Uq Vq;(first|subst Mn|(injection Mn with Mn;subst Mn));subst Vq;clear Uq));have Um:=ia.mk Yl;have vr:=ia.mk Sm;clear Yl Fo Sm;obtain ⟨Zq,Vl,Xl,gj,fj⟩:=Kd.Bj Lb.out Mh (Ea:Int) Tn Sn;obtain rfl:=mg Xl;have Wn:zi.cell? ⟨Cg,(Ea:Int).toNat * 2,none⟩=some (.int .i64 ((Ba Ga Ea).f0)):=gj 0 _ rfl;have Vn:zi.cell? ⟨Cg,(Ea:Int).toNat * 2 + 1,none⟩=some (.int .i64 ((Ba Ga Ea).f1)):=gj 1 _ rfl;have wo:zi.frozen? ⟨Cg,(Ea:Int).toNat * 2,none⟩=false:=fj 0;have vo:zi.frozen? ⟨Cg,(Ea:Int).toNat * 2 + 1,none⟩=false:=fj 1;clear Vl gj fj Xl;replace Tn:=eq_true Tn;replace Sn:=eq_true Sn;have Qm:=ia.mk (show Kd.R Tg 43 zi w.heap.size (fun _=>True) (.slice (some ⟨Cg,0,none⟩) Ga.length jm) Ga from (by (with_reducible repeat (first|apply Kd.Ya|apply Kd.Xa|apply Kd.xb));exact Lb.out));obtain ⟨Yq,uk,Wl,ai,ej⟩:=Kd.Bj Qm.out Mh (Ea:Int) (of_decide_eq_true (by first|(with_reducible assumption)|assumption)) (by have h_:(Ea:Int) < ((Ga.length:Int):Int):=of_decide_eq_true (by first|(with_reducible assumption)|assumption);first|exact h_|(have e_:=(Kd.Fb Lb.out).1;omega)|simpa using h_);obtain rfl:=mg Wl;have El:=Kd.Lm Qm.out (Ea:Int) (of_decide_eq_true (by first|(with_reducible assumption)|assumption)) (by have h_:(Ea:Int) < ((Ga.length:Int):Int):=of_decide_eq_true (by first|(with_reducible assumption)|assumption);first|exact h_|(have e_:=(Kd.Fb Lb.out).1;omega)|simpa using h_) (seg:=[.int .i64 t105,.int .i64 t106]) (j:=0) uk ai (show 2 ≤ 2 from by decide) (x':=(⟨t105,t106⟩:Yc)) (Th _ _ _ (⟨t105,t106⟩:Yc) ) (fun _ hk=>hk);have Pk:=ai 0 _ rfl;(try simp only [show (Tg).sz=2 from rfl,Nat.mul_one,Nat.add_zero] at Pk);have Wk:=ej 0;(try simp only [show (Tg).sz=2 from rfl,Nat.mul_one,Nat.add_zero] at Wk);have Ok:=ai 1 _ rfl;(try simp only [show (Tg).sz=2 from rfl,Nat.mul_one,Nat.add_zero] at Ok);have Vk:=ej 1;(try simp only [show (Tg).sz=2 from rfl,Nat.mul_one,Nat.add_zero] at Vk);clear uk ai ej Wl)|((with_reducible refine Bh (t:=43) (p:=21) rfl ?_);refine Ng (t:=43) (p:=21) (v:=?Qn) (w1:=((zi.setCell ⟨Cg,(Ea:Int).toNat * 2,none⟩ (.int .i64 t105)).setCell ⟨Cg,(Ea:Int).toNat * 2 + 1,none⟩ (.int .i64 t106))) ?hg ?ho ?hn ?hr ?_;(case ho=>rfl);(case hg=>rfl);(case hn=>rfl);(case hr=>first|(go_simp;done)|(go_simp;rfl));intro Pn hw;have hg:zi.grownBy Pn (some Cg):=(by rw [hw];exact El.2);have Hp:Kd.R Tg 43 Pn w.heap.size (fun _=>True) (.slice (some ⟨Cg,0,none⟩) Ga.length jm) Ck:=(by rw [hw,Om.out];exact El.1);clear El;have Eb:=ia.mk (Hp);have Rb:=ia.mk ((by rw [hw];exact Ca (Ca (HB.out) Um.out) Um.out:Below w.heap.size w Pn));clear Lb HB;have Lb:=Eb;have HB:=Rb;clear Eb Rb hg hw Hp))
        go_roundg k1
        case measure=>have:=Xf.out;omega
        case rel=>exact ⟨(Ck),(wrap64 (Ea + 1)),(by first|rfl|(simp;done)|(simp [*];done)),H',⟨by have:=Xf.out;omega⟩,⟨by (with_reducible repeat (first|apply Kd.Ya|apply Kd.Xa|apply Kd.xb));exact Lb.out⟩,⟨by repeat (first|(with_reducible first|exact HB.out|apply ja|apply ga|apply oa)|exact HB.out)⟩⟩
       ·rw [if_neg c9] at H;exact absurd H (by simp)
      ·rw [if_neg c7] at H;exact absurd H (by simp)
     ·rw [if_neg c6] at H;have Eh:decide (Ea < (l0.length:Int))=false:=decide_eq_false c6;clear c6;obtain rfl:=Option.some.inj H;go_wp2;go_ret;exact ⟨_,by first|rfl|(simp [Na,Ma] <;> rfl)|(simp [*,Na,Ma] <;> rfl),by (with_reducible repeat (first|apply Kd.Ya|apply Kd.Xa|apply Kd.xb));exact Lb.out,by repeat (first|(with_reducible first|exact HB.out|apply ja|apply ga|apply oa)|exact HB.out)⟩
  ·rw [if_neg c3] at H;exact absurd H (by simp)
 ·rw [if_neg c2] at H;exact absurd H (by simp)
def nk (l:List ByteArray) (s:ByteArray):ByteArray:=⟨(Lib.join (l.map (·.data.toList)) s.data.toList).toArray⟩
def strings_Join.f (l0:List ByteArray) (a1:ByteArray):Option ByteArray:=if l0.length ≤ 140737488355328∧(Lib.join (l0.map (·.data.toList)) a1.data.toList).length ≤ 140737488355328 then some (nk l0 a1) else none
theorem strings_Join.calls (A0:Option Addr) (c0:Nat) (l0:List ByteArray) (a1:ByteArray) (r:ByteArray) (w:World) (Bg:Kd.C Kd.string w A0 l0.length l0) (hc0:l0.length ≤ c0) (h:strings_Join.f l0 a1=some r) :
  Calls Tryd.prog 19 #[.slice A0 l0.length c0,.string a1] w fun e w'=>e = .returned (.string r)∧Below w.heap.size w w':=by
 unfold strings_Join.f at h
 by_cases hb:l0.length ≤ 140737488355328∧(Lib.join (l0.map (·.data.toList)) a1.data.toList).length ≤ 140737488355328
 case neg=>rw [if_neg hb] at h;cases h
 rw [if_pos hb] at h;cases h
 by_cases hl:0 < l0.length
 ·obtain ⟨-,-,hq⟩:=Kd.jh (d:=(⟨#[]⟩:ByteArray)) (show (Kd.scalar Value.string (fun _=>rfl)).C w A0 l0.length l0 from Bg);obtain ⟨⟨bk,o,spot⟩,rfl,hcell⟩:=hq hl;have hspot:spot=none:=by simpa [Addr.add] using World.cell?_spot (hcell 0 hl)
  subst hspot
  have hlt:bk < w.heap.size:=by
   have h':=hcell 0 hl
   rcases Nat.lt_or_ge bk w.heap.size with h|h
   ·exact h
   ·simp [World.cell?,Addr.add,Array.getElem?_eq_none h] at h'
  refine (ke bk o c0 l0 a1 w (fun j x hx=>?_) hlt hb.1 hc0 hb.2);have hj:j < l0.length:=(List.getElem?_eq_some_iff.1 hx).1;have:=hcell j hj;rw [List.getD_eq_getElem?_getD,hx,Option.getD_some] at this
  rwa [Go.WideShapes.add_plain] at this
 ·obtain rfl:l0=[]:=List.eq_nil_of_length_eq_zero (by omega);refine (Bd A0 c0 a1 w).mono ?_;rintro e w' ⟨rfl,rfl⟩;exact ⟨rfl,Below.refl _ _⟩
def ua.l0:Nat→List ByteArray→List (Yc)→Int→Int→Option (ByteArray)
 | 0,_,_,_,_=>none
 | k + 1,x3,x7,x8,x9=>if x9 < x8 then (if 0 ≤ x9 then (if x9 < (x7.length:Int) then ((Sc.f ((Ba x7 x9).f0)).bind fun t106=>(if t106.size + 1 ≤ 9223372036854775807 then ((Sa.f ((Ba x7 x9).f1)).bind fun t107=>(if (t106 ++ (⟨#[61]⟩:ByteArray)).size + t107.size ≤ 9223372036854775807 then (if x3.length < 8796093022208 then (ua.l0 k (x3 ++ [(t106 ++ (⟨#[61]⟩:ByteArray)) ++ t107]) x7 x8 (wrap64 (x9 + 1))) else (none)) else (none))) else (none))) else (none)) else (none)) else (if (x3.length:Int)=0 then (some (⟨#[45]⟩:ByteArray)) else ((strings_Join.f x3 (⟨#[32]⟩:ByteArray)).bind fun t111=>(some t111)))
def ua.f (k:Nat) (l0:List (Yc)):Option (ByteArray):=ua.l0 k (([]:List ByteArray)) l0 (l0.length:Int) 0
def ua.T5:Bool × List (List Nat × List Nat):=(true,[([],[]),([],[]),([1],[1]),([2],[2]),([3],[3]),([],[]),([5],[5]),([6,3],[6]),([4,7],[4,7]),([8],[8]),([0,9,7],[0,9]),([10,10,0,1,2,3,4,5,6,7,8,9,10],[0,10])])
def ua.B5:List Nat:=[0,0,2,6,14,0,32,110,254,510,1023,2047]
theorem ua.Rn:Xc .any (opsOf Tryd.f8 5)=ua.T5:=by kernel_rfl
theorem ua.Gm:Qd ua.T5.2 ua.B5=true:=by kernel_rfl
theorem ua.calls (k:Nat) (A0:Option Addr) (c0:Nat) (l0:List (Yc)) (r:ByteArray) (w:World) (Bg:Kd.C Tg w A0 l0.length l0) (hc0:l0.length ≤ c0) (h:ua.f k l0=some r) (htab:We w:=by exact We.stays Qi.out (by repeat (first|(with_reducible first|exact HB.out|apply ja|apply ga|apply oa|refine Ca ?_ (ia.out (by assumption)))|exact HB.out)) (Nat.le_refl _)) :
  Calls Tryd.prog 8 #[.slice A0 l0.length c0] w fun e w'=>e = .returned (.string r)∧Below w.heap.size w w':=by
 have Nj:=Tryd.underlying43;have Yf:=ia.mk Bg;have Hj:=ia.mk hc0;clear Bg hc0;have Qi:=ia.mk htab;clear htab;have HB:=ia.mk (Below.refl w.heap.size w);have H:(ua.l0 k (([]:List ByteArray)) l0 (l0.length:Int) 0)=some r:=h;clear h;obtain ⟨Ri,Md⟩:∃ y_:List ByteArray,y_=(([]:List ByteArray)):=⟨_,rfl⟩;replace H:(ua.l0 k Ri l0 (l0.length:Int) 0)=some r:=by first|(rw [Md];with_reducible exact H)|(have Lh:=(Option.bind_some _ _).symm.trans H;rw [Md];with_reducible exact Lh)|(have Lh:=(Option.bind_some _ _).symm.trans H;with_reducible exact Lh)|with_reducible exact H|(rw [Md];exact H)|exact H
 have bh:=ia.mk Md;clear Md;have H':=ia.mk H;clear H;go_enter Tryd.func8,Tryd.ntmps8;go_wp2_with (first|((with_reducible refine Ob (N:=6) rfl ?_);refine Kd.xk Kd.string _ 9 ?hg (N:=6) ?hd (xs:=([]:List ByteArray)) (inner:=[]) (ok:=fun _=>True) (qf:=fun _=>True) ?hr ?hp (fun _ hk=>hk) trivial (Below.refl _ _) (Nat.le_refl _) (by simp) ?_;(case hd=>rfl);(case hg=>rfl);(case hr=>first|(go_simp;done)|(go_simp;rfl));(case hp=>exact (mb.none _ _));intro Il w2 Rl hb jo cj;clear jo cj;(first|rw [← bh.out] at Rl|(simp only [Int.reduceToNat] at Rl;rw [← bh.out] at Rl));have Eb:=ia.mk (Kd.Ud Rl (Ia (by repeat (first|(with_reducible first|exact HB.out|apply ja|apply ga|apply oa)|exact HB.out))));have Rb:=ia.mk (Ka (by repeat (first|(with_reducible first|exact HB.out|apply ja|apply ga|apply oa)|exact HB.out)) hb);clear HB;have Cj:=Eb;have HB:=Rb;clear Eb Rb hb Rl))
 go_loopg [3,9] k (fun kq v3 v9 w'=>∃ (Ga:List ByteArray) (Ib:Int),v9 = .int .i64 Ib∧ia (ua.l0 kq Ga l0 (l0.length:Int) Ib=some r)∧ia (kq ≤ k)∧ia (Kd.R Kd.string 9 w' w.heap.size (fun _=>True) v3 Ga)∧ia (Below w.heap.size w w'))
 case atStart=>exact ⟨(Ri),(0),(by first|rfl|(simp;done)|(simp [*];done)),H',⟨Nat.le_refl _⟩,⟨by (with_reducible repeat (first|apply Kd.Ya|apply Kd.Xa|apply Kd.xb));exact Cj.out⟩,⟨by repeat (first|(with_reducible first|exact HB.out|apply ja|apply ga|apply oa)|exact HB.out)⟩⟩
 case round =>
  clear H'
  try clear p2
  (try clear HA);(try clear Xf);(try clear Lb);(try clear HB);obtain ⟨Ga,Ib,rfl,HA,Xf,Lb,HB⟩:=hrel;cases gk with
  | zero=>exact absurd HA.out (by simp [ua.l0])
  | succ k1 =>
   have H:=HA.out;clear HA;simp only [ua.l0] at H
   by_cases c4:Ib < (l0.length:Int)
   ·rw [if_pos c4] at H;have Xg:decide (Ib < (l0.length:Int))=true:=decide_eq_true c4;clear c4
    by_cases c5:0 ≤ Ib
    ·rw [if_pos c5] at H;have vl:decide (0 ≤ Ib)=true:=decide_eq_true c5;clear c5
     by_cases c6:Ib < (l0.length:Int)
     ·rw [if_pos c6] at H;have Eh:decide (Ib < (l0.length:Int))=true:=decide_eq_true c6;clear c6;replace H:=Option.bind_eq_some_iff.mp H;obtain ⟨t106,Fj,H⟩:=H;replace H:(if t106.size + 1 ≤ 9223372036854775807 then ((Sa.f ((Ba l0 Ib).f1)).bind fun t107=>(if (t106 ++ (⟨#[61]⟩:ByteArray)).size + t107.size ≤ 9223372036854775807 then (if Ga.length < 8796093022208 then (ua.l0 k1 (Ga ++ [(t106 ++ (⟨#[61]⟩:ByteArray)) ++ t107]) l0 (l0.length:Int) (wrap64 (Ib + 1))) else (none)) else (none))) else (none))=some r:=H;have A7:=ia.mk Fj;clear Fj
      by_cases c8:t106.size + 1 ≤ 9223372036854775807
      ·rw [if_pos c8] at H;have ql:=eq_true c8;have jl:decide (t106.size + 1 ≤ 9223372036854775807)=true:=decide_eq_true c8
       try have Vo:(9223372036854775807 < t106.size + 1)=False:=eq_false (Nat.not_lt.2 c8)
       replace H:=Option.bind_eq_some_iff.mp H;obtain ⟨t107,Wm,H⟩:=H;replace H:(if (t106 ++ (⟨#[61]⟩:ByteArray)).size + t107.size ≤ 9223372036854775807 then (if Ga.length < 8796093022208 then (ua.l0 k1 (Ga ++ [(t106 ++ (⟨#[61]⟩:ByteArray)) ++ t107]) l0 (l0.length:Int) (wrap64 (Ib + 1))) else (none)) else (none))=some r:=H;have A9:=ia.mk Wm;clear Wm
       by_cases c10:(t106 ++ (⟨#[61]⟩:ByteArray)).size + t107.size ≤ 9223372036854775807
       ·rw [if_pos c10] at H;have Fm:=eq_true c10;have Em:decide ((t106 ++ (⟨#[61]⟩:ByteArray)).size + t107.size ≤ 9223372036854775807)=true:=decide_eq_true c10
        try have pq:(9223372036854775807 < (t106 ++ (⟨#[61]⟩:ByteArray)).size + t107.size)=False:=eq_false (Nat.not_lt.2 c10)
        try have oq:(9223372036854775807 < (t106.size + 1) + t107.size)=False:=by have h_:=c10;simp only [ByteArray.size_append] at h_;exact eq_false (Nat.not_lt.2 h_)
        by_cases c11:Ga.length < 8796093022208
        ·rw [if_pos c11] at H;have Pm:=ia.mk c11;clear c11;obtain ⟨Hl,Ug⟩:∃ y_:List ByteArray,y_=(Ga ++ [(t106 ++ (⟨#[61]⟩:ByteArray)) ++ t107]):=⟨_,rfl⟩;replace H:(ua.l0 k1 Hl l0 (l0.length:Int) (wrap64 (Ib + 1)))=some r:=by first|(rw [Ug];with_reducible exact H)|(have Lh:=(Option.bind_some _ _).symm.trans H;rw [Ug];with_reducible exact Lh)|(have Lh:=(Option.bind_some _ _).symm.trans H;with_reducible exact Lh)|with_reducible exact H|(rw [Ug];exact H)|exact H
         have Mm:=ia.mk Ug;clear Ug;have H':=ia.mk H;clear H;have oh:0 ≤ (Ib:Int):=of_decide_eq_true (by first|(with_reducible assumption)|assumption);have mh:Ib < (l0.length:Int):=of_decide_eq_true (by first|(with_reducible assumption)|assumption);obtain ⟨Jm,cl,Ee,De⟩:=Bc Yf.out Ib oh mh;cases cl;replace Ee:=Ta HB.out Ee;replace De:=Ta HB.out De;replace oh:=eq_true oh;replace mh:=eq_true mh
         try go_wp2_with (first|((with_reducible refine Ob (N:=5) rfl ?_);refine Qb ?hg (N:=5) ?hd (cs:=#[.int .i64 0,.int .i64 0]) (t:=43) ?hr ?_;(case hd=>rfl);(case hg=>rfl);(case hr=>first|(go_simp;done)|(go_simp;rfl));intro qc hg ak yc hb;have Eb:=ia.mk (Kd.Xb (by (with_reducible repeat (first|apply Kd.Ya|apply Kd.Xa|apply Kd.xb));exact Lb.out) hb);have Rb:=ia.mk (Ka (by repeat (first|(with_reducible first|exact HB.out|apply ja|apply ga|apply oa)|exact HB.out)) hb);have Ac:=ia.mk (yc);have Ld:=ia.mk ((by rw [hg];exact (Ia (by repeat (first|(with_reducible first|exact HB.out|apply ja|apply ga|apply oa)|exact HB.out))):w.heap.size ≤ qc));have Sg:=ia.mk ((by rw [hg];exact (Ia (by repeat (first|(with_reducible first|exact HB.out|apply ja|apply ga|apply oa)|exact HB.out))):w.heap.size ≤ qc));clear Lb HB;have Lb:=Eb;have HB:=Rb;have Cb:=Ac;have tq:=Ld;have ug:=Sg;clear Eb Rb Ac Ld Sg hb yc hg;have Tj:ak.cell? ⟨qc,0,none⟩=some (.int .i64 0):=(Pa Cb.out 0).trans rfl;have Sj:ak.cell? ⟨qc,1,none⟩=some (.int .i64 0):=(Pa Cb.out 1).trans rfl;have Qj:=Qa Cb.out 0;have Pj:=Qa Cb.out 1))
         have Eb:ia (Kd.R Kd.string 9 ((ak.setCell ⟨qc,0,none⟩ (.int .i64 ((Ba l0 Ib).f0))).setCell ⟨qc,1,none⟩ (.int .i64 ((Ba l0 Ib).f1))) w.heap.size (fun _=>True) u3 Ga):=⟨by (with_reducible repeat (first|apply Kd.Ya|apply Kd.Xa|apply Kd.xb));exact Kd.Xe (Kd.zk (p:=⟨qc,1,none⟩) (Kd.zk (p:=⟨qc,0,none⟩) (Kd.Yj Lb.out Cb.out (by decide)) (fun _ hk=>hk.2) (.int .i64 ((Ba l0 Ib).f0))) (fun _ hk=>hk.2) (.int .i64 ((Ba l0 Ib).f1))) (fun _ hk=>trivial)⟩;have Rb:ia (((ak.setCell ⟨qc,0,none⟩ (.int .i64 ((Ba l0 Ib).f0))).setCell ⟨qc,1,none⟩ (.int .i64 ((Ba l0 Ib).f1))).heap[qc]? = some (.cells #[.int .i64 ((Ba l0 Ib).f0),.int .i64 ((Ba l0 Ib).f1)] 43 (0,0))):=⟨by (with_reducible repeat (first|refine Ja ?_ _|refine Oa ?_|refine Fa ?_ _));refine yf (cs:=#[.int .i64 ((Ba l0 Ib).f0),.int .i64 0]) ?_ 1 _ rfl;(with_reducible repeat (first|refine Ja ?_ _|refine Oa ?_|refine Fa ?_ _));refine yf (cs:=#[.int .i64 0,.int .i64 0]) ?_ 0 _ rfl;(with_reducible repeat (first|refine Ja ?_ _|refine Oa ?_|refine Fa ?_ _));exact Cb.out⟩;have Ac:ia (Below w.heap.size w ((ak.setCell ⟨qc,0,none⟩ (.int .i64 ((Ba l0 Ib).f0))).setCell ⟨qc,1,none⟩ (.int .i64 ((Ba l0 Ib).f1)))):=⟨by repeat (first|(with_reducible first|exact HB.out|apply ja|apply ga|apply oa|refine Ca ?_ ug.out)|exact HB.out)⟩;(try clear Lb);(try clear Cb);(try clear HB);generalize ((ak.setCell ⟨qc,0,none⟩ (.int .i64 ((Ba l0 Ib).f0))).setCell ⟨qc,1,none⟩ (.int .i64 ((Ba l0 Ib).f1)))=yp at Eb Rb Ac ⊢;have Lb:=Eb;have Cb:=Rb;have HB:=Ac;clear Eb Rb Ac;have Eb:=ia.mk (Kd.xb Lb.out);have Rb:=ia.mk (Oa Cb.out);have Ac:=ia.mk (oa HB.out);clear Lb Cb HB;have Lb:=Eb;have Cb:=Rb;have HB:=Ac;clear Eb Rb Ac;refine dh (n:=12) (S:=fun w'=>w'.cell? ⟨qc,0,none⟩=some (.int .i64 ((Ba l0 Ib).f0))∧w'.cell? ⟨qc,1,none⟩=some (.int .i64 ((Ba l0 Ib).f1))) (ds:=[]) #[false,false,false,false,false,false,false,false,false,false,false,false] (by kernel_rfl) rfl rfl ⟨(Pa Cb.out 0).trans rfl,(Pa Cb.out 1).trans rfl⟩ (fun hHeld=>?_);refine Me ua.Rn ua.Gm (fun Jd Ak=>?_);generalize yp.drew=Aq at Lb Cb HB hHeld ⊢;refine nc (i:=0) (N:=some 13) (v:=?_) (a':=?_) #[true,false,false,false,false,false,false,false,false,false,false,false] rfl rfl (Jb Jd.out (by kernel_rfl)) (fun _ _ _ h=>h) (Or.inl ⟨by rfl,?_⟩) ?_ ?_;rotate_left
         ·intro w';go_simp;with_reducible rfl
         rotate_left
         ·simp only [Act.put,List.setIfInBounds_toArray,List.set_cons_zero,List.set_cons_succ,yb,Bb]
          rfl
         refine nc (i:=1) (N:=some 14) (v:=?_) (a':=?_) #[true,true,false,false,false,false,false,false,false,false,false,false] rfl rfl (Jb Jd.out (by kernel_rfl)) (fun _ _ _ h=>h) (Or.inl ⟨by rfl,?_⟩) ?_ ?_;rotate_left
         ·intro w';go_simp;with_reducible rfl
         rotate_left
         ·simp only [Act.put,List.setIfInBounds_toArray,List.set_cons_zero,List.set_cons_succ,yb,Bb]
          rfl
         refine nc (i:=5) (N:=some 18) (v:=?_) (a':=?_) #[true,true,false,false,false,true,false,false,false,false,false,false] rfl rfl (Jb Jd.out (by kernel_rfl)) (fun _ _ _ h=>h) (Or.inl ⟨by rfl,?_⟩) ?_ ?_;rotate_left
         ·intro w';go_simp;with_reducible rfl
         rotate_left
         ·simp only [Act.put,List.setIfInBounds_toArray,List.set_cons_zero,List.set_cons_succ,yb,Bb]
          rfl
         refine Ze (i:=2) (N:=some 15) (v:=?_) (a':=?_) #[true,true,true,false,false,true,false,false,false,false,false,false] rfl rfl (Ad Jd.out Ak.out (by kernel_rfl)) (fun _ _ _ h=>h) (Or.inl ⟨by rfl,?_⟩) hHeld ?_ ?_;rotate_left
         ·rintro w' ⟨s0,s1⟩;go_simp;with_reducible rfl
         rotate_left
         ·simp only [Act.put,List.setIfInBounds_toArray,List.set_cons_zero,List.set_cons_succ,yb,Bb]
          rfl
         refine Ze (i:=6) (N:=some 19) (v:=?_) (a':=?_) #[true,true,true,false,false,true,true,false,false,false,false,false] rfl rfl (Ad Jd.out Ak.out (by kernel_rfl)) (fun _ _ _ h=>h) (Or.inl ⟨by rfl,?_⟩) hHeld ?_ ?_;rotate_left
         ·rintro w' ⟨s0,s1⟩;go_simp;with_reducible rfl
         rotate_left
         ·simp only [Act.put,List.setIfInBounds_toArray,List.set_cons_zero,List.set_cons_succ,yb,Bb]
          rfl
         refine Di (i:=3) (N:=some 16) #[true,true,true,true,false,true,true,false,false,false,false,false] rfl rfl (Qe Jd.out (by kernel_rfl)) (by decide) (fun K hK=>?_);refine di Tryd.func17 (by kernel_rfl) rfl #[.int .i64 ((Ba l0 Ib).f0)] (by rfl) rfl rfl (by (try simp only [List.map_toArray,List.map_cons,List.map_nil]);first|done|rfl|(simp only [List.length_drop,List.length_take];rfl)) ?_;with_reducible refine (Sc.calls ((Ba l0 Ib).f0) t106 _ A7.out).mono ?_
         rintro e Fl ⟨rfl,hb⟩;refine ⟨_,rfl,?_⟩;have Eb:=ia.mk (Kd.Xb (by (with_reducible repeat (first|apply Kd.Ya|apply Kd.Xa|apply Kd.xb));exact Lb.out) hb);have Rb:=ia.mk (tc (g:=qc) (o:=.cells #[.int .i64 ((Ba l0 Ib).f0),.int .i64 ((Ba l0 Ib).f1)] 43 (0,0)) (by (with_reducible repeat (first|refine Ja ?_ _|refine Oa ?_|refine Fa ?_ _));exact Cb.out) hb);have Ac:=ia.mk (Ka (by repeat (first|(with_reducible first|exact HB.out|apply ja|apply ga|apply oa|refine Ca ?_ ug.out)|exact HB.out)) hb);clear Lb Cb HB;have Lb:=Eb;have Cb:=Rb;have HB:=Ac;clear Eb Rb Ac;(try clear hb);(try clear hb2);(try clear hk);(try clear hi);refine hK.out _ _ ⟨(Pa Cb.out 0).trans rfl,(Pa Cb.out 1).trans rfl⟩ (fun hHeld=>?_);clear hK K;refine kg (a':=?_) ?_ ?_;rotate_left
         ·show Act.put _ (some 16) _=_
          simp only [Act.put,List.setIfInBounds_toArray,List.set_cons_zero,List.set_cons_succ,yb,Bb]
          rfl
         refine nc (i:=4) (N:=some 17) (v:=?_) (a':=?_) #[true,true,true,true,true,true,true,false,false,false,false,false] rfl rfl (Jb Jd.out (by kernel_rfl)) (fun _ _ _ h=>h) (Or.inl ⟨by rfl,?_⟩) ?_ ?_;rotate_left
         ·intro w';go_simp;with_reducible rfl
         rotate_left
         ·simp only [Act.put,List.setIfInBounds_toArray,List.set_cons_zero,List.set_cons_succ,yb,Bb]
          rfl
         refine Di (i:=7) (N:=some 20) #[true,true,true,true,true,true,true,true,false,false,false,false] rfl rfl (Qe Jd.out (by kernel_rfl)) (by decide) (fun K hK=>?_);refine di Tryd.func18 (by kernel_rfl) rfl #[.int .i64 ((Ba l0 Ib).f1)] (by rfl) rfl rfl (by (try simp only [List.map_toArray,List.map_cons,List.map_nil]);first|done|rfl|(simp only [List.length_drop,List.length_take];rfl)) ?_;with_reducible refine (Sa.calls ((Ba l0 Ib).f1) t107 _ A9.out).mono ?_
         rintro e zq ⟨rfl,hb⟩;refine ⟨_,rfl,?_⟩;have Eb:=ia.mk (Kd.Xb (by (with_reducible repeat (first|apply Kd.Ya|apply Kd.Xa|apply Kd.xb));exact Lb.out) hb);have Rb:=ia.mk (tc (g:=qc) (o:=.cells #[.int .i64 ((Ba l0 Ib).f0),.int .i64 ((Ba l0 Ib).f1)] 43 (0,0)) (by (with_reducible repeat (first|refine Ja ?_ _|refine Oa ?_|refine Fa ?_ _));exact Cb.out) hb);have Ac:=ia.mk (Ka (by repeat (first|(with_reducible first|exact HB.out|apply ja|apply ga|apply oa|refine Ca ?_ ug.out)|exact HB.out)) hb);clear Lb Cb HB;have Lb:=Eb;have Cb:=Rb;have HB:=Ac;clear Eb Rb Ac;(try clear hb);(try clear hb2);(try clear hk);(try clear hi);refine hK.out _ _ ⟨(Pa Cb.out 0).trans rfl,(Pa Cb.out 1).trans rfl⟩ (fun hHeld=>?_);clear hK K;refine kg (a':=?_) ?_ ?_;rotate_left
         ·show Act.put _ (some 20) _=_
          simp only [Act.put,List.setIfInBounds_toArray,List.set_cons_zero,List.set_cons_succ,yb,Bb]
          rfl
         refine nc (i:=8) (N:=some 21) (v:=?_) (a':=?_) #[true,true,true,true,true,true,true,true,true,false,false,false] rfl rfl (Jb Jd.out (by kernel_rfl)) (fun _ _ _ h=>h) (Or.inl ⟨by rfl,?_⟩) ?_ ?_;rotate_left
         ·intro w';go_simp;with_reducible rfl
         rotate_left
         ·simp only [Act.put,List.setIfInBounds_toArray,List.set_cons_zero,List.set_cons_succ,yb,Bb]
          rfl
         refine Di (i:=9) (N:=some 22) #[true,true,true,true,true,true,true,true,true,true,false,false] rfl rfl (Qe Jd.out (by kernel_rfl)) (by decide) (fun K hK=>?_);refine Dk (w1:=?_) (v:=?_) (by rfl) rfl ?_ ?_;rotate_left 2
         ·go_simp
          constructor
          ·rfl
          ·rfl
         refine hK.out _ _ ⟨(Pa (Fa Cb.out _) 0).trans rfl,(Pa (Fa Cb.out _) 1).trans rfl⟩ (fun hHeld=>?_);clear hK K;refine kg (a':=?_) ?_ ?_;rotate_left
         ·show Act.put _ (some 22) _=_
          simp only [Act.put,List.setIfInBounds_toArray,List.set_cons_zero,List.set_cons_succ,yb,Bb]
          rfl
         refine Di (i:=10) (N:=some 23) #[true,true,true,true,true,true,true,true,true,true,true,false] rfl rfl (Qe Jd.out (by kernel_rfl)) (by decide) (fun K hK=>?_);refine Kd.cg Kd.string (w0:=w) w.heap.size (by rfl) (.tmp 13) (.tmp 22) 46 9 (.string ⟨#[]⟩) 16 rfl Tryd.underlying46 Nl rfl (by decide) (by omega) u3 Ga ((t106 ++ (⟨#[61]⟩:ByteArray)) ++ t107) [.string ((t106 ++ (⟨#[61]⟩:ByteArray)) ++ t107)] (fun _=>True) (fun _=>False) rfl rfl ?aP (fun _ hk=>hk.elim) ?aF ?aO ?aB ?aS ?aL ?_
         (case aP=>exact rfl)
         (case aB=>exact (by repeat (first|(with_reducible first|exact HB.out|apply ja|apply ga|apply oa|refine Ca ?_ ug.out)|exact HB.out)))
         (case aF=>exact (fun _ _=>trivial))
         (case aO=>exact (by (with_reducible repeat (first|apply Kd.Ya|apply Kd.Xa|apply Kd.xb));exact Lb.out))
         (case aS=>exact (Ia (by repeat (first|(with_reducible first|exact HB.out|apply ja|apply ga|apply oa|refine Ca ?_ ug.out)|exact HB.out))))
         (case aL=>have:=Pm.out;omega)
         intro v109 Er ho hb hg hat;rw [← Mm.out] at ho;have Eb:=ia.mk (Li (g:=qc) (o:=.cells #[.int .i64 ((Ba l0 Ib).f0),.int .i64 ((Ba l0 Ib).f1)] 43 (0,0)) (by (with_reducible repeat (first|refine Ja ?_ _|refine Oa ?_|refine Fa ?_ _));exact Cb.out) hg (Kd.Zo Lb.out Cb.out (by decide)));have Rb:=ia.mk (hb);have Ac:=ia.mk (ho);clear Cb HB Lb;have Cb:=Eb;have HB:=Rb;have Rm:=Ac;clear Eb Rb Ac ho hb hg hat;refine hK.out _ _ ⟨(Pa Cb.out 0).trans rfl,(Pa Cb.out 1).trans rfl⟩ (fun hHeld=>?_);clear hK K;refine kg (a':=?_) ?_ ?_;rotate_left
         ·show Act.put _ (some 23) _=_
          simp only [Act.put,List.setIfInBounds_toArray,List.set_cons_zero,List.set_cons_succ,yb,Bb]
          rfl
         refine nc (i:=11) (N:=some 3) (v:=?_) (a':=?_) #[true,true,true,true,true,true,true,true,true,true,true,true] rfl rfl (Jb Jd.out (by kernel_rfl)) (fun _ _ _ h=>h) (Or.inl ⟨by rfl,?_⟩) ?_ ?_;rotate_left
         ·intro w';go_simp;with_reducible rfl
         rotate_left
         ·simp only [Act.put,List.setIfInBounds_toArray,List.set_cons_zero,List.set_cons_succ,yb,Bb]
          rfl
         refine tj (Dg Jd.out (by kernel_rfl)) ?_
         try go_wp2
         go_roundg k1
         case measure=>have:=Xf.out;omega
         case rel=>exact ⟨(Hl),(wrap64 (Ib + 1)),(by first|rfl|(simp;done)|(simp [*];done)),H',⟨by have:=Xf.out;omega⟩,⟨by (with_reducible repeat (first|apply Kd.Ya|apply Kd.Xa|apply Kd.xb));exact Rm.out⟩,⟨by repeat (first|(with_reducible first|exact HB.out|apply ja|apply ga|apply oa|refine Ca ?_ ug.out)|exact HB.out)⟩⟩
        ·rw [if_neg c11] at H;exact absurd H (by simp)
       ·rw [if_neg c10] at H;exact absurd H (by simp)
      ·rw [if_neg c8] at H;exact absurd H (by simp)
     ·rw [if_neg c6] at H;exact absurd H (by simp)
    ·rw [if_neg c5] at H;exact absurd H (by simp)
   ·rw [if_neg c4] at H;have Xg:decide (Ib < (l0.length:Int))=false:=decide_eq_false c4;clear c4
    by_cases Yg:(Ga.length:Int)=0
    ·rw [if_pos Yg] at H;have xj:((Ga.length:Int) == 0)=true:=beq_iff_eq.mpr Yg;have wj:((Ga.length:Int) != 0)=false:=bne_eq_false_iff_eq.mpr Yg;clear Yg;obtain rfl:=Option.some.inj H;obtain ⟨Ar,Wq,Jo⟩:=Kd.Ke Lb.out;subst Jo;go_wp2;go_ret;exact ⟨by first|rfl|(simp [Na,Ma] <;> rfl)|(simp [*,Na,Ma] <;> rfl),by repeat (first|(with_reducible first|exact HB.out|apply ja|apply ga|apply oa)|exact HB.out)⟩
    ·rw [if_neg Yg] at H;have xj:((Ga.length:Int) == 0)=false:=beq_eq_false_iff_ne.mpr Yg;have wj:((Ga.length:Int) != 0)=true:=bne_iff_ne.mpr Yg;have um:¬ (Ga=[]):=fun h_=>Yg (by rw [h_];rfl)
     replace H:=Option.bind_eq_some_iff.mp H;obtain ⟨t111,Xm,H⟩:=H;replace H:(some t111)=some r:=H;have Br:=ia.mk Xm;clear Xm;obtain rfl:=Option.some.inj H;obtain ⟨ep,Po,Io⟩:=Kd.Ke Lb.out;subst Io;go_wp2_with (first|((with_reducible refine qb (f:=19) rfl ?_);refine Uc (some 29) rfl rfl Tryd.func19 (by kernel_rfl) rfl #[.slice ep Ga.length Po,.string (⟨#[32]⟩:ByteArray)] rfl (by (try simp only [List.map_toArray,List.map_cons,List.map_nil]);first|done|rfl|(simp only [List.length_drop,List.length_take];rfl)) ?_;(with_reducible refine (strings_Join.calls _ _ Ga (⟨#[32]⟩:ByteArray) t111 _ ?Lc ?Jc Br.out).mono ?_);(case Lc=>repeat (first|exact (Kd.Fb Lb.out).2.2|(with_reducible refine Kd.Ic ?_ _)|(with_reducible refine Kd.Gc ?_ _)|(with_reducible refine Kd.yd ?_)));(case Jc=>exact (Kd.Fb Lb.out).2.1);rintro e Cr ⟨rfl,hb⟩;refine ⟨_,rfl,?_⟩;have Eb:=ia.mk (Kd.Xb (by (with_reducible repeat (first|apply Kd.Ya|apply Kd.Xa|apply Kd.xb));exact Lb.out) hb);have Rb:=ia.mk (Ka (by repeat (first|(with_reducible first|exact HB.out|apply ja|apply ga|apply oa)|exact HB.out)) hb);clear Lb HB;have Lb:=Eb;have HB:=Rb;clear Eb Rb;(try clear hb);(try clear hb2);(try clear hk);(try clear hi)));go_ret;exact ⟨by first|rfl|(simp [Na,Ma] <;> rfl)|(simp [*,Na,Ma] <;> rfl),by repeat (first|(with_reducible first|exact HB.out|apply ja|apply ga|apply oa)|exact HB.out)⟩
def oc.f (Kb:Int) (Mb:Int) (Xd:Int) (Wd:Int):Option (Bool):=if Kb=Xd then (if Mb=Wd then (some true) else (some false)) else (some false)
theorem oc.calls (Kb:Int) (Mb:Int) (Xd:Int) (Wd:Int) (r:Bool) (w:World) (h:oc.f Kb Mb Xd Wd=some r) :
  Calls Tryd.prog 20 #[.agg #[.int .i64 Kb,.int .i64 Mb],.agg #[.int .i64 Xd,.int .i64 Wd]] w fun e w'=>e = .returned (.bool r)∧Below w.heap.size w w':=by
 have Nj:=Tryd.underlying43;have HB:=ia.mk (Below.refl w.heap.size w);have H:(if Kb=Xd then (if Mb=Wd then (some true) else (some false)) else (some false))=some r:=h;clear h
 by_cases c3:Kb=Xd
 ·rw [if_pos c3] at H;have we:(Kb == Xd)=true:=beq_iff_eq.mpr c3;have Hg:(Kb != Xd)=false:=bne_eq_false_iff_eq.mpr c3;clear c3
  by_cases c4:Mb=Wd
  ·rw [if_pos c4] at H;have Xg:(Mb == Wd)=true:=beq_iff_eq.mpr c4;have rm:(Mb != Wd)=false:=bne_eq_false_iff_eq.mpr c4;clear c4;obtain rfl:=Option.some.inj H;go_enter Tryd.func20,Tryd.ntmps20;go_wp2_with (first|((with_reducible refine Ob (N:=2) rfl ?_);refine Qb ?hg (N:=2) ?hd (cs:=#[.int .i64 Kb,.int .i64 Mb]) (t:=43) ?hr ?_;(case hd=>rfl);(case hg=>rfl);(case hr=>first|(go_simp;done)|(go_simp;rfl));intro Ua hg w5 yc hb;have Eb:=ia.mk (Ka (by repeat (first|(with_reducible first|exact HB.out|apply ja|apply ga|apply oa)|exact HB.out)) hb);have Rb:=ia.mk (yc);have Ac:=ia.mk ((by rw [hg];exact (Ia (by repeat (first|(with_reducible first|exact HB.out|apply ja|apply ga|apply oa)|exact HB.out))):w.heap.size ≤ Ua));have Ld:=ia.mk ((by rw [hg];exact (Ia (by repeat (first|(with_reducible first|exact HB.out|apply ja|apply ga|apply oa)|exact HB.out))):w.heap.size ≤ Ua));clear HB;have HB:=Eb;have Va:=Rb;have Ej:=Ac;have Yb:=Ld;clear Eb Rb Ac Ld hb yc hg)|((with_reducible refine Ob (N:=3) rfl ?_);refine Qb ?hg (N:=3) ?hd (cs:=#[.int .i64 Xd,.int .i64 Wd]) (t:=43) ?hr ?_;(case hd=>rfl);(case hg=>rfl);(case hr=>first|(go_simp;done)|(go_simp;rfl));intro zb hg w6 yc hb;have Eb:=ia.mk (tc (g:=Ua) (o:=.cells #[.int .i64 Kb,.int .i64 Mb] 43 (0,0)) (by (with_reducible repeat (first|refine Ja ?_ _|refine Oa ?_|refine Fa ?_ _));exact Va.out) hb);have Rb:=ia.mk (Ka (by repeat (first|(with_reducible first|exact HB.out|apply ja|apply ga|apply oa|refine Ca ?_ Yb.out)|exact HB.out)) hb);have Ac:=ia.mk (yc);have Ld:=ia.mk ((by rw [hg];exact (Ia (by repeat (first|(with_reducible first|exact HB.out|apply ja|apply ga|apply oa|refine Ca ?_ Yb.out)|exact HB.out))):w.heap.size ≤ zb));have Sg:=ia.mk ((by rw [hg];exact (Ia (by repeat (first|(with_reducible first|exact HB.out|apply ja|apply ga|apply oa|refine Ca ?_ Yb.out)|exact HB.out))):w.heap.size ≤ zb));have Qh:=ia.mk ((by rw [hg];exact Nat.ne_of_lt (Zb (g:=Ua) (o:=.cells #[.int .i64 Kb,.int .i64 Mb] 43 (0,0)) (by (with_reducible repeat (first|refine Ja ?_ _|refine Oa ?_|refine Fa ?_ _));exact Va.out)):Ua ≠ zb));have Ph:=ia.mk ((by rw [hg];exact Nat.ne_of_gt (Zb (g:=Ua) (o:=.cells #[.int .i64 Kb,.int .i64 Mb] 43 (0,0)) (by (with_reducible repeat (first|refine Ja ?_ _|refine Oa ?_|refine Fa ?_ _));exact Va.out)):zb ≠ Ua));clear Va HB;have Va:=Eb;have HB:=Rb;have Pb:=Ac;have Dj:=Ld;have je:=Sg;have Dc:=Qh;have Cc:=Ph;clear Eb Rb Ac Ld Sg Qh Ph hb yc hg;have Mq:=Dc.out;have Hq:=Cc.out;have yo:w6.cell? ⟨Ua,0,none⟩=some (.int .i64 Kb):=(Pa Va.out 0).trans rfl;have xo:w6.cell? ⟨Ua,1,none⟩=some (.int .i64 Mb):=(Pa Va.out 1).trans rfl;have mo:=Qa Va.out 0;have ko:=Qa Va.out 1;have Yk:w6.cell? ⟨zb,0,none⟩=some (.int .i64 Xd):=(Pa Pb.out 0).trans rfl;have Xk:w6.cell? ⟨zb,1,none⟩=some (.int .i64 Wd):=(Pa Pb.out 1).trans rfl;have Tk:=Qa Pb.out 0;have Sk:=Qa Pb.out 1));go_ret;exact ⟨by first|rfl|(simp [Na,Ma] <;> rfl)|(simp [*,Na,Ma] <;> rfl),by repeat (first|(with_reducible first|exact HB.out|apply ja|apply ga|apply oa|refine Ca ?_ Yb.out|refine Ca ?_ je.out)|exact HB.out)⟩
  ·rw [if_neg c4] at H;have Xg:(Mb == Wd)=false:=beq_eq_false_iff_ne.mpr c4;have rm:(Mb != Wd)=true:=bne_iff_ne.mpr c4;obtain rfl:=Option.some.inj H;go_enter Tryd.func20,Tryd.ntmps20;go_wp2_with (first|((with_reducible refine Ob (N:=2) rfl ?_);refine Qb ?hg (N:=2) ?hd (cs:=#[.int .i64 Kb,.int .i64 Mb]) (t:=43) ?hr ?_;(case hd=>rfl);(case hg=>rfl);(case hr=>first|(go_simp;done)|(go_simp;rfl));intro Ua hg Bq yc hb;have Eb:=ia.mk (Ka (by repeat (first|(with_reducible first|exact HB.out|apply ja|apply ga|apply oa)|exact HB.out)) hb);have Rb:=ia.mk (yc);have Ac:=ia.mk ((by rw [hg];exact (Ia (by repeat (first|(with_reducible first|exact HB.out|apply ja|apply ga|apply oa)|exact HB.out))):w.heap.size ≤ Ua));have Ld:=ia.mk ((by rw [hg];exact (Ia (by repeat (first|(with_reducible first|exact HB.out|apply ja|apply ga|apply oa)|exact HB.out))):w.heap.size ≤ Ua));clear HB;have HB:=Eb;have Va:=Rb;have Ej:=Ac;have Yb:=Ld;clear Eb Rb Ac Ld hb yc hg)|((with_reducible refine Ob (N:=3) rfl ?_);refine Qb ?hg (N:=3) ?hd (cs:=#[.int .i64 Xd,.int .i64 Wd]) (t:=43) ?hr ?_;(case hd=>rfl);(case hg=>rfl);(case hr=>first|(go_simp;done)|(go_simp;rfl));intro zb hg zi yc hb;have Eb:=ia.mk (tc (g:=Ua) (o:=.cells #[.int .i64 Kb,.int .i64 Mb] 43 (0,0)) (by (with_reducible repeat (first|refine Ja ?_ _|refine Oa ?_|refine Fa ?_ _));exact Va.out) hb);have Rb:=ia.mk (Ka (by repeat (first|(with_reducible first|exact HB.out|apply ja|apply ga|apply oa|refine Ca ?_ Yb.out)|exact HB.out)) hb);have Ac:=ia.mk (yc);have Ld:=ia.mk ((by rw [hg];exact (Ia (by repeat (first|(with_reducible first|exact HB.out|apply ja|apply ga|apply oa|refine Ca ?_ Yb.out)|exact HB.out))):w.heap.size ≤ zb));have Sg:=ia.mk ((by rw [hg];exact (Ia (by repeat (first|(with_reducible first|exact HB.out|apply ja|apply ga|apply oa|refine Ca ?_ Yb.out)|exact HB.out))):w.heap.size ≤ zb));have Qh:=ia.mk ((by rw [hg];exact Nat.ne_of_lt (Zb (g:=Ua) (o:=.cells #[.int .i64 Kb,.int .i64 Mb] 43 (0,0)) (by (with_reducible repeat (first|refine Ja ?_ _|refine Oa ?_|refine Fa ?_ _));exact Va.out)):Ua ≠ zb));have Ph:=ia.mk ((by rw [hg];exact Nat.ne_of_gt (Zb (g:=Ua) (o:=.cells #[.int .i64 Kb,.int .i64 Mb] 43 (0,0)) (by (with_reducible repeat (first|refine Ja ?_ _|refine Oa ?_|refine Fa ?_ _));exact Va.out)):zb ≠ Ua));clear Va HB;have Va:=Eb;have HB:=Rb;have Pb:=Ac;have Dj:=Ld;have je:=Sg;have Dc:=Qh;have Cc:=Ph;clear Eb Rb Ac Ld Sg Qh Ph hb yc hg;have Lp:=Dc.out;have Jp:=Cc.out;have Tj:zi.cell? ⟨Ua,0,none⟩=some (.int .i64 Kb):=(Pa Va.out 0).trans rfl;have Sj:zi.cell? ⟨Ua,1,none⟩=some (.int .i64 Mb):=(Pa Va.out 1).trans rfl;have Qj:=Qa Va.out 0;have Pj:=Qa Va.out 1;have Jn:zi.cell? ⟨zb,0,none⟩=some (.int .i64 Xd):=(Pa Pb.out 0).trans rfl;have Gn:zi.cell? ⟨zb,1,none⟩=some (.int .i64 Wd):=(Pa Pb.out 1).trans rfl;have tn:=Qa Pb.out 0;have sn:=Qa Pb.out 1));go_ret;exact ⟨by first|rfl|(simp [Na,Ma] <;> rfl)|(simp [*,Na,Ma] <;> rfl),by repeat (first|(with_reducible first|exact HB.out|apply ja|apply ga|apply oa|refine Ca ?_ Yb.out|refine Ca ?_ je.out)|exact HB.out)⟩
 ·rw [if_neg c3] at H;have we:(Kb == Xd)=false:=beq_eq_false_iff_ne.mpr c3;have Hg:(Kb != Xd)=true:=bne_iff_ne.mpr c3;obtain rfl:=Option.some.inj H;go_enter Tryd.func20,Tryd.ntmps20;go_wp2_with (first|((with_reducible refine Ob (N:=2) rfl ?_);refine Qb ?hg (N:=2) ?hd (cs:=#[.int .i64 Kb,.int .i64 Mb]) (t:=43) ?hr ?_;(case hd=>rfl);(case hg=>rfl);(case hr=>first|(go_simp;done)|(go_simp;rfl));intro Ua hg Aq yc hb;have Eb:=ia.mk (Ka (by repeat (first|(with_reducible first|exact HB.out|apply ja|apply ga|apply oa)|exact HB.out)) hb);have Rb:=ia.mk (yc);have Ac:=ia.mk ((by rw [hg];exact (Ia (by repeat (first|(with_reducible first|exact HB.out|apply ja|apply ga|apply oa)|exact HB.out))):w.heap.size ≤ Ua));have Ld:=ia.mk ((by rw [hg];exact (Ia (by repeat (first|(with_reducible first|exact HB.out|apply ja|apply ga|apply oa)|exact HB.out))):w.heap.size ≤ Ua));clear HB;have HB:=Eb;have Va:=Rb;have Ej:=Ac;have Yb:=Ld;clear Eb Rb Ac Ld hb yc hg)|((with_reducible refine Ob (N:=3) rfl ?_);refine Qb ?hg (N:=3) ?hd (cs:=#[.int .i64 Xd,.int .i64 Wd]) (t:=43) ?hr ?_;(case hd=>rfl);(case hg=>rfl);(case hr=>first|(go_simp;done)|(go_simp;rfl));intro zb hg Fl yc hb;have Eb:=ia.mk (tc (g:=Ua) (o:=.cells #[.int .i64 Kb,.int .i64 Mb] 43 (0,0)) (by (with_reducible repeat (first|refine Ja ?_ _|refine Oa ?_|refine Fa ?_ _));exact Va.out) hb);have Rb:=ia.mk (Ka (by repeat (first|(with_reducible first|exact HB.out|apply ja|apply ga|apply oa|refine Ca ?_ Yb.out)|exact HB.out)) hb);have Ac:=ia.mk (yc);have Ld:=ia.mk ((by rw [hg];exact (Ia (by repeat (first|(with_reducible first|exact HB.out|apply ja|apply ga|apply oa|refine Ca ?_ Yb.out)|exact HB.out))):w.heap.size ≤ zb));have Sg:=ia.mk ((by rw [hg];exact (Ia (by repeat (first|(with_reducible first|exact HB.out|apply ja|apply ga|apply oa|refine Ca ?_ Yb.out)|exact HB.out))):w.heap.size ≤ zb));have Qh:=ia.mk ((by rw [hg];exact Nat.ne_of_lt (Zb (g:=Ua) (o:=.cells #[.int .i64 Kb,.int .i64 Mb] 43 (0,0)) (by (with_reducible repeat (first|refine Ja ?_ _|refine Oa ?_|refine Fa ?_ _));exact Va.out)):Ua ≠ zb));have Ph:=ia.mk ((by rw [hg];exact Nat.ne_of_gt (Zb (g:=Ua) (o:=.cells #[.int .i64 Kb,.int .i64 Mb] 43 (0,0)) (by (with_reducible repeat (first|refine Ja ?_ _|refine Oa ?_|refine Fa ?_ _));exact Va.out)):zb ≠ Ua));clear Va HB;have Va:=Eb;have HB:=Rb;have Pb:=Ac;have Dj:=Ld;have je:=Sg;have Dc:=Qh;have Cc:=Ph;clear Eb Rb Ac Ld Sg Qh Ph hb yc hg;have Kp:=Dc.out;have Ip:=Cc.out;have En:Fl.cell? ⟨Ua,0,none⟩=some (.int .i64 Kb):=(Pa Va.out 0).trans rfl;have Dn:Fl.cell? ⟨Ua,1,none⟩=some (.int .i64 Mb):=(Pa Va.out 1).trans rfl;have qn:=Qa Va.out 0;have pn:=Qa Va.out 1;have Cn:Fl.cell? ⟨zb,0,none⟩=some (.int .i64 Xd):=(Pa Pb.out 0).trans rfl;have Bn:Fl.cell? ⟨zb,1,none⟩=some (.int .i64 Wd):=(Pa Pb.out 1).trans rfl;have kn:=Qa Pb.out 0;have jn:=Qa Pb.out 1));go_ret;exact ⟨by first|rfl|(simp [Na,Ma] <;> rfl)|(simp [*,Na,Ma] <;> rfl),by repeat (first|(with_reducible first|exact HB.out|apply ja|apply ga|apply oa|refine Ca ?_ Yb.out|refine Ca ?_ je.out)|exact HB.out)⟩
def ya.l0:Nat→List (Yc)→List (Yc)→Int→Option (Bool)
 | 0,_,_,_=>none
 | k + 1,x0,x1,x5=>if x5 < (x0.length:Int) then (if 0 ≤ x5 then (if x5 < (x1.length:Int) then ((oc.f ((Ba x0 x5).f0) ((Ba x0 x5).f1) ((Ba x1 x5).f0) ((Ba x1 x5).f1)).bind fun t103=>(if t103=true then (ya.l0 k x0 x1 (wrap64 (x5 + 1))) else (some false))) else (none)) else (none)) else (some true)
def ya.f (k:Nat) (l0:List (Yc)) (l1:List (Yc)):Option (Bool):=if (l0.length:Int)=(l1.length:Int) then (ya.l0 k l0 l1 0) else (some false)
def ya.T6:Bool × List (List Nat × List Nat):=(true,[([],[]),([],[]),([0,1],[0,1]),([2],[2]),([],[]),([],[]),([4,5],[4,5]),([6],[6]),([3,7],[3,7]),([8],[8])])
def ya.B6:List Nat:=[0,0,3,7,0,0,48,112,255,511]
theorem ya.Jl:Xc .any (opsOf Tryd.f9 6)=ya.T6:=by kernel_rfl
theorem ya.wk:Qd ya.T6.2 ya.B6=true:=by kernel_rfl
theorem ya.calls (k:Nat) (A0:Option Addr) (c0:Nat) (l0:List (Yc)) (A1:Option Addr) (c1:Nat) (l1:List (Yc)) (r:Bool) (w:World) (Bg:Kd.C Tg w A0 l0.length l0) (hc0:l0.length ≤ c0) (hr1:Kd.C Tg w A1 l1.length l1) (hc1:l1.length ≤ c1) (h:ya.f k l0 l1=some r) :
  Calls Tryd.prog 9 #[.slice A0 l0.length c0,.slice A1 l1.length c1] w fun e w'=>e = .returned (.bool r)∧Below w.heap.size w w':=by
 have Nj:=Tryd.underlying43;have Yf:=ia.mk Bg;have Hj:=ia.mk hc0;clear Bg hc0;have sq:=ia.mk hr1;have Mr:=ia.mk hc1;clear hr1 hc1;have HB:=ia.mk (Below.refl w.heap.size w);have H:(if (l0.length:Int)=(l1.length:Int) then (ya.l0 k l0 l1 0) else (some false))=some r:=h;clear h
 by_cases c3:(l0.length:Int)=(l1.length:Int)
 ·rw [if_pos c3] at H;have we:((l0.length:Int) == (l1.length:Int))=true:=beq_iff_eq.mpr c3;have Hg:((l0.length:Int) != (l1.length:Int))=false:=bne_eq_false_iff_eq.mpr c3;have yl:(l0.length == l1.length)=true:=by first|simpa using c3|(simp at c3 ⊢;omega)
  clear c3;have H':=ia.mk H;clear H;go_enter Tryd.func9,Tryd.ntmps9;go_wp2
  go_loopg [5] k (fun kq v5 w'=>∃ (Za:Int),v5 = .int .i64 Za∧ia (ya.l0 kq l0 l1 Za=some r)∧ia (kq ≤ k)∧ia (Below w.heap.size w w'))
  case atStart=>exact ⟨(0),(by first|rfl|(simp;done)|(simp [*];done)),H',⟨Nat.le_refl _⟩,⟨by repeat (first|(with_reducible first|exact HB.out|apply ja|apply ga|apply oa)|exact HB.out)⟩⟩
  case round =>
   clear H'
   try clear c1
   try clear p2
   try clear c3
   try clear we
   try clear Hg
   try clear yl
   (try clear HA);(try clear Xf);(try clear HB);obtain ⟨Za,rfl,HA,Xf,HB⟩:=hrel;cases gk with
   | zero=>exact absurd HA.out (by simp [ya.l0])
   | succ k1 =>
    have H:=HA.out;clear HA;simp only [ya.l0] at H
    by_cases c4:Za < (l0.length:Int)
    ·rw [if_pos c4] at H;have Xg:decide (Za < (l0.length:Int))=true:=decide_eq_true c4;clear c4
     by_cases c5:0 ≤ Za
     ·rw [if_pos c5] at H;have vl:decide (0 ≤ Za)=true:=decide_eq_true c5;clear c5
      by_cases c6:Za < (l1.length:Int)
      ·rw [if_pos c6] at H;have Eh:decide (Za < (l1.length:Int))=true:=decide_eq_true c6;clear c6;replace H:=Option.bind_eq_some_iff.mp H;obtain ⟨t103,Fj,H⟩:=H;replace H:(if t103=true then (ya.l0 k1 l0 l1 (wrap64 (Za + 1))) else (some false))=some r:=H;have A7:=ia.mk Fj;clear Fj
       by_cases c8:t103=true
       ·subst c8;have H1:(ya.l0 k1 l0 l1 (wrap64 (Za + 1)))=some r:=by rw [if_pos rfl] at H;exact H
        clear H;have H:=H1;clear H1;have H':=ia.mk H;clear H
        try go_wp2
        have Eb:=ia.mk (oa HB.out);clear HB;have HB:=Eb;clear Eb;have Lf:0 ≤ (Za:Int):=of_decide_eq_true (by first|(with_reducible assumption)|assumption);have Hf:Za < (l0.length:Int):=of_decide_eq_true (by first|(with_reducible assumption)|assumption);obtain ⟨Nd,sj,Fc,Ec⟩:=Bc Yf.out Za Lf Hf;have He:=Ec;have Ie:=Fc;cases sj;replace Fc:=Ta HB.out Fc;replace Ec:=Ta HB.out Ec;replace Lf:=eq_true Lf;replace Hf:=eq_true Hf;have qh:0 ≤ (Za:Int):=of_decide_eq_true (by first|(with_reducible assumption)|assumption);have nh:Za < (l1.length:Int):=of_decide_eq_true (by first|(with_reducible assumption)|assumption);obtain ⟨Vf,gl,Rc,Qc⟩:=Bc sq.out Za qh nh;have Fe:=Qc;have Ge:=Rc;cases gl;replace Rc:=Ta HB.out Rc;replace Qc:=Ta HB.out Qc;replace qh:=eq_true qh;replace nh:=eq_true nh;refine dh (n:=10) (S:=fun w'=>w'.cell? (Nd.add ((Za).toNat * 2))=some (.int .i64 ((Ba l0 Za).f0))∧w'.cell? ⟨(Nd.add ((Za).toNat * 2)).block,(Nd.add ((Za).toNat * 2)).off + 1,none⟩=some (.int .i64 ((Ba l0 Za).f1))∧w'.cell? (Vf.add ((Za).toNat * 2))=some (.int .i64 ((Ba l1 Za).f0))∧w'.cell? ⟨(Vf.add ((Za).toNat * 2)).block,(Vf.add ((Za).toNat * 2)).off + 1,none⟩=some (.int .i64 ((Ba l1 Za).f1))) (ds:=[]) #[false,false,false,false,false,false,false,false,false,false] (by kernel_rfl) rfl rfl ⟨(Ta HB.out Ie),(Ta HB.out He),(Ta HB.out Ge),(Ta HB.out Fe)⟩ (fun hHeld=>?_);refine Me ya.Jl ya.wk (fun Jd Ak=>?_);generalize wr.drew=w9 at HB Fc Ec Rc Qc hHeld ⊢;refine nc (i:=0) (N:=some 17) (v:=?_) (a':=?_) #[true,false,false,false,false,false,false,false,false,false] rfl rfl (Jb Jd.out (by kernel_rfl)) (fun _ _ _ h=>h) (Or.inl ⟨by rfl,?_⟩) ?_ ?_;rotate_left
        ·intro w';go_simp;with_reducible rfl
        rotate_left
        ·simp only [Act.put,List.setIfInBounds_toArray,List.set_cons_zero,List.set_cons_succ,yb,Bb]
         rfl
        refine nc (i:=1) (N:=some 18) (v:=?_) (a':=?_) #[true,true,false,false,false,false,false,false,false,false] rfl rfl (Jb Jd.out (by kernel_rfl)) (fun _ _ _ h=>h) (Or.inl ⟨by rfl,?_⟩) ?_ ?_;rotate_left
        ·intro w';go_simp;with_reducible rfl
        rotate_left
        ·simp only [Act.put,List.setIfInBounds_toArray,List.set_cons_zero,List.set_cons_succ,yb,Bb]
         rfl
        refine nc (i:=2) (N:=some 19) (v:=?_) (a':=?_) #[true,true,true,false,false,false,false,false,false,false] rfl rfl (Jb Jd.out (by kernel_rfl)) (fun _ _ _ h=>h) (Or.inl ⟨by rfl,?_⟩) ?_ ?_;rotate_left
        ·intro w';go_simp;with_reducible rfl
        rotate_left
        ·simp only [Act.put,List.setIfInBounds_toArray,List.set_cons_zero,List.set_cons_succ,yb,Bb]
         rfl
        refine nc (i:=4) (N:=some 21) (v:=?_) (a':=?_) #[true,true,true,false,true,false,false,false,false,false] rfl rfl (Jb Jd.out (by kernel_rfl)) (fun _ _ _ h=>h) (Or.inl ⟨by rfl,?_⟩) ?_ ?_;rotate_left
        ·intro w';go_simp;with_reducible rfl
        rotate_left
        ·simp only [Act.put,List.setIfInBounds_toArray,List.set_cons_zero,List.set_cons_succ,yb,Bb]
         rfl
        refine nc (i:=5) (N:=some 22) (v:=?_) (a':=?_) #[true,true,true,false,true,true,false,false,false,false] rfl rfl (Jb Jd.out (by kernel_rfl)) (fun _ _ _ h=>h) (Or.inl ⟨by rfl,?_⟩) ?_ ?_;rotate_left
        ·intro w';go_simp;with_reducible rfl
        rotate_left
        ·simp only [Act.put,List.setIfInBounds_toArray,List.set_cons_zero,List.set_cons_succ,yb,Bb]
         rfl
        refine nc (i:=6) (N:=some 23) (v:=?_) (a':=?_) #[true,true,true,false,true,true,true,false,false,false] rfl rfl (Jb Jd.out (by kernel_rfl)) (fun _ _ _ h=>h) (Or.inl ⟨by rfl,?_⟩) ?_ ?_;rotate_left
        ·intro w';go_simp;with_reducible rfl
        rotate_left
        ·simp only [Act.put,List.setIfInBounds_toArray,List.set_cons_zero,List.set_cons_succ,yb,Bb]
         rfl
        refine Ze (i:=3) (N:=some 20) (v:=?_) (a':=?_) #[true,true,true,true,true,true,true,false,false,false] rfl rfl (Ad Jd.out Ak.out (by kernel_rfl)) (fun _ _ _ h=>h) (Or.inl ⟨by rfl,?_⟩) hHeld ?_ ?_;rotate_left
        ·rintro w' ⟨s0,s1,s2,s3⟩;go_simp;with_reducible rfl
        rotate_left
        ·simp only [Act.put,List.setIfInBounds_toArray,List.set_cons_zero,List.set_cons_succ,yb,Bb]
         rfl
        refine Ze (i:=7) (N:=some 24) (v:=?_) (a':=?_) #[true,true,true,true,true,true,true,true,false,false] rfl rfl (Ad Jd.out Ak.out (by kernel_rfl)) (fun _ _ _ h=>h) (Or.inl ⟨by rfl,?_⟩) hHeld ?_ ?_;rotate_left
        ·rintro w' ⟨s0,s1,s2,s3⟩;go_simp;with_reducible rfl
        rotate_left
        ·simp only [Act.put,List.setIfInBounds_toArray,List.set_cons_zero,List.set_cons_succ,yb,Bb]
         rfl
        refine Di (i:=8) (N:=some 25) #[true,true,true,true,true,true,true,true,true,false] rfl rfl (Qe Jd.out (by kernel_rfl)) (by decide) (fun K hK=>?_);refine di Tryd.func20 (by kernel_rfl) rfl #[.agg #[.int .i64 ((Ba l0 Za).f0),.int .i64 ((Ba l0 Za).f1)],.agg #[.int .i64 ((Ba l1 Za).f0),.int .i64 ((Ba l1 Za).f1)]] (by rfl) rfl rfl (by (try simp only [List.map_toArray,List.map_cons,List.map_nil]);first|done|rfl|(simp only [List.length_drop,List.length_take];rfl)) ?_;with_reducible refine (oc.calls ((Ba l0 Za).f0) ((Ba l0 Za).f1) ((Ba l1 Za).f0) ((Ba l1 Za).f1) true _ A7.out).mono ?_
        rintro e Bq ⟨rfl,hb⟩;refine ⟨_,rfl,?_⟩;have Eb:=ia.mk (Ka (by repeat (first|(with_reducible first|exact HB.out|apply ja|apply ga|apply oa)|exact HB.out)) hb);clear HB;have HB:=Eb;clear Eb;(try clear hb);(try clear hb2);(try clear hk);(try clear hi);refine hK.out _ _ ⟨(Ta HB.out Ie),(Ta HB.out He),(Ta HB.out Ge),(Ta HB.out Fe)⟩ (fun hHeld=>?_);clear hK K;refine kg (a':=?_) ?_ ?_;rotate_left
        ·show Act.put _ (some 25) _=_
         simp only [Act.put,List.setIfInBounds_toArray,List.set_cons_zero,List.set_cons_succ,yb,Bb]
         rfl
        refine nc (i:=9) (N:=some 26) (v:=?_) (a':=?_) #[true,true,true,true,true,true,true,true,true,true] rfl rfl (Jb Jd.out (by kernel_rfl)) (fun _ _ _ h=>h) (Or.inl ⟨by rfl,?_⟩) ?_ ?_;rotate_left
        ·intro w';go_simp;with_reducible rfl
        rotate_left
        ·simp only [Act.put,List.setIfInBounds_toArray,List.set_cons_zero,List.set_cons_succ,yb,Bb]
         rfl
        refine tj (Dg Jd.out (by kernel_rfl)) ?_
        try go_wp2
        go_roundg k1
        case measure=>have:=Xf.out;omega
        case rel=>exact ⟨(wrap64 (Za + 1)),(by first|rfl|(simp;done)|(simp [*];done)),H',⟨by have:=Xf.out;omega⟩,⟨by repeat (first|(with_reducible first|exact HB.out|apply ja|apply ga|apply oa)|exact HB.out)⟩⟩
       ·replace c8:=Bool.eq_false_iff.mpr c8;subst c8;have H1:(some false)=some r:=by rw [if_neg (show ¬ (false=true) by decide)] at H;exact H
        clear H;have H:=H1;clear H1;obtain rfl:=Option.some.inj H
        try go_wp2
        have Eb:=ia.mk (oa HB.out);clear HB;have HB:=Eb;clear Eb;have Lf:0 ≤ (Za:Int):=of_decide_eq_true (by first|(with_reducible assumption)|assumption);have Hf:Za < (l0.length:Int):=of_decide_eq_true (by first|(with_reducible assumption)|assumption);obtain ⟨Nd,sj,Fc,Ec⟩:=Bc Yf.out Za Lf Hf;have He:=Ec;have Ie:=Fc;cases sj;replace Fc:=Ta HB.out Fc;replace Ec:=Ta HB.out Ec;replace Lf:=eq_true Lf;replace Hf:=eq_true Hf;have qh:0 ≤ (Za:Int):=of_decide_eq_true (by first|(with_reducible assumption)|assumption);have nh:Za < (l1.length:Int):=of_decide_eq_true (by first|(with_reducible assumption)|assumption);obtain ⟨Vf,gl,Rc,Qc⟩:=Bc sq.out Za qh nh;have Fe:=Qc;have Ge:=Rc;cases gl;replace Rc:=Ta HB.out Rc;replace Qc:=Ta HB.out Qc;replace qh:=eq_true qh;replace nh:=eq_true nh;refine dh (n:=10) (S:=fun w'=>w'.cell? (Nd.add ((Za).toNat * 2))=some (.int .i64 ((Ba l0 Za).f0))∧w'.cell? ⟨(Nd.add ((Za).toNat * 2)).block,(Nd.add ((Za).toNat * 2)).off + 1,none⟩=some (.int .i64 ((Ba l0 Za).f1))∧w'.cell? (Vf.add ((Za).toNat * 2))=some (.int .i64 ((Ba l1 Za).f0))∧w'.cell? ⟨(Vf.add ((Za).toNat * 2)).block,(Vf.add ((Za).toNat * 2)).off + 1,none⟩=some (.int .i64 ((Ba l1 Za).f1))) (ds:=[]) #[false,false,false,false,false,false,false,false,false,false] (by kernel_rfl) rfl rfl ⟨(Ta HB.out Ie),(Ta HB.out He),(Ta HB.out Ge),(Ta HB.out Fe)⟩ (fun hHeld=>?_);refine Me ya.Jl ya.wk (fun Jd Ak=>?_);generalize wr.drew=zi at HB Fc Ec Rc Qc hHeld ⊢;refine nc (i:=0) (N:=some 17) (v:=?_) (a':=?_) #[true,false,false,false,false,false,false,false,false,false] rfl rfl (Jb Jd.out (by kernel_rfl)) (fun _ _ _ h=>h) (Or.inl ⟨by rfl,?_⟩) ?_ ?_;rotate_left
        ·intro w';go_simp;with_reducible rfl
        rotate_left
        ·simp only [Act.put,List.setIfInBounds_toArray,List.set_cons_zero,List.set_cons_succ,yb,Bb]
         rfl
        refine nc (i:=1) (N:=some 18) (v:=?_) (a':=?_) #[true,true,false,false,false,false,false,false,false,false] rfl rfl (Jb Jd.out (by kernel_rfl)) (fun _ _ _ h=>h) (Or.inl ⟨by rfl,?_⟩) ?_ ?_;rotate_left
        ·intro w';go_simp;with_reducible rfl
        rotate_left
        ·simp only [Act.put,List.setIfInBounds_toArray,List.set_cons_zero,List.set_cons_succ,yb,Bb]
         rfl
        refine nc (i:=2) (N:=some 19) (v:=?_) (a':=?_) #[true,true,true,false,false,false,false,false,false,false] rfl rfl (Jb Jd.out (by kernel_rfl)) (fun _ _ _ h=>h) (Or.inl ⟨by rfl,?_⟩) ?_ ?_;rotate_left
        ·intro w';go_simp;with_reducible rfl
        rotate_left
        ·simp only [Act.put,List.setIfInBounds_toArray,List.set_cons_zero,List.set_cons_succ,yb,Bb]
         rfl
        refine nc (i:=4) (N:=some 21) (v:=?_) (a':=?_) #[true,true,true,false,true,false,false,false,false,false] rfl rfl (Jb Jd.out (by kernel_rfl)) (fun _ _ _ h=>h) (Or.inl ⟨by rfl,?_⟩) ?_ ?_;rotate_left
        ·intro w';go_simp;with_reducible rfl
        rotate_left
        ·simp only [Act.put,List.setIfInBounds_toArray,List.set_cons_zero,List.set_cons_succ,yb,Bb]
         rfl
        refine nc (i:=5) (N:=some 22) (v:=?_) (a':=?_) #[true,true,true,false,true,true,false,false,false,false] rfl rfl (Jb Jd.out (by kernel_rfl)) (fun _ _ _ h=>h) (Or.inl ⟨by rfl,?_⟩) ?_ ?_;rotate_left
        ·intro w';go_simp;with_reducible rfl
        rotate_left
        ·simp only [Act.put,List.setIfInBounds_toArray,List.set_cons_zero,List.set_cons_succ,yb,Bb]
         rfl
        refine nc (i:=6) (N:=some 23) (v:=?_) (a':=?_) #[true,true,true,false,true,true,true,false,false,false] rfl rfl (Jb Jd.out (by kernel_rfl)) (fun _ _ _ h=>h) (Or.inl ⟨by rfl,?_⟩) ?_ ?_;rotate_left
        ·intro w';go_simp;with_reducible rfl
        rotate_left
        ·simp only [Act.put,List.setIfInBounds_toArray,List.set_cons_zero,List.set_cons_succ,yb,Bb]
         rfl
        refine Ze (i:=3) (N:=some 20) (v:=?_) (a':=?_) #[true,true,true,true,true,true,true,false,false,false] rfl rfl (Ad Jd.out Ak.out (by kernel_rfl)) (fun _ _ _ h=>h) (Or.inl ⟨by rfl,?_⟩) hHeld ?_ ?_;rotate_left
        ·rintro w' ⟨s0,s1,s2,s3⟩;go_simp;with_reducible rfl
        rotate_left
        ·simp only [Act.put,List.setIfInBounds_toArray,List.set_cons_zero,List.set_cons_succ,yb,Bb]
         rfl
        refine Ze (i:=7) (N:=some 24) (v:=?_) (a':=?_) #[true,true,true,true,true,true,true,true,false,false] rfl rfl (Ad Jd.out Ak.out (by kernel_rfl)) (fun _ _ _ h=>h) (Or.inl ⟨by rfl,?_⟩) hHeld ?_ ?_;rotate_left
        ·rintro w' ⟨s0,s1,s2,s3⟩;go_simp;with_reducible rfl
        rotate_left
        ·simp only [Act.put,List.setIfInBounds_toArray,List.set_cons_zero,List.set_cons_succ,yb,Bb]
         rfl
        refine Di (i:=8) (N:=some 25) #[true,true,true,true,true,true,true,true,true,false] rfl rfl (Qe Jd.out (by kernel_rfl)) (by decide) (fun K hK=>?_);refine di Tryd.func20 (by kernel_rfl) rfl #[.agg #[.int .i64 ((Ba l0 Za).f0),.int .i64 ((Ba l0 Za).f1)],.agg #[.int .i64 ((Ba l1 Za).f0),.int .i64 ((Ba l1 Za).f1)]] (by rfl) rfl rfl (by (try simp only [List.map_toArray,List.map_cons,List.map_nil]);first|done|rfl|(simp only [List.length_drop,List.length_take];rfl)) ?_;with_reducible refine (oc.calls ((Ba l0 Za).f0) ((Ba l0 Za).f1) ((Ba l1 Za).f0) ((Ba l1 Za).f1) false _ A7.out).mono ?_
        rintro e ak ⟨rfl,hb⟩;refine ⟨_,rfl,?_⟩;have Eb:=ia.mk (Ka (by repeat (first|(with_reducible first|exact HB.out|apply ja|apply ga|apply oa)|exact HB.out)) hb);clear HB;have HB:=Eb;clear Eb;(try clear hb);(try clear hb2);(try clear hk);(try clear hi);refine hK.out _ _ ⟨(Ta HB.out Ie),(Ta HB.out He),(Ta HB.out Ge),(Ta HB.out Fe)⟩ (fun hHeld=>?_);clear hK K;refine kg (a':=?_) ?_ ?_;rotate_left
        ·show Act.put _ (some 25) _=_
         simp only [Act.put,List.setIfInBounds_toArray,List.set_cons_zero,List.set_cons_succ,yb,Bb]
         rfl
        refine nc (i:=9) (N:=some 26) (v:=?_) (a':=?_) #[true,true,true,true,true,true,true,true,true,true] rfl rfl (Jb Jd.out (by kernel_rfl)) (fun _ _ _ h=>h) (Or.inl ⟨by rfl,?_⟩) ?_ ?_;rotate_left
        ·intro w';go_simp;with_reducible rfl
        rotate_left
        ·simp only [Act.put,List.setIfInBounds_toArray,List.set_cons_zero,List.set_cons_succ,yb,Bb]
         rfl
        refine tj (Dg Jd.out (by kernel_rfl)) ?_
        try go_wp2
        go_ret;exact ⟨by first|rfl|(simp [Na,Ma] <;> rfl)|(simp [*,Na,Ma] <;> rfl),by repeat (first|(with_reducible first|exact HB.out|apply ja|apply ga|apply oa)|exact HB.out)⟩
      ·rw [if_neg c6] at H;exact absurd H (by simp)
     ·rw [if_neg c5] at H;exact absurd H (by simp)
    ·rw [if_neg c4] at H;have Xg:decide (Za < (l0.length:Int))=false:=decide_eq_false c4;clear c4;obtain rfl:=Option.some.inj H;go_wp2;go_ret;exact ⟨by first|rfl|(simp [Na,Ma] <;> rfl)|(simp [*,Na,Ma] <;> rfl),by repeat (first|(with_reducible first|exact HB.out|apply ja|apply ga|apply oa)|exact HB.out)⟩
 ·rw [if_neg c3] at H;have we:((l0.length:Int) == (l1.length:Int))=false:=beq_eq_false_iff_ne.mpr c3;have Hg:((l0.length:Int) != (l1.length:Int))=true:=bne_iff_ne.mpr c3;have yl:(l0.length == l1.length)=false:=by first|simpa using c3|(simp at c3 ⊢;omega)
  obtain rfl:=Option.some.inj H;go_enter Tryd.func9,Tryd.ntmps9;go_wp2;go_ret;exact ⟨by first|rfl|(simp [Na,Ma] <;> rfl)|(simp [*,Na,Ma] <;> rfl),by repeat (first|(with_reducible first|exact HB.out|apply ja|apply ga|apply oa)|exact HB.out)⟩
def Wa.f (k:Nat) (l0:List (Lg)):Option (Bool):=(jb.f l0 1048576).bind fun t101=>(if t101 < 0 then (some true) else ((za.f k l0).bind fun t102=>((Da.f k t102).bind fun t105=>((za.f k l0).bind fun t106=>((ua.f k t106).bind fun t109=>(if t109.toList=t105.toList then ((za.f k l0).bind fun t110=>((ya.f k t106 t110).bind fun t113=>(if t113=true then (some true) else (none)))) else (none)))))))
theorem Wa.calls (k:Nat) (A0:Option Addr) (c0:Nat) (l0:List (Lg)) (r:Bool) (w:World) (Bg:Kd.C Mk w A0 l0.length l0) (hc0:l0.length ≤ c0) (h:Wa.f k l0=some r) (htab:We w:=by exact We.stays Qi.out (by repeat (first|(with_reducible first|exact HB.out|apply ja|apply ga|apply oa|refine Ca ?_ (ia.out (by assumption)))|exact HB.out)) (Nat.le_refl _)) :
  Calls Tryd.prog 3 #[.slice A0 l0.length c0] w fun e w'=>e = .returned (.bool r)∧Below w.heap.size w w':=by
 have Yf:=ia.mk Bg;have Hj:=ia.mk hc0;clear Bg hc0;have Qi:=ia.mk htab;clear htab;have HB:=ia.mk (Below.refl w.heap.size w);have H:((jb.f l0 1048576).bind fun t101=>(if t101 < 0 then (some true) else ((za.f k l0).bind fun t102=>((Da.f k t102).bind fun t105=>((za.f k l0).bind fun t106=>((ua.f k t106).bind fun t109=>(if t109.toList=t105.toList then ((za.f k l0).bind fun t110=>((ya.f k t106 t110).bind fun t113=>(if t113=true then (some true) else (none)))) else (none))))))))=some r:=h;clear h;replace H:=Option.bind_eq_some_iff.mp H;obtain ⟨t101,Ym,H⟩:=H;replace H:(if t101 < 0 then (some true) else ((za.f k l0).bind fun t102=>((Da.f k t102).bind fun t105=>((za.f k l0).bind fun t106=>((ua.f k t106).bind fun t109=>(if t109.toList=t105.toList then ((za.f k l0).bind fun t110=>((ya.f k t106 t110).bind fun t113=>(if t113=true then (some true) else (none)))) else (none)))))))=some r:=H;have A2:=ia.mk Ym;clear Ym
 by_cases c3:t101 < 0
 ·rw [if_pos c3] at H;have we:decide (t101 < 0)=true:=decide_eq_true c3;clear c3;obtain rfl:=Option.some.inj H;go_enter Tryd.func3,Tryd.ntmps3;go_wp2_with (first|((with_reducible refine qb (f:=5) rfl ?_);refine Uc (some 9) rfl rfl Tryd.func5 (by kernel_rfl) rfl #[.slice A0 l0.length c0,.int .i64 1048576] rfl (by (try simp only [List.map_toArray,List.map_cons,List.map_nil]);first|done|rfl|(simp only [List.length_drop,List.length_take];rfl)) ?_;(with_reducible refine (jb.calls _ _ l0 1048576 t101 _ ?Lc ?Jc A2.out).mono ?_);(case Lc=>repeat (first|exact Yf.out|(with_reducible refine Kd.Ic ?_ _)|(with_reducible refine Kd.Gc ?_ _)|(with_reducible refine Kd.yd ?_)));(case Jc=>exact Hj.out);rintro e w' ⟨rfl,⟨nd,rfl⟩⟩;refine ⟨_,rfl,?_⟩));go_ret;exact ⟨by first|rfl|(simp [Na,Ma] <;> rfl)|(simp [*,Na,Ma] <;> rfl),by repeat (first|(with_reducible first|exact HB.out|apply ja|apply ga|apply oa)|exact HB.out)⟩
 ·rw [if_neg c3] at H;have we:decide (t101 < 0)=false:=decide_eq_false c3;clear c3;replace H:=Option.bind_eq_some_iff.mp H;obtain ⟨t102,yq,H⟩:=H;replace H:((Da.f k t102).bind fun t105=>((za.f k l0).bind fun t106=>((ua.f k t106).bind fun t109=>(if t109.toList=t105.toList then ((za.f k l0).bind fun t110=>((ya.f k t106 t110).bind fun t113=>(if t113=true then (some true) else (none)))) else (none)))))=some r:=H;have A4:=ia.mk yq;clear yq;replace H:=Option.bind_eq_some_iff.mp H;obtain ⟨t105,xq,H⟩:=H;replace H:((za.f k l0).bind fun t106=>((ua.f k t106).bind fun t109=>(if t109.toList=t105.toList then ((za.f k l0).bind fun t110=>((ya.f k t106 t110).bind fun t113=>(if t113=true then (some true) else (none)))) else (none))))=some r:=H;have A5:=ia.mk xq;clear xq;replace H:=Option.bind_eq_some_iff.mp H;obtain ⟨t106,wq,H⟩:=H;replace H:((ua.f k t106).bind fun t109=>(if t109.toList=t105.toList then ((za.f k l0).bind fun t110=>((ya.f k t106 t110).bind fun t113=>(if t113=true then (some true) else (none)))) else (none)))=some r:=H;have A6:=ia.mk wq;clear wq;replace H:=Option.bind_eq_some_iff.mp H;obtain ⟨t109,Fj,H⟩:=H;replace H:(if t109.toList=t105.toList then ((za.f k l0).bind fun t110=>((ya.f k t106 t110).bind fun t113=>(if t113=true then (some true) else (none)))) else (none))=some r:=H;have A7:=ia.mk Fj;clear Fj
  by_cases c8:t109.toList=t105.toList
  ·rw [if_pos c8] at H;have ql:(t109.toList == t105.toList)=true:=beq_iff_eq.mpr c8;have jl:(t109.toList != t105.toList)=false:=bne_eq_false_iff_eq.mpr c8;clear c8;replace H:=Option.bind_eq_some_iff.mp H;obtain ⟨t110,Wm,H⟩:=H;replace H:((ya.f k t106 t110).bind fun t113=>(if t113=true then (some true) else (none)))=some r:=H;have A9:=ia.mk Wm;clear Wm;replace H:=Option.bind_eq_some_iff.mp H;obtain ⟨t113,Gj,H⟩:=H;replace H:(if t113=true then (some true) else (none))=some r:=H;have cn:=ia.mk Gj;clear Gj
   by_cases c11:t113=true
   ·subst c11;have H1:(some true)=some r:=by rw [if_pos rfl] at H;exact H
    clear H;have H:=H1;clear H1;obtain rfl:=Option.some.inj H;go_enter Tryd.func3,Tryd.ntmps3;go_wp2_with (first|((with_reducible refine qb (f:=5) rfl ?_);refine Uc (some 9) rfl rfl Tryd.func5 (by kernel_rfl) rfl #[.slice A0 l0.length c0,.int .i64 1048576] rfl (by (try simp only [List.map_toArray,List.map_cons,List.map_nil]);first|done|rfl|(simp only [List.length_drop,List.length_take];rfl)) ?_;(with_reducible refine (jb.calls _ _ l0 1048576 t101 _ ?Lc ?Jc A2.out).mono ?_);(case Lc=>repeat (first|exact Yf.out|(with_reducible refine Kd.Ic ?_ _)|(with_reducible refine Kd.Gc ?_ _)|(with_reducible refine Kd.yd ?_)));(case Jc=>exact Hj.out);rintro e w' ⟨rfl,⟨nd,rfl⟩⟩;refine ⟨_,rfl,?_⟩)|((with_reducible refine qb (f:=7) rfl ?_);refine Uc (some 13) rfl rfl Tryd.func7 (by kernel_rfl) rfl #[.slice A0 l0.length c0] rfl (by (try simp only [List.map_toArray,List.map_cons,List.map_nil]);first|done|rfl|(simp only [List.length_drop,List.length_take];rfl)) ?_;(with_reducible refine (za.calls k _ _ l0 t102 _ ?Lc ?Jc A4.out).mono ?_);(case Lc=>repeat (first|exact Yf.out|(with_reducible refine Kd.Ic ?_ _)|(with_reducible refine Kd.Gc ?_ _)|(with_reducible refine Kd.yd ?_)));(case Jc=>exact Hj.out);rintro e ak ⟨Dq,rfl,aj,hb⟩;refine ⟨_,rfl,?_⟩;have Eb:=ia.mk (Kd.Ud aj (Ia (by repeat (first|(with_reducible first|exact HB.out|apply ja|apply ga|apply oa)|exact HB.out))));have Rb:=ia.mk (Ka (by repeat (first|(with_reducible first|exact HB.out|apply ja|apply ga|apply oa)|exact HB.out)) hb);clear HB;have Nc:=Eb;have HB:=Rb;clear Eb Rb;(try clear hb);(try clear hb2);(try clear hk);(try clear hi);(try clear aj);obtain ⟨lp,Ro,Mo⟩:=Kd.Ke Nc.out;subst Mo)|((with_reducible refine qb (f:=6) rfl ?_);refine Uc (some 14) rfl rfl Tryd.func6 (by kernel_rfl) rfl #[.slice lp t102.length Ro] rfl (by (try simp only [List.map_toArray,List.map_cons,List.map_nil]);first|done|rfl|(simp only [List.length_drop,List.length_take];rfl)) ?_;(with_reducible refine (Da.calls k _ _ t102 t105 _ ?Lc ?Jc A5.out).mono ?_);(case Lc=>repeat (first|exact (Kd.Fb Nc.out).2.2|(with_reducible refine Kd.Ic ?_ _)|(with_reducible refine Kd.Gc ?_ _)|(with_reducible refine Kd.yd ?_)));(case Jc=>exact (Kd.Fb Nc.out).2.1);rintro e w' ⟨rfl,⟨nd,rfl⟩⟩;refine ⟨_,rfl,?_⟩)|((with_reducible refine qb (f:=7) rfl ?_);refine Uc (some 16) rfl rfl Tryd.func7 (by kernel_rfl) rfl #[.slice A0 l0.length c0] rfl (by (try simp only [List.map_toArray,List.map_cons,List.map_nil]);first|done|rfl|(simp only [List.length_drop,List.length_take];rfl)) ?_;(with_reducible refine (za.calls k _ _ l0 t106 _ ?Lc ?Jc A6.out).mono ?_);(case Lc=>repeat (first|exact (Kd.Vd Yf.out (by repeat (first|(with_reducible first|exact HB.out|apply ja|apply ga|apply oa)|exact HB.out)))|(with_reducible refine Kd.Ic ?_ _)|(with_reducible refine Kd.Gc ?_ _)|(with_reducible refine Kd.yd ?_)));(case Jc=>exact Hj.out);rintro e yp ⟨v107,rfl,aj,hb⟩;refine ⟨_,rfl,?_⟩;have Eb:=ia.mk (Kd.Wf (by (with_reducible repeat (first|apply Kd.Ya|apply Kd.Xa|apply Kd.xb));exact Nc.out) (Kd.Ih aj) hb);have Rb:=ia.mk (Kd.Ud (Kd.Gh aj (Kd.Bl (by (with_reducible repeat (first|apply Kd.Ya|apply Kd.Xa|apply Kd.xb));exact Nc.out))) (Ia (by repeat (first|(with_reducible first|exact HB.out|apply ja|apply ga|apply oa)|exact HB.out))));have Ac:=ia.mk (Ka (by repeat (first|(with_reducible first|exact HB.out|apply ja|apply ga|apply oa)|exact HB.out)) hb);clear Nc HB;have Nc:=Eb;have Wc:=Rb;have HB:=Ac;clear Eb Rb Ac;(try clear hb);(try clear hb2);(try clear hk);(try clear hi);(try clear aj);obtain ⟨Vm,gm,Lo⟩:=Kd.Ke Wc.out;subst Lo)|((with_reducible refine qb (f:=8) rfl ?_);refine Uc (some 18) rfl rfl Tryd.func8 (by kernel_rfl) rfl #[.slice Vm t106.length gm] rfl (by (try simp only [List.map_toArray,List.map_cons,List.map_nil]);first|done|rfl|(simp only [List.length_drop,List.length_take];rfl)) ?_;(with_reducible refine (ua.calls k _ _ t106 t109 _ ?Lc ?Jc A7.out).mono ?_);(case Lc=>repeat (first|exact (Kd.Fb Wc.out).2.2|(with_reducible refine Kd.Ic ?_ _)|(with_reducible refine Kd.Gc ?_ _)|(with_reducible refine Kd.yd ?_)));(case Jc=>exact (Kd.Fb Wc.out).2.1);rintro e Fl ⟨rfl,hb⟩;refine ⟨_,rfl,?_⟩;have Eb:=ia.mk (Kd.Xb (by (with_reducible repeat (first|apply Kd.Ya|apply Kd.Xa|apply Kd.xb));exact Nc.out) hb);have Rb:=ia.mk (Kd.Xb (by (with_reducible repeat (first|apply Kd.Ya|apply Kd.Xa|apply Kd.xb));exact Wc.out) hb);have Ac:=ia.mk (Ka (by repeat (first|(with_reducible first|exact HB.out|apply ja|apply ga|apply oa)|exact HB.out)) hb);clear Nc Wc HB;have Nc:=Eb;have Wc:=Rb;have HB:=Ac;clear Eb Rb Ac;(try clear hb);(try clear hb2);(try clear hk);(try clear hi))|((with_reducible refine qb (f:=7) rfl ?_);refine Uc (some 24) rfl rfl Tryd.func7 (by kernel_rfl) rfl #[.slice A0 l0.length c0] rfl (by (try simp only [List.map_toArray,List.map_cons,List.map_nil]);first|done|rfl|(simp only [List.length_drop,List.length_take];rfl)) ?_;(with_reducible refine (za.calls k _ _ l0 t110 _ ?Lc ?Jc A9.out).mono ?_);(case Lc=>repeat (first|exact (Kd.Vd Yf.out HB.out)|(with_reducible refine Kd.Ic ?_ _)|(with_reducible refine Kd.Gc ?_ _)|(with_reducible refine Kd.yd ?_)));(case Jc=>exact Hj.out);rintro e zq ⟨Cq,rfl,aj,hb⟩;refine ⟨_,rfl,?_⟩;have Eb:=ia.mk (Kd.Wf (by (with_reducible repeat (first|apply Kd.Ya|apply Kd.Xa|apply Kd.xb));exact Nc.out) (Kd.Ih aj) hb);have Rb:=ia.mk (Kd.Wf (by (with_reducible repeat (first|apply Kd.Ya|apply Kd.Xa|apply Kd.xb));exact Wc.out) (Kd.Ih aj) hb);have Ac:=ia.mk (Kd.Ud (Kd.Gh (Kd.Gh aj (Kd.Bl (by (with_reducible repeat (first|apply Kd.Ya|apply Kd.Xa|apply Kd.xb));exact Nc.out))) (Kd.Bl (by (with_reducible repeat (first|apply Kd.Ya|apply Kd.Xa|apply Kd.xb));exact Wc.out))) (Ia (by repeat (first|(with_reducible first|exact HB.out|apply ja|apply ga|apply oa)|exact HB.out))));have Ld:=ia.mk (Ka (by repeat (first|(with_reducible first|exact HB.out|apply ja|apply ga|apply oa)|exact HB.out)) hb);clear Nc Wc HB;have Nc:=Eb;have Wc:=Rb;have tg:=Ac;have HB:=Ld;clear Eb Rb Ac Ld;(try clear hb);(try clear hb2);(try clear hk);(try clear hi);(try clear aj);obtain ⟨gp,Qo,Ko⟩:=Kd.Ke tg.out;subst Ko)|((with_reducible refine qb (f:=9) rfl ?_);refine Uc (some 25) rfl rfl Tryd.func9 (by kernel_rfl) rfl #[.slice Vm t106.length gm,.slice gp t110.length Qo] rfl (by (try simp only [List.map_toArray,List.map_cons,List.map_nil]);first|done|rfl|(simp only [List.length_drop,List.length_take];rfl)) ?_;(with_reducible refine (ya.calls k _ _ t106 _ _ t110 true _ ?Lc ?Jc ?Ll ?Kl cn.out).mono ?_);(case Lc=>repeat (first|exact (Kd.Fb Wc.out).2.2|(with_reducible refine Kd.Ic ?_ _)|(with_reducible refine Kd.Gc ?_ _)|(with_reducible refine Kd.yd ?_)));(case Jc=>exact (Kd.Fb Wc.out).2.1);(case Ll=>repeat (first|exact (Kd.Fb tg.out).2.2|(with_reducible refine Kd.Ic ?_ _)|(with_reducible refine Kd.Gc ?_ _)|(with_reducible refine Kd.yd ?_)));(case Kl=>exact (Kd.Fb tg.out).2.1);rintro e Dr ⟨rfl,hb⟩;refine ⟨_,rfl,?_⟩;have Eb:=ia.mk (Kd.Xb (by (with_reducible repeat (first|apply Kd.Ya|apply Kd.Xa|apply Kd.xb));exact Nc.out) hb);have Rb:=ia.mk (Kd.Xb (by (with_reducible repeat (first|apply Kd.Ya|apply Kd.Xa|apply Kd.xb));exact Wc.out) hb);have Ac:=ia.mk (Kd.Xb (by (with_reducible repeat (first|apply Kd.Ya|apply Kd.Xa|apply Kd.xb));exact tg.out) hb);have Ld:=ia.mk (Ka (by repeat (first|(with_reducible first|exact HB.out|apply ja|apply ga|apply oa)|exact HB.out)) hb);clear Nc Wc tg HB;have Nc:=Eb;have Wc:=Rb;have tg:=Ac;have HB:=Ld;clear Eb Rb Ac Ld;(try clear hb);(try clear hb2);(try clear hk);(try clear hi)));go_ret;exact ⟨by first|rfl|(simp [Na,Ma] <;> rfl)|(simp [*,Na,Ma] <;> rfl),by repeat (first|(with_reducible first|exact HB.out|apply ja|apply ga|apply oa)|exact HB.out)⟩
   ·replace c11:=Bool.eq_false_iff.mpr c11;subst c11;have H1:(none)=some r:=by rw [if_neg (show ¬ (false=true) by decide)] at H;exact H
    clear H;have H:=H1;clear H1;exact absurd H (by simp)
  ·rw [if_neg c8] at H;exact absurd H (by simp)
end Go.Proofs.YtgflknmbnblpaaaDoor.P
end
